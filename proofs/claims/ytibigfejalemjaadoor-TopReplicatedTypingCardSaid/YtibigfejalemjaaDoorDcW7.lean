/- Walks: each function comes to what its model says. -/
import Derived.Test.YtibigfejalemjaaDoorDcTab
import Derived.Test.YtibigfejalemjaaDoorDcM
import Derived.Test.YtibigfejalemjaaDoorDcW1
import Derived.Test.YtibigfejalemjaaDoorDcW5
import Derived.Test.YtibigfejalemjaaDoorDcW6
namespace Go.Dc
open Go Go.Proofs
set_option maxRecDepth 100000
set_option maxHeartbeats 4000000
set_option linter.unusedVariables false
theorem digest_Strings_ok {g : Gh} {fr : Hl} {w : World} {r : Int × Fault} (list : (List ByteArray)) (vlist1 : Value) (hlist1 : RepSl g list vlist1) (S : St g [] fr w) (hm : digest_Strings list = some r) :
  Calls Tryd.prog 7 [vlist1].toArray w (fun en w' => ∃ v, en = .returned v ∧ ∃ (g' : Gh), Le g g' ∧ St g' [] fr w' ∧ .tuple #[.i6 r.1, .agg #[.i6 r.2.Code, .i6 r.2.Index]] = v) := by
 unfold digest_Strings at hm
 refine calls_enter (fn := Tryd.f7) Tryd.func7 rfl Tryd.ntmps7 (lb rfl) ?_
 intro a F
 replace F : Fr 39 a [(0, vlist1)] := F
 refine wp_seq ?_
 refine wp_region_lit ?_
 refine wE (ev_assign rfl) F S rfl fun a F=>?_
 refine wl_alloc (wn rfl) rfl tz25 (cs := [.i6 0, .i6 0]) rfl F S rfl rfl ?_; clear F a S; rintro b1 a w F S
 refine wpList_nil ?_
 refine then_n ?_
 refine wp_seq ?_
 refine wp_seq ?_
 refine wp_region_lit ?_
 refine wE (ev_move rfl) F S rfl fun a F=>?_
 refine wE (ev_lenSh hlist1 rfl tu22) F S rfl fun a F=>?_
 refine wE (ev_int rfl rfl (bo_gtr _ _ _ _)) F S rfl fun a F=>?_
 refine wpList_nil ?_
 refine then_n ?_
 obtain ⟨hc1, hm⟩ | ⟨hc1, hm⟩ := ite_or hm
 ·refine wp_condT F rfl hc1 ?_
  refine wp_seq ?_
  refine wp_region_lit ?_
  refine wE (ev_build (parts := [(0, .const (.i6 2)), (1, .const (.i6 (-1)))]) (vs := [(0, .i6 2), (1, .i6 (-1))]) rfl (fun w => tb25_0_1 2 (-1) w)) F S rfl fun a F=>?_
  refine wE (ev_assign rfl) F S rfl fun a F=>?_
  refine wl_storeC (wn rfl) rfl F S rfl rfl (vs := [.i6 2, .i6 (-1)]) rfl ts25 (one_cons rfl (one_cons rfl one_nil)) (k := 0) rfl (lb rfl) (c' := #[.i6 2, .i6 (-1)]) rfl rfl ?_; clear S; intro w S
  refine wpList_nil ?_
  refine then_n ?_
  refine wp_ret ?_
  refine then_r ?_
  obtain rfl := sinj hm
  refine post_r _ F rfl (ar_cons (resT rfl) (ar_cons (resA rfl tu25 rfl (box_ptr (cells := [.i6 2, .i6 (-1)]) 0 rfl 0 rfl (lb rfl) w S) ts25) ar_nil)) ?_
  replace S : St g [] fr w := St.tail [] _ S
  exact ⟨_, rfl, g, (Le.refl _), S, rfl⟩
 ·refine wp_condF F rfl hc1 ?_
  refine wp_skip ?_
  refine then_n ?_
  refine wp_seq ?_
  refine wp_region_lit ?_
  refine wE (ev_assign rfl) F S rfl fun a F=>?_
  refine wpList_nil ?_
  refine then_n ?_
  refine wp_cut (fun a w => ∃ (x1 : Int) (g1 : Gh), Fr 39 a [(4, .i6 x1), (3, bp b1 0)] ∧ Le g g1 ∧ St g1 [[bx b1 #[.i6 0, .i6 0] 25]] fr w ∧ digest_Strings.j1 x1 = some r) ?_ ?_
  ·refine wp_seq ?_
   refine wp_region_lit ?_
   refine wE (ev_move rfl) F S rfl fun a F=>?_
   refine wE (ev_lenSh hlist1 rfl tu22) F S rfl fun a F=>?_
   refine wE (ev_move rfl) F S rfl fun a F=>?_
   refine wpList_nil ?_
   refine then_n ?_
   refine wp_block ?_
   obtain ⟨r1, hr1, hm⟩ := bind_some hm
   have hmo1 := hm; clear hm
   refine wp_iter (σ := Int × Int) (ρ := (Int × Fault) ⊕ Int) (m := fun s => digest_Strings.l1 list s.1 s.2) (I := fun s a w => match s with | (x2, x3) => ∃ (g2 : Gh), Fr 39 a [(15, .i6 x2), (14, .i6 (list.length : Int)), (13, vlist1), (4, .i6 x3), (3, bp b1 0)] ∧ Le g g2 ∧ St g2 [[bx b1 #[.i6 0, .i6 0] 25]] fr w) hr1 ?_ ?_
   ·dsimp only
    exact ⟨g, F.sub ⟨rfl, rfl, rfl, rfl, rfl, trivial⟩, (Le.refl _), S⟩
   ·clear F S; rintro ⟨x2, x3⟩ a w x4 ⟨g2, F, l2, S⟩ hx1 hfin1
    have hm : digest_Strings.l1 list x2 x3 = some x4 := hx1; clear hx1
    unfold digest_Strings.l1 at hm
    refine wp_seq ?_
    refine wp_region_lit ?_
    refine wE (ev_int rfl rfl (bo_lss _ _ _ _)) F S rfl fun a F=>?_
    refine wpList_nil ?_
    refine then_n ?_
    refine wp_seq ?_
    obtain ⟨hc2, hm⟩ | ⟨hc2, hm⟩ := ite_or hm
    ·refine wp_condT F rfl hc2 ?_
     refine wp_skip ?_
     refine then_n ?_
     refine wp_seq ?_
     refine wp_block ?_
     refine wp_seq ?_
     refine wp_region_lit ?_
     refine wE (ev_move rfl) F S rfl fun a F=>?_
     obtain ⟨y1, hy1, hm⟩ := bind_some hm
     obtain ⟨cs1, hr2, hp1⟩ := elemS (hlist1.mono l2) hy1
     obtain rfl := rep_str hr2
     refine wE (ev_idxS (hlist1.mono l2) hy1 tu22 ts9 rfl rfl) F S rfl fun a F=>?_
     refine wE (ev_load1 tu9 rfl rfl (ptr_mono (cks := [[bx b1 #[.i6 0, .i6 0] 25]]) (fr := fr) hp1 (Le.refl _))) F S rfl fun a F=>?_
     refine wE (ev_assign rfl) F S rfl fun a F=>?_
     refine wE (ev_assign rfl) F S rfl fun a F=>?_
     refine wpList_nil ?_
     refine then_n ?_
     refine wp_seq ?_
     refine wp_region_lit ?_
     refine wE (ev_move rfl) F S rfl fun a F=>?_
     refine wl_s2b (wn rfl) rfl tu9 tu67 tu5 rfl F S rfl rfl ?_; clear F a S; rintro g3 v1 a w l3 h1 F S
     replace S : St g3 [[bx b1 #[.i6 0, .i6 0] 25]] fr w := S
     obtain ⟨y2, hy2, hm⟩ := bind_some hm
     refine wl_call0 (wn rfl) rfl F rfl (digest_Of_ok (fr := (fl [[bx b1 #[.i6 0, .i6 0] 25]] fr)) y1.data.toList v1 h1 S hy2) rfl tc21 rfl rfl ?_; clear F a S
     rintro _ a w ⟨g4, l4, S, rfl⟩ F; replace S : St g4 [[bx b1 #[.i6 0, .i6 0] 25]] fr w := S
     refine wE (ev_move rfl) F S rfl fun a F=>?_
     refine wE (ev_extract rfl rfl) F S rfl fun a F=>?_
     refine wE (ev_extract rfl rfl) F S rfl fun a F=>?_
     refine wl_alloc (wn rfl) rfl tz25 (cs := [.i6 0, .i6 0]) rfl F S rfl rfl ?_; clear F a S; rintro b2 a w F S
     refine wE (ev_assign rfl) F S rfl fun a F=>?_
     refine wl_storeC (wn rfl) rfl F S rfl rfl (vs := [.i6 y2.2.Code, .i6 y2.2.Index]) rfl ts25 (one_cons rfl (one_cons rfl one_nil)) (k := 0) rfl (lb rfl) (c' := #[.i6 y2.2.Code, .i6 y2.2.Index]) rfl rfl ?_; clear S; intro w S
     refine wpList_nil ?_
     refine then_n ?_
     refine wp_seq ?_
     refine wp_seq ?_
     refine wp_region_lit ?_
     refine wE (ev_loadA tu25 rfl (cs := [.i6 y2.2.Code, .i6 y2.2.Index]) ts25 rfl (box_ptr (cells := [.i6 y2.2.Code, .i6 y2.2.Index]) 0 rfl 0 rfl (lb rfl))) F S rfl fun a F=>?_
     refine wE (ev_build (parts := []) (vs := []) rfl (fun w => tb25_  w)) F S rfl fun a F=>?_
     refine wE (ev_neS tu25 tqa25 tqb25 tqc25 (xs := [.i6 y2.2.Code, .i6 y2.2.Index]) (ys := [.i6 0, .i6 0]) rfl rfl ⟨_, _, rfl, by decide, ⟨_, _, rfl, rfl, leaf_int tu3⟩, ⟨_, _, rfl, by decide, ⟨_, _, rfl, rfl, leaf_int tu3⟩, rfl⟩⟩) F S rfl fun a F=>?_
     refine wpList_nil ?_
     refine then_n ?_
     obtain ⟨hc3, hm⟩ | ⟨hc3, hm⟩ := ite_or hm
     ·refine wp_condT F rfl hc3 ?_
      refine wp_seq ?_
      refine wp_dv [] mo S ?_; clear S; intro ok1 w S
      refine dv_et ok1 0 rfl (ev_fieldAddr' tu25 tf25_0 (z := 0) ts3 rfl ⟨_, rfl⟩ rfl) F rfl fun a F=>?_
      refine dv_ev ok1 1 rfl (ev_load1 tu3 rfl rfl (box_ptr (cells := [.i6 y2.2.Code]) 0 rfl 0 rfl (lb rfl))) F S rfl fun a F=>?_
      refine dv_et ok1 2 rfl (ev_move rfl) F rfl fun a F=>?_
      refine dv_et ok1 3 rfl (ev_build (parts := [(0, .tmp 30), (1, .tmp 31)]) (vs := [(0, .i6 y2.2.Code), (1, .i6 x2)]) rfl (fun w => tb25_0_1 y2.2.Code x2 w)) F rfl fun a F=>?_
      refine dv_et ok1 4 rfl (ev_assign rfl) F rfl fun a F=>?_
      refine dv_op ok1 5 rfl [] ?_
      refine wl_storeC (wn rfl) rfl F S rfl rfl (vs := [.i6 y2.2.Code, .i6 x2]) rfl ts25 (one_cons rfl (one_cons rfl one_nil)) (k := 1) rfl (lb rfl) (c' := #[.i6 y2.2.Code, .i6 x2]) rfl rfl ?_; clear S; intro w S
      refine dv_nx trivial ?_
      refine dv_fin ok1 ?_
      refine then_n ?_
      refine wp_ret ?_
      refine then_r ?_
      refine inb_r ?_
      refine then_r ?_
      refine then_r ?_
      refine inb_r ?_
      refine then_r ?_
      obtain rfl := sinj hm
      obtain rfl := hfin1 _ rfl
      clear hm
      have hm : (some (0, ({ Code := y2.2.Code, Index := x2 } : Fault)) : Option (Int × Fault)) = some _ := hmo1
      obtain rfl := sinj hm
      refine post_r _ F rfl (ar_cons (resT rfl) (ar_cons (resA rfl tu25 rfl (box_ptr (cells := [.i6 y2.2.Code, .i6 x2]) 1 rfl 0 rfl (lb rfl) w S) ts25) ar_nil)) ?_
      replace S : St g4 [] fr w := St.tail [] _ S
      exact ⟨_, rfl, g4, ((l2.trans l3).trans l4), S, rfl⟩
     ·refine wp_condF F rfl hc3 ?_
      refine wp_skip ?_
      refine then_n ?_
      refine wp_region_lit ?_
      refine wE (ev_move rfl) F S rfl fun a F=>?_
      refine wE (ev_move rfl) F S rfl fun a F=>?_
      obtain ⟨y3, hy3, hm⟩ := bind_some hm
      refine wl_call0 (wn rfl) rfl F rfl (digest_pair_ok (fr := (fl [[bx b2 #[.i6 y2.2.Code, .i6 y2.2.Index] 25], [bx b1 #[.i6 0, .i6 0] 25]] fr)) x3 y2.1 S hy3) rfl tc22 rfl rfl ?_; clear F a S
      rintro _ a w ⟨g5, l5, S, rfl⟩ F; replace S : St g5 [[bx b2 #[.i6 y2.2.Code, .i6 y2.2.Index] 25], [bx b1 #[.i6 0, .i6 0] 25]] fr w := S
      refine wE (ev_assign rfl) F S rfl fun a F=>?_
      refine wpList_nil ?_
      refine inb_n ?_
      refine then_n ?_
      refine wp_region_lit ?_
      obtain ⟨z1, hz1, hm⟩ := bind_some hm
      refine wE (ev_int rfl rfl (bo_add hz1)) F S rfl fun a F=>?_
      refine wE (ev_move rfl) F S rfl fun a F=>?_
      refine wpList_nil ?_
      refine then_n ?_
      obtain rfl := sinj hm
      refine ⟨_, rfl, ?_⟩
      dsimp only
      replace S : St g5 [[bx b1 #[.i6 0, .i6 0] 25]] fr w := St.tail [[bx b1 #[.i6 0, .i6 0] 25]] _ (S.frontC 1 rfl)
      exact ⟨g5, F.sub ⟨rfl, rfl, rfl, rfl, rfl, trivial⟩, (((l2.trans l3).trans l4).trans l5), S⟩
    ·refine wp_condF F rfl hc2 ?_
     refine wp_exit ?_
     refine then_e ?_
     refine then_e ?_
     refine inb_x ?_
     refine then_n ?_
     obtain rfl := sinj hm
     obtain rfl := hfin1 _ rfl
     clear hm
     have hm : (digest_Strings.j1 x3 : Option (Int × Fault)) = some _ := hmo1
     exact ⟨x3, g2, F.sub ⟨rfl, rfl, trivial⟩, l2, S, hm⟩
  ·clear F S hm; rintro a w ⟨x1, g1, F, l1, S, hm⟩
   refine wp_seq ?_
   refine wp_region_lit ?_
   refine wE (ev_move rfl) F S rfl fun a F=>?_
   refine wE (ev_build (parts := []) (vs := []) rfl (fun w => tb25_  w)) F S rfl fun a F=>?_
   refine wE (ev_assign rfl) F S rfl fun a F=>?_
   refine wl_storeC (wn rfl) rfl F S rfl rfl (vs := [.i6 0, .i6 0]) rfl ts25 (one_cons rfl (one_cons rfl one_nil)) (k := 0) rfl (lb rfl) (c' := #[.i6 0, .i6 0]) rfl rfl ?_; clear S; intro w S
   refine wpList_nil ?_
   refine then_n ?_
   refine wp_ret ?_
   obtain rfl := sinj hm
   refine post_r _ F rfl (ar_cons (resT rfl) (ar_cons (resA rfl tu25 rfl (box_ptr (cells := [.i6 0, .i6 0]) 0 rfl 0 rfl (lb rfl) w S) ts25) ar_nil)) ?_
   replace S : St g1 [] fr w := St.tail [] _ S
   exact ⟨_, rfl, g1, l1, S, rfl⟩

theorem changeforgetop_TopReplicatedTyping_ok {g : Gh} {fr : Hl} {w : World} {r : Bool} (l_ : (List ByteArray)) (vl_1 : Value) (hl_1 : RepSl g l_ vl_1) (gone : (List Bool)) (vgone1 : Value) (hgone1 : RepSl g gone vgone1) (S : St g [] fr w) (hm : changeforgetop_TopReplicatedTyping l_ gone = some r) :
  Calls Tryd.prog 3 [vl_1, vgone1].toArray w (fun en w' => ∃ v, en = .returned v ∧ ∃ (g' : Gh), Le g g' ∧ St g' [] fr w' ∧ .bool r = v) := by
 unfold changeforgetop_TopReplicatedTyping at hm
 refine calls_enter (fn := Tryd.f3) Tryd.func3 rfl Tryd.ntmps3 (lb rfl) ?_
 intro a F
 replace F : Fr 118 a [(0, vl_1), (1, vgone1)] := F
 refine wp_seq ?_
 refine wp_region_lit ?_
 refine wE (ev_assign rfl) F S rfl fun a F=>?_
 refine wpList_nil ?_
 refine then_n ?_
 refine wp_seq ?_
 refine wp_seq ?_
 refine wp_region_lit ?_
 refine wE (ev_move rfl) F S rfl fun a F=>?_
 obtain ⟨y1, hy1, hm⟩ := bind_some hm
 refine wl_call0 (wn rfl) rfl F rfl (lines_Validate_ok l_ vl_1 hl_1 S hy1) rfl tc4 rfl rfl ?_; clear F a S
 rintro _ a w ⟨g1, l1, S, rfl⟩ F; replace S : St g1 [] fr w := S
 refine wE (ev_field1 tu25 tf25_0 tu3 rfl (cs := [.i6 y1.Code, .i6 y1.Index]) rfl rfl) F S rfl fun a F=>?_
 refine wE (ev_int rfl rfl (bo_neq _ _ _ _)) F S rfl fun a F=>?_
 refine wE (ev_move rfl) F S rfl fun a F=>?_
 obtain ⟨x1, hx1, hm⟩ := bind_some hm
 refine wl_cut 5 (fun a w' => w = w' ∧ Fr 118 a [(24, .bool x1), (0, vl_1), (1, vgone1)]) ?_ ?_
 ·clear hm; obtain ⟨hc1, hm⟩ | ⟨hc1, hm⟩ := ite_or hx1
  ·refine wl_skip rfl rfl rfl rfl (ne_ft hc1) F rfl rfl ?_; clear F a; intro a F
   refine wl_skip rfl rfl rfl rfl (ne_ft hc1) F rfl rfl ?_; clear F a; intro a F
   refine wl_skip rfl rfl rfl rfl (ne_ft hc1) F rfl rfl ?_; clear F a; intro a F
   refine wl_skip rfl rfl rfl rfl (ne_ft hc1) F rfl rfl ?_; clear F a; intro a F
   refine wE (ev_pickT rfl hc1 rfl) F S rfl fun a F=>?_
   obtain rfl := sinj hm
   refine wpList_nil (then_n ?_); exact ⟨rfl, F.sub ⟨rfl, rfl, rfl, trivial⟩⟩
  ·refine wl_ev (wg F rfl rfl rfl rfl hc1) (ev_move rfl) F S rfl rfl ?_; clear F a; intro a F
   refine wl_ev (wg F rfl rfl rfl rfl hc1) (ev_lenSh hl_1 rfl tu22) F S rfl rfl ?_; clear F a; intro a F
   obtain ⟨z1, hz1, hm⟩ := bind_some hm
   refine wl_ev (wg F rfl rfl rfl rfl hc1) (ev_int rfl rfl (bo_mul hz1)) F S rfl rfl ?_; clear F a; intro a F
   refine wl_ev (wg F rfl rfl rfl rfl hc1) (ev_int rfl rfl (bo_gtr _ _ _ _)) F S rfl rfl ?_; clear F a; intro a F
   refine wE (ev_pickF rfl hc1 rfl) F S rfl fun a F=>?_
   obtain rfl := sinj hm
   refine wpList_nil (then_n ?_); exact ⟨rfl, F.sub ⟨rfl, rfl, rfl, trivial⟩⟩
 clear F; rintro a w' ⟨rfl, F⟩
 refine wE (ev_move rfl) F S rfl fun a F=>?_
 obtain ⟨x2, hx2, hm⟩ := bind_some hm
 refine wl_cut 6 (fun a w' => w = w' ∧ Fr 118 a [(31, .bool x2), (0, vl_1), (1, vgone1)]) ?_ ?_
 ·clear hm; obtain ⟨hc2, hm⟩ | ⟨hc2, hm⟩ := ite_or hx2
  ·refine wl_skip rfl rfl rfl rfl (ne_ft hc2) F rfl rfl ?_; clear F a; intro a F
   refine wl_skip rfl rfl rfl rfl (ne_ft hc2) F rfl rfl ?_; clear F a; intro a F
   refine wl_skip rfl rfl rfl rfl (ne_ft hc2) F rfl rfl ?_; clear F a; intro a F
   refine wl_skip rfl rfl rfl rfl (ne_ft hc2) F rfl rfl ?_; clear F a; intro a F
   refine wl_skip rfl rfl rfl rfl (ne_ft hc2) F rfl rfl ?_; clear F a; intro a F
   refine wE (ev_pickT rfl hc2 rfl) F S rfl fun a F=>?_
   obtain rfl := sinj hm
   refine wpList_nil (then_n ?_); exact ⟨rfl, F.sub ⟨rfl, rfl, rfl, trivial⟩⟩
  ·refine wl_ev (wg F rfl rfl rfl rfl hc2) (ev_move rfl) F S rfl rfl ?_; clear F a; intro a F
   refine wl_ev (wg F rfl rfl rfl rfl hc2) (ev_lenSh hgone1 rfl tu23) F S rfl rfl ?_; clear F a; intro a F
   refine wl_ev (wg F rfl rfl rfl rfl hc2) (ev_move rfl) F S rfl rfl ?_; clear F a; intro a F
   refine wl_ev (wg F rfl rfl rfl rfl hc2) (ev_lenSh hl_1 rfl tu22) F S rfl rfl ?_; clear F a; intro a F
   refine wl_ev (wg F rfl rfl rfl rfl hc2) (ev_int rfl rfl (bo_gtr _ _ _ _)) F S rfl rfl ?_; clear F a; intro a F
   refine wE (ev_pickF rfl hc2 rfl) F S rfl fun a F=>?_
   obtain rfl := sinj hm
   refine wpList_nil (then_n ?_); exact ⟨rfl, F.sub ⟨rfl, rfl, rfl, trivial⟩⟩
 clear F; rintro a w' ⟨rfl, F⟩
 refine wpList_nil ?_
 refine then_n ?_
 obtain ⟨hc3, hm⟩ | ⟨hc3, hm⟩ := ite_or hm
 ·refine wp_condT F rfl hc3 ?_
  refine wp_seq ?_
  refine wp_region_lit ?_
  obtain ⟨y2, hy2, hm⟩ := bind_some hm
  refine wl_call0 (wn rfl) rfl F rfl (changeforgetop_h11Works_ok  S hy2) rfl tc5 rfl rfl ?_; clear F a S
  rintro _ a w ⟨g2, l2, S, rfl⟩ F; replace S : St g2 [] fr w := S
  refine wE (ev_assign rfl) F S rfl fun a F=>?_
  refine wpList_nil ?_
  refine then_n ?_
  refine wp_ret ?_
  refine then_r ?_
  obtain rfl := sinj hm
  refine post_r _ F rfl (ar_cons (resT rfl) ar_nil) ?_
  exact ⟨_, rfl, g2, (l1.trans l2), S, rfl⟩
 ·refine wp_condF F rfl hc3 ?_
  refine wp_skip ?_
  refine then_n ?_
  refine wp_seq ?_
  refine wp_region_lit ?_
  refine wE (ev_assign rfl) F S rfl fun a F=>?_
  refine wpList_nil ?_
  refine then_n ?_
  refine wp_seq ?_
  refine wp_region_lit ?_
  refine wE (ev_assign rfl) F S rfl fun a F=>?_
  refine wpList_nil ?_
  refine then_n ?_
  refine wp_cut (fun a w => ∃ (x3 : List ByteArray) (x4 : List SeqOp) (v1 v2 : Value) (c1 c2 : Hl) (g3 : Gh), Fr 118 a [(6, v1), (5, v2)] ∧ Le g1 g3 ∧ St g3 [c1, c2] fr w ∧ OwnS g3 x3 v1 c1 ∧ OwnS g3 x4 v2 c2 ∧ changeforgetop_TopReplicatedTyping.j1 x3 x4 = some r) ?_ ?_
  ·refine wp_seq ?_
   refine wp_region_lit ?_
   refine wE (ev_assign rfl) F S rfl fun a F=>?_
   refine wpList_nil ?_
   refine then_n ?_
   refine wp_block ?_
   obtain ⟨r1, hr1, hm⟩ := bind_some hm
   have hmo1 := hm; clear hm
   refine wp_iter (σ := Int × (List ByteArray) × (List SeqOp)) (ρ := (List ByteArray) × (List SeqOp)) (m := fun s => changeforgetop_TopReplicatedTyping.l1 l_ gone s.1 s.2.1 s.2.2) (I := fun s a w => match s with | (x10, x11, x12) => ∃ (v4 v5 : Value) (c4 c5 : Hl) (g14 : Gh), Fr 118 a [(7, .i6 x10), (6, v4), (5, v5), (0, vl_1), (1, vgone1)] ∧ Le g1 g14 ∧ St g14 [c4, c5] fr w ∧ OwnS g14 x11 v4 c4 ∧ OwnS g14 x12 v5 c5) hr1 ?_ ?_
   ·dsimp only
    replace S : St g1 [[]] fr w := S
    replace S : St g1 [[], []] fr w := S
    replace S : St g1 [[], []] fr w := St.tail [[], []] _ ((S.frontC 0 rfl).frontC 2 rfl)
    exact ⟨(nilS), (nilS), [], [], g1, F.sub ⟨rfl, rfl, rfl, rfl, rfl, trivial⟩, (Le.refl _), S, (OwnS.nil _), (OwnS.nil _)⟩
   ·clear F S; rintro ⟨x10, x11, x12⟩ a w x13 ⟨v4, v5, c4, c5, g14, F, l14, S, h7, h8⟩ hx8 hfin1
    have hm : changeforgetop_TopReplicatedTyping.l1 l_ gone x10 x11 x12 = some x13 := hx8; clear hx8
    unfold changeforgetop_TopReplicatedTyping.l1 at hm
    refine wp_seq ?_
    refine wp_seq ?_
    refine wp_region_lit ?_
    refine wE (ev_move rfl) F S rfl fun a F=>?_
    refine wE (ev_move rfl) F S rfl fun a F=>?_
    refine wE (ev_lenSh hl_1 rfl tu22) F S rfl fun a F=>?_
    refine wE (ev_int rfl rfl (bo_lss _ _ _ _)) F S rfl fun a F=>?_
    refine wpList_nil ?_
    refine then_n ?_
    obtain ⟨hc9, hm⟩ | ⟨hc9, hm⟩ := ite_or hm
    ·refine wp_condT F rfl hc9 ?_
     refine wp_skip ?_
     refine then_n ?_
     refine wp_cut (fun a w => ∃ (x14 : List SeqOp) (x15 : List ByteArray) (v6 v7 : Value) (c6 c7 : Hl) (g15 : Gh), Fr 118 a [(5, v6), (7, .i6 x10), (6, v7), (0, vl_1), (1, vgone1)] ∧ Le g14 g15 ∧ St g15 [c6, c7] fr w ∧ OwnS g15 x14 v6 c6 ∧ OwnS g15 x15 v7 c7 ∧ changeforgetop_TopReplicatedTyping.j2 x10 x14 x15 = some x13) ?_ ?_
     ·refine wp_block ?_
      refine wp_seq ?_
      refine wp_region_lit ?_
      refine wE (ev_move rfl) F S rfl fun a F=>?_
      obtain ⟨z3, hz3, hm⟩ := bind_some hm
      refine wE (ev_int rfl rfl (bo_add hz3)) F S rfl fun a F=>?_
      refine wE (ev_move rfl) F S rfl fun a F=>?_
      refine wE (ev_move rfl) F S rfl fun a F=>?_
      refine wE (ev_move rfl) F S rfl fun a F=>?_
      obtain ⟨y8, hy8, hm⟩ := bind_some hm
      obtain ⟨cs1, hr2, hp1⟩ := elemS (hl_1.mono (l1.trans l14)) hy8
      obtain rfl := rep_str hr2
      refine wE (ev_idxS (hl_1.mono (l1.trans l14)) hy8 tu22 ts9 rfl rfl) F S rfl fun a F=>?_
      refine wE (ev_load1 tu9 rfl rfl (ptr_mono (cks := [c4, c5]) (fr := fr) hp1 (Le.refl _))) F S rfl fun a F=>?_
      refine wE (ev_build (parts := [(2, .tmp 40), (1, .const (.i6 1)), (4, .tmp 41), (3, .const (.i6 1)), (5, .tmp 45)]) (vs := [(2, .i6 z3), (1, .i6 1), (4, .i6 x10), (3, .i6 1), (5, .string y8)]) rfl (fun w => tb30_2_1_4_3_5 z3 1 x10 1 y8 w)) F S rfl fun a F=>?_
      refine wl_alloc (wn rfl) rfl tz30 (cs := [.bool false, .i6 0, .i6 0, .i6 0, .i6 0, .string ByteArray.empty]) rfl F S rfl rfl ?_; clear F a S; rintro b4 a w F S
      refine wl_storeC (wn rfl) rfl F S rfl rfl (vs := [.bool false, .i6 1, .i6 z3, .i6 1, .i6 x10, .string y8]) rfl ts30 (one_cons rfl (one_cons rfl (one_cons rfl (one_cons rfl (one_cons rfl (one_cons rfl one_nil)))))) (k := 0) rfl (lb rfl) (c' := #[.bool false, .i6 1, .i6 z3, .i6 1, .i6 x10, .string y8]) rfl rfl ?_; clear S; intro w S
      refine wpList_nil ?_
      refine then_n ?_
      refine wp_cut (fun a w => ∃ (x16 : Int) (g16 : Gh), Fr 118 a [(8, bp b4 0), (7, .i6 x10), (6, v4), (5, v5), (0, vl_1), (1, vgone1)] ∧ Le g14 g16 ∧ St g16 [[bx b4 #[.bool false, .i6 1, .i6 z3, .i6 x16, .i6 x10, .string y8] 30], c4, c5] fr w ∧ changeforgetop_TopReplicatedTyping.j3 l_ gone x10 x11 x12 z3 y8 x16 = some x13) ?_ ?_
      ·refine wp_seq ?_
       refine wp_region_lit ?_
       refine wE (ev_move rfl) F S rfl fun a F=>?_
       refine wE (ev_int rfl rfl (bo_eql _ _ _ _)) F S rfl fun a F=>?_
       refine wpList_nil ?_
       refine then_n ?_
       obtain ⟨hc12, hm⟩ | ⟨hc12, hm⟩ := ite_or hm
       ·refine wp_condT F rfl hc12 ?_
        refine wp_region_lit ?_
        refine wE (ev_fieldAddr' tu30 tf30_3 (z := 0) ts3 rfl ⟨_, rfl⟩ rfl) F S rfl fun a F=>?_
        refine wl_storeC (wn rfl) rfl F S rfl rfl (vs := [.i6 0]) rfl ts3 (one_cons rfl one_nil) (k := 0) rfl (lb rfl) (c' := #[.bool false, .i6 1, .i6 z3, .i6 0, .i6 x10, .string y8]) rfl rfl ?_; clear S; intro w S
        refine wpList_nil ?_
        refine then_n ?_
        exact ⟨0, g14, F.sub ⟨rfl, rfl, rfl, rfl, rfl, rfl, trivial⟩, (Le.refl _), S, hm⟩
       ·refine wp_condF F rfl hc12 ?_
        refine wp_skip ?_
        refine then_n ?_
        exact ⟨1, g14, F.sub ⟨rfl, rfl, rfl, rfl, rfl, rfl, trivial⟩, (Le.refl _), S, hm⟩
      ·clear F S hm; rintro a w ⟨x16, g16, F, l16, S, hm⟩
       refine wp_seq ?_
       refine wp_region_lit ?_
       refine wE (ev_move rfl) F S rfl fun a F=>?_
       refine wE (ev_loadA tu30 rfl (cs := [.bool false, .i6 1, .i6 z3, .i6 x16, .i6 x10, .string y8]) ts30 rfl (box_ptr (cells := [.bool false, .i6 1, .i6 z3, .i6 x16, .i6 x10, .string y8]) 0 rfl 0 rfl (lb rfl))) F S rfl fun a F=>?_
       refine wl_lit (l := ([({ Delete := false, Replica := 1, Counter := z3, AfterReplica := x16, AfterCounter := x10, Line := y8 } : SeqOp)] : List SeqOp)) (vs := [.agg #[.bool false, .i6 1, .i6 z3, .i6 x16, .i6 x10, .string y8]]) (parts := [(0, .tmp 51)]) (wn rfl) rfl rfl rfl tu28 te30 (sz_cons rfl sz_nil) rfl (Cat.cons (rep_SeqOp_mk (x := ({ Delete := false, Replica := 1, Counter := z3, AfterReplica := x16, AfterCounter := x10, Line := y8 } : SeqOp)) ) (Cat.nil _)) (coa_cons rfl coa_nil) rfl F S rfl rfl ?_; clear F a S
       rintro v8 c8 a w h11 F S
       obtain ⟨cs2, hk1, hr3⟩ := OwnS.reads h11
       obtain ⟨y9, hy9, hm⟩ := bind_some hm
       refine wl_append (wn rfl) rfl tu28 tu28 te30 (by decide) (by decide) F S rfl rfl (k := 3) rfl (h8.mono l16) hk1 rfl (hr3 _ _ _ 0 rfl S) hy9 rfl rfl ?_; clear F a S
       rintro v9 c9 a w h12 S F; replace S : St g16 [c8, [bx b4 #[.bool false, .i6 1, .i6 z3, .i6 x16, .i6 x10, .string y8] 30], c4, c9] fr w := S
       refine wE (ev_assign rfl) F S rfl fun a F=>?_
       refine wpList_nil ?_
       refine then_n ?_
       refine wp_seq ?_
       refine wp_region_lit ?_
       refine wE (ev_move rfl) F S rfl fun a F=>?_
       refine wE (ev_move rfl) F S rfl fun a F=>?_
       refine wE (ev_lenSh hgone1 rfl tu23) F S rfl fun a F=>?_
       refine wE (ev_int rfl rfl (bo_lss _ _ _ _)) F S rfl fun a F=>?_
       refine wE (ev_move rfl) F S rfl fun a F=>?_
       obtain ⟨x17, hx9, hm⟩ := bind_some hm
       refine wl_cut 5 (fun a w' => w = w' ∧ Fr 118 a [(63, .bool x17), (5, v9), (7, .i6 x10), (6, v4), (0, vl_1), (1, vgone1)]) ?_ ?_
       ·clear hm; obtain ⟨hc10, hm⟩ | ⟨hc10, hm⟩ := ite_or hx9
        ·refine wl_ev (wg F rfl rfl rfl rfl hc10) (ev_move rfl) F S rfl rfl ?_; clear F a; intro a F
         refine wl_ev (wg F rfl rfl rfl rfl hc10) (ev_move rfl) F S rfl rfl ?_; clear F a; intro a F
         obtain ⟨y10, hy10, hm⟩ := bind_some hm
         obtain ⟨cs3, hr4, hp2⟩ := elemS (hgone1.mono ((l1.trans l14).trans l16)) hy10
         obtain rfl := rep_bool hr4
         refine wl_ev (wg F rfl rfl rfl rfl hc10) (ev_idxS (hgone1.mono ((l1.trans l14).trans l16)) hy10 tu23 ts4 rfl rfl) F S rfl rfl ?_; clear F a; intro a F
         refine wl_ev (wg F rfl rfl rfl rfl hc10) (ev_load1 tu4 rfl rfl (ptr_mono (cks := [c8, [bx b4 #[.bool false, .i6 1, .i6 z3, .i6 x16, .i6 x10, .string y8] 30], c4, c9]) (fr := fr) hp2 (Le.refl _))) F S rfl rfl ?_; clear F a; intro a F
         refine wE (ev_pickT rfl hc10 rfl) F S rfl fun a F=>?_
         obtain rfl := sinj hm
         refine wpList_nil (then_n ?_); exact ⟨rfl, F.sub ⟨rfl, rfl, rfl, rfl, rfl, rfl, trivial⟩⟩
        ·refine wl_skip rfl rfl rfl rfl (ne_tf hc10) F rfl rfl ?_; clear F a; intro a F
         refine wl_skip rfl rfl rfl rfl (ne_tf hc10) F rfl rfl ?_; clear F a; intro a F
         refine wl_skip rfl rfl rfl rfl (ne_tf hc10) F rfl rfl ?_; clear F a; intro a F
         refine wl_skip rfl rfl rfl rfl (ne_tf hc10) F rfl rfl ?_; clear F a; intro a F
         refine wE (ev_pickF rfl hc10 rfl) F S rfl fun a F=>?_
         obtain rfl := sinj hm
         refine wpList_nil (then_n ?_); exact ⟨rfl, F.sub ⟨rfl, rfl, rfl, rfl, rfl, rfl, trivial⟩⟩
       clear F; rintro a w' ⟨rfl, F⟩
       refine wpList_nil ?_
       refine then_n ?_
       obtain ⟨hc11, hm⟩ | ⟨hc11, hm⟩ := ite_or hm
       ·refine wp_condT F rfl hc11 ?_
        refine wp_region_lit ?_
        refine wE (ev_move rfl) F S rfl fun a F=>?_
        refine wE (ev_move rfl) F S rfl fun a F=>?_
        obtain ⟨z4, hz4, hm⟩ := bind_some hm
        refine wE (ev_int rfl rfl (bo_add hz4)) F S rfl fun a F=>?_
        refine wE (ev_build (parts := [(0, .const (.bool true)), (2, .tmp 66), (1, .const (.i6 1))]) (vs := [(0, .bool true), (2, .i6 z4), (1, .i6 1)]) rfl (fun w => tb30_0_2_1 true z4 1 w)) F S rfl fun a F=>?_
        refine wl_lit (l := ([({ Delete := true, Replica := 1, Counter := z4, AfterReplica := 0, AfterCounter := 0, Line := ByteArray.empty } : SeqOp)] : List SeqOp)) (vs := [.agg #[.bool true, .i6 1, .i6 z4, .i6 0, .i6 0, .string ByteArray.empty]]) (parts := [(0, .tmp 67)]) (wn rfl) rfl rfl rfl tu28 te30 (sz_cons rfl sz_nil) rfl (Cat.cons (rep_SeqOp_mk (x := ({ Delete := true, Replica := 1, Counter := z4, AfterReplica := 0, AfterCounter := 0, Line := ByteArray.empty } : SeqOp)) ) (Cat.nil _)) (coa_cons rfl coa_nil) rfl F S rfl rfl ?_; clear F a S
        rintro v10 c10 a w h13 F S
        obtain ⟨cs4, hk2, hr5⟩ := OwnS.reads h13
        obtain ⟨y11, hy11, hm⟩ := bind_some hm
        refine wl_append (wn rfl) rfl tu28 tu28 te30 (by decide) (by decide) F S rfl rfl (k := 4) rfl h12 hk2 rfl (hr5 _ _ _ 0 rfl S) hy11 rfl rfl ?_; clear F a S
        rintro v11 c11 a w h14 S F; replace S : St g16 [c10, c8, [bx b4 #[.bool false, .i6 1, .i6 z3, .i6 x16, .i6 x10, .string y8] 30], c4, c11] fr w := S
        refine wE (ev_assign rfl) F S rfl fun a F=>?_
        refine wpList_nil ?_
        refine inb_n ?_
        refine then_n ?_
        replace S : St g16 [c11, c4] fr w := St.tail [c11, c4] _ ((S.frontC 3 rfl).frontC 5 rfl)
        exact ⟨y11, x11, v11, v4, c11, c4, g16, F.sub ⟨rfl, rfl, rfl, rfl, rfl, trivial⟩, l16, S, h14, (h7.mono l16), hm⟩
       ·refine wp_condF F rfl hc11 ?_
        refine wp_region_lit ?_
        refine wE (ev_move rfl) F S rfl fun a F=>?_
        refine wE (ev_move rfl) F S rfl fun a F=>?_
        refine wE (ev_move rfl) F S rfl fun a F=>?_
        obtain ⟨y12, hy12, hm⟩ := bind_some hm
        obtain ⟨cs5, hr6, hp3⟩ := elemS (hl_1.mono ((l1.trans l14).trans l16)) hy12
        obtain rfl := rep_str hr6
        refine wE (ev_idxS (hl_1.mono ((l1.trans l14).trans l16)) hy12 tu22 ts9 rfl rfl) F S rfl fun a F=>?_
        refine wE (ev_load1 tu9 rfl rfl (ptr_mono (cks := [c8, [bx b4 #[.bool false, .i6 1, .i6 z3, .i6 x16, .i6 x10, .string y8] 30], c4, c9]) (fr := fr) hp3 (Le.refl _))) F S rfl fun a F=>?_
        refine wl_lit (l := ([y12] : List ByteArray)) (vs := [.string y12]) (parts := [(0, .tmp 74)]) (wn rfl) rfl rfl rfl tu22 te9 (sz_cons rfl sz_nil) rfl (Cat.cons (show Rep.rep _ y12 _ from rfl) (Cat.nil _)) (coa_cons rfl coa_nil) rfl F S rfl rfl ?_; clear F a S
        rintro v12 c12 a w h15 F S
        obtain ⟨cs6, hk3, hr7⟩ := OwnS.reads h15
        obtain ⟨y13, hy13, hm⟩ := bind_some hm
        refine wl_append (wn rfl) rfl tu22 tu22 te9 (by decide) (by decide) F S rfl rfl (k := 3) rfl (h7.mono l16) hk3 rfl (hr7 _ _ _ 0 rfl S) hy13 rfl rfl ?_; clear F a S
        rintro v13 c13 a w h16 S F; replace S : St g16 [c12, c8, [bx b4 #[.bool false, .i6 1, .i6 z3, .i6 x16, .i6 x10, .string y8] 30], c13, c9] fr w := S
        refine wE (ev_assign rfl) F S rfl fun a F=>?_
        refine wpList_nil ?_
        refine inb_n ?_
        refine then_n ?_
        replace S : St g16 [c9, c13] fr w := St.tail [c9, c13] _ ((S.frontC 3 rfl).frontC 5 rfl)
        exact ⟨y9, y13, v9, v13, c9, c13, g16, F.sub ⟨rfl, rfl, rfl, rfl, rfl, trivial⟩, l16, S, h12, h16, hm⟩
     ·clear F S hm; rintro a w ⟨x14, x15, v6, v7, c6, c7, g15, F, l15, S, h9, h10, hm⟩
      refine wp_region_lit ?_
      refine wE (ev_move rfl) F S rfl fun a F=>?_
      obtain ⟨z2, hz2, hm⟩ := bind_some hm
      refine wE (ev_int rfl rfl (bo_add hz2)) F S rfl fun a F=>?_
      refine wE (ev_assign rfl) F S rfl fun a F=>?_
      refine wpList_nil ?_
      refine then_n ?_
      obtain rfl := sinj hm
      refine ⟨_, rfl, ?_⟩
      dsimp only
      replace S : St g15 [c7, c6] fr w := St.tail [c7, c6] _ ((S.frontC 0 rfl).frontC 2 rfl)
      exact ⟨v7, v6, c7, c6, g15, F.sub ⟨rfl, rfl, rfl, rfl, rfl, trivial⟩, (l14.trans l15), S, h10, h9⟩
    ·refine wp_condF F rfl hc9 ?_
     refine wp_exit ?_
     refine then_e ?_
     refine then_e ?_
     refine inb_x ?_
     refine then_n ?_
     obtain rfl := sinj hm
     obtain rfl := hfin1 _ rfl
     clear hm
     have hm : (changeforgetop_TopReplicatedTyping.j1 x11 x12 : Option Bool) = some _ := hmo1
     exact ⟨x11, x12, v4, v5, c4, c5, g14, F.sub ⟨rfl, rfl, trivial⟩, l14, S, h7, h8, hm⟩
  ·clear F S hm; rintro a w ⟨x3, x4, v1, v2, c1, c2, g3, F, l3, S, h1, h2, hm⟩
   refine wp_seq ?_
   refine wp_region_lit ?_
   refine wE (ev_move rfl) F S rfl fun a F=>?_
   obtain ⟨g4, l4, S, h3⟩ : ∃ gz, Le g3 gz ∧ St gz [c1] fr w ∧ RepSl gz x4 v2 := ⟨_, Le.add _ _, S.freeze 1 rfl, OwnS.freeze (S.front 1 rfl) h2⟩
   obtain ⟨y3, hy3, hm⟩ := bind_some hm
   refine wl_call0 (wn rfl) rfl F rfl (sequence_Visible_ok (fr := (fl [c1] fr)) x4 v2 h3 S hy3) rfl tc6 rfl rfl ?_; clear F a S
   rintro _ a w ⟨g5, v3, c3, l5, S, h4, rfl⟩ F; replace S : St g5 [c3, c1] fr w := S
   refine wE (ev_move rfl) F S rfl fun a F=>?_
   refine wE (ev_extract rfl rfl) F S rfl fun a F=>?_
   refine wE (ev_extract rfl rfl) F S rfl fun a F=>?_
   refine wl_alloc (wn rfl) rfl tz25 (cs := [.i6 0, .i6 0]) rfl F S rfl rfl ?_; clear F a S; rintro b1 a w F S
   refine wE (ev_assign rfl) F S rfl fun a F=>?_
   refine wl_storeC (wn rfl) rfl F S rfl rfl (vs := [.i6 y3.2.Code, .i6 y3.2.Index]) rfl ts25 (one_cons rfl (one_cons rfl one_nil)) (k := 0) rfl (lb rfl) (c' := #[.i6 y3.2.Code, .i6 y3.2.Index]) rfl rfl ?_; clear S; intro w S
   refine wpList_nil ?_
   refine then_n ?_
   refine wp_seq ?_
   refine wp_region_lit ?_
   refine wE (ev_move rfl) F S rfl fun a F=>?_
   obtain ⟨g6, l6, S, h5⟩ : ∃ gz, Le g5 gz ∧ St gz [[bx b1 #[.i6 y3.2.Code, .i6 y3.2.Index] 25], c1] fr w ∧ RepSl gz y3.1 v3 := ⟨_, Le.add _ _, S.freeze 1 rfl, OwnS.freeze (S.front 1 rfl) h4⟩
   obtain ⟨y4, hy4, hm⟩ := bind_some hm
   refine wl_call0 (wn rfl) rfl F rfl (digest_Strings_ok (fr := (fl [[bx b1 #[.i6 y3.2.Code, .i6 y3.2.Index] 25], c1] fr)) y3.1 v3 h5 S hy4) rfl tc7 rfl rfl ?_; clear F a S
   rintro _ a w ⟨g7, l7, S, rfl⟩ F; replace S : St g7 [[bx b1 #[.i6 y3.2.Code, .i6 y3.2.Index] 25], c1] fr w := S
   refine wE (ev_move rfl) F S rfl fun a F=>?_
   refine wE (ev_extract rfl rfl) F S rfl fun a F=>?_
   refine wE (ev_extract rfl rfl) F S rfl fun a F=>?_
   refine wl_alloc (wn rfl) rfl tz25 (cs := [.i6 0, .i6 0]) rfl F S rfl rfl ?_; clear F a S; rintro b2 a w F S
   refine wE (ev_assign rfl) F S rfl fun a F=>?_
   refine wl_storeC (wn rfl) rfl F S rfl rfl (vs := [.i6 y4.2.Code, .i6 y4.2.Index]) rfl ts25 (one_cons rfl (one_cons rfl one_nil)) (k := 0) rfl (lb rfl) (c' := #[.i6 y4.2.Code, .i6 y4.2.Index]) rfl rfl ?_; clear S; intro w S
   refine wpList_nil ?_
   refine then_n ?_
   refine wp_seq ?_
   refine wp_region_lit ?_
   refine wE (ev_move rfl) F S rfl fun a F=>?_
   obtain ⟨g8, l8, S, h6⟩ : ∃ gz, Le g7 gz ∧ St gz [[bx b2 #[.i6 y4.2.Code, .i6 y4.2.Index] 25], [bx b1 #[.i6 y3.2.Code, .i6 y3.2.Index] 25]] fr w ∧ RepSl gz x3 v1 := ⟨_, Le.add _ _, S.freeze 2 rfl, OwnS.freeze (S.front 2 rfl) (h1.mono (((l4.trans l5).trans l6).trans l7))⟩
   obtain ⟨y5, hy5, hm⟩ := bind_some hm
   refine wl_call0 (wn rfl) rfl F rfl (digest_Strings_ok (fr := (fl [[bx b2 #[.i6 y4.2.Code, .i6 y4.2.Index] 25], [bx b1 #[.i6 y3.2.Code, .i6 y3.2.Index] 25]] fr)) x3 v1 h6 S hy5) rfl tc7 rfl rfl ?_; clear F a S
   rintro _ a w ⟨g9, l9, S, rfl⟩ F; replace S : St g9 [[bx b2 #[.i6 y4.2.Code, .i6 y4.2.Index] 25], [bx b1 #[.i6 y3.2.Code, .i6 y3.2.Index] 25]] fr w := S
   refine wE (ev_move rfl) F S rfl fun a F=>?_
   refine wE (ev_extract rfl rfl) F S rfl fun a F=>?_
   refine wE (ev_extract rfl rfl) F S rfl fun a F=>?_
   refine wl_alloc (wn rfl) rfl tz25 (cs := [.i6 0, .i6 0]) rfl F S rfl rfl ?_; clear F a S; rintro b3 a w F S
   refine wE (ev_assign rfl) F S rfl fun a F=>?_
   refine wl_storeC (wn rfl) rfl F S rfl rfl (vs := [.i6 y5.2.Code, .i6 y5.2.Index]) rfl ts25 (one_cons rfl (one_cons rfl one_nil)) (k := 0) rfl (lb rfl) (c' := #[.i6 y5.2.Code, .i6 y5.2.Index]) rfl rfl ?_; clear S; intro w S
   refine wpList_nil ?_
   refine then_n ?_
   refine wp_seq ?_
   refine wp_region_lit ?_
   refine wE (ev_fieldAddr' tu25 tf25_0 (z := 0) ts3 rfl ⟨_, rfl⟩ rfl) F S rfl fun a F=>?_
   refine wE (ev_load1 tu3 rfl rfl (box_ptr (cells := [.i6 y3.2.Code]) 2 rfl 0 rfl (lb rfl))) F S rfl fun a F=>?_
   refine wE (ev_int rfl rfl (bo_eql _ _ _ _)) F S rfl fun a F=>?_
   refine wE (ev_move rfl) F S rfl fun a F=>?_
   obtain ⟨x5, hx3, hm⟩ := bind_some hm
   refine wl_cut 4 (fun a w' => w = w' ∧ Fr 118 a [(99, .bool x5), (13, .i6 y5.1), (14, bp b3 0), (11, .i6 y4.1), (9, v3), (6, v1)]) ?_ ?_
   ·clear hm; obtain ⟨hc4, hm⟩ | ⟨hc4, hm⟩ := ite_or hx3
    ·refine wl_ev (wg F rfl rfl rfl rfl hc4) (ev_fieldAddr' tu25 tf25_0 (z := 0) ts3 rfl ⟨_, rfl⟩ rfl) F S rfl rfl ?_; clear F a; intro a F
     refine wl_ev (wg F rfl rfl rfl rfl hc4) (ev_load1 tu3 rfl rfl (box_ptr (cells := [.i6 y4.2.Code]) 1 rfl 0 rfl (lb rfl))) F S rfl rfl ?_; clear F a; intro a F
     refine wl_ev (wg F rfl rfl rfl rfl hc4) (ev_int rfl rfl (bo_eql _ _ _ _)) F S rfl rfl ?_; clear F a; intro a F
     refine wE (ev_pickT rfl hc4 rfl) F S rfl fun a F=>?_
     obtain rfl := sinj hm
     refine wpList_nil (then_n ?_); exact ⟨rfl, F.sub ⟨rfl, rfl, rfl, rfl, rfl, rfl, trivial⟩⟩
    ·refine wl_skip rfl rfl rfl rfl (ne_tf hc4) F rfl rfl ?_; clear F a; intro a F
     refine wl_skip rfl rfl rfl rfl (ne_tf hc4) F rfl rfl ?_; clear F a; intro a F
     refine wl_skip rfl rfl rfl rfl (ne_tf hc4) F rfl rfl ?_; clear F a; intro a F
     refine wE (ev_pickF rfl hc4 rfl) F S rfl fun a F=>?_
     obtain rfl := sinj hm
     refine wpList_nil (then_n ?_); exact ⟨rfl, F.sub ⟨rfl, rfl, rfl, rfl, rfl, rfl, trivial⟩⟩
   clear F; rintro a w' ⟨rfl, F⟩
   refine wE (ev_move rfl) F S rfl fun a F=>?_
   obtain ⟨x6, hx4, hm⟩ := bind_some hm
   refine wl_cut 4 (fun a w' => w = w' ∧ Fr 118 a [(104, .bool x6), (13, .i6 y5.1), (11, .i6 y4.1), (9, v3), (6, v1)]) ?_ ?_
   ·clear hm; obtain ⟨hc5, hm⟩ | ⟨hc5, hm⟩ := ite_or hx4
    ·refine wl_ev (wg F rfl rfl rfl rfl hc5) (ev_fieldAddr' tu25 tf25_0 (z := 0) ts3 rfl ⟨_, rfl⟩ rfl) F S rfl rfl ?_; clear F a; intro a F
     refine wl_ev (wg F rfl rfl rfl rfl hc5) (ev_load1 tu3 rfl rfl (box_ptr (cells := [.i6 y5.2.Code]) 0 rfl 0 rfl (lb rfl))) F S rfl rfl ?_; clear F a; intro a F
     refine wl_ev (wg F rfl rfl rfl rfl hc5) (ev_int rfl rfl (bo_eql _ _ _ _)) F S rfl rfl ?_; clear F a; intro a F
     refine wE (ev_pickT rfl hc5 rfl) F S rfl fun a F=>?_
     obtain rfl := sinj hm
     refine wpList_nil (then_n ?_); exact ⟨rfl, F.sub ⟨rfl, rfl, rfl, rfl, rfl, trivial⟩⟩
    ·refine wl_skip rfl rfl rfl rfl (ne_tf hc5) F rfl rfl ?_; clear F a; intro a F
     refine wl_skip rfl rfl rfl rfl (ne_tf hc5) F rfl rfl ?_; clear F a; intro a F
     refine wl_skip rfl rfl rfl rfl (ne_tf hc5) F rfl rfl ?_; clear F a; intro a F
     refine wE (ev_pickF rfl hc5 rfl) F S rfl fun a F=>?_
     obtain rfl := sinj hm
     refine wpList_nil (then_n ?_); exact ⟨rfl, F.sub ⟨rfl, rfl, rfl, rfl, rfl, trivial⟩⟩
   clear F; rintro a w' ⟨rfl, F⟩
   refine wE (ev_move rfl) F S rfl fun a F=>?_
   obtain ⟨x7, hx5, hm⟩ := bind_some hm
   refine wl_cut 4 (fun a w => ∃ g10, Fr 118 a [(109, .bool x7), (13, .i6 y5.1), (11, .i6 y4.1)] ∧ Le g9 g10 ∧ St g10 [[bx b3 #[.i6 y5.2.Code, .i6 y5.2.Index] 25], [bx b2 #[.i6 y4.2.Code, .i6 y4.2.Index] 25], [bx b1 #[.i6 y3.2.Code, .i6 y3.2.Index] 25]] fr w) ?_ ?_
   ·clear hm; obtain ⟨hc6, hm⟩ | ⟨hc6, hm⟩ := ite_or hx5
    ·refine wl_ev (wg F rfl rfl rfl rfl hc6) (ev_move rfl) F S rfl rfl ?_; clear F a; intro a F
     refine wl_ev (wg F rfl rfl rfl rfl hc6) (ev_move rfl) F S rfl rfl ?_; clear F a; intro a F
     obtain ⟨y6, hy6, hm⟩ := bind_some hm
     refine wl_call0 (wg F rfl rfl rfl rfl hc6) rfl F rfl (changeforgeequal_Strings_ok (fr := (fl [[bx b3 #[.i6 y5.2.Code, .i6 y5.2.Index] 25], [bx b2 #[.i6 y4.2.Code, .i6 y4.2.Index] 25], [bx b1 #[.i6 y3.2.Code, .i6 y3.2.Index] 25]] fr)) y3.1 v3 (h5.mono ((l7.trans l8).trans l9)) x3 v1 (h6.mono l9) S hy6) rfl tc8 rfl rfl ?_; clear F a S
     rintro _ a w ⟨g11, l11, S, rfl⟩ F; replace S : St g11 [[bx b3 #[.i6 y5.2.Code, .i6 y5.2.Index] 25], [bx b2 #[.i6 y4.2.Code, .i6 y4.2.Index] 25], [bx b1 #[.i6 y3.2.Code, .i6 y3.2.Index] 25]] fr w := S
     refine wE (ev_pickT rfl hc6 rfl) F S rfl fun a F=>?_
     obtain rfl := sinj hm
     refine wpList_nil (then_n ?_); exact ⟨g11, F.sub ⟨rfl, rfl, rfl, trivial⟩, l11, S⟩
    ·refine wl_skip rfl rfl rfl rfl (ne_tf hc6) F rfl rfl ?_; clear F a; intro a F
     refine wl_skip rfl rfl rfl rfl (ne_tf hc6) F rfl rfl ?_; clear F a; intro a F
     refine wl_skip rfl rfl rfl rfl (ne_tf hc6) F rfl rfl ?_; clear F a; intro a F
     refine wE (ev_pickF rfl hc6 rfl) F S rfl fun a F=>?_
     obtain rfl := sinj hm
     refine wpList_nil (then_n ?_); exact ⟨g9, F.sub ⟨rfl, rfl, rfl, trivial⟩, (Le.refl _), S⟩
   clear F S; rintro a w ⟨g10, F, l10, S⟩
   refine wE (ev_move rfl) F S rfl fun a F=>?_
   obtain ⟨x8, hx6, hm⟩ := bind_some hm
   refine wl_cut 4 (fun a w' => w = w' ∧ Fr 118 a [(114, .bool x8)]) ?_ ?_
   ·clear hm; obtain ⟨hc7, hm⟩ | ⟨hc7, hm⟩ := ite_or hx6
    ·refine wl_ev (wg F rfl rfl rfl rfl hc7) (ev_move rfl) F S rfl rfl ?_; clear F a; intro a F
     refine wl_ev (wg F rfl rfl rfl rfl hc7) (ev_move rfl) F S rfl rfl ?_; clear F a; intro a F
     refine wl_ev (wg F rfl rfl rfl rfl hc7) (ev_int rfl rfl (bo_eql _ _ _ _)) F S rfl rfl ?_; clear F a; intro a F
     refine wE (ev_pickT rfl hc7 rfl) F S rfl fun a F=>?_
     obtain rfl := sinj hm
     refine wpList_nil (then_n ?_); exact ⟨rfl, F.sub ⟨rfl, trivial⟩⟩
    ·refine wl_skip rfl rfl rfl rfl (ne_tf hc7) F rfl rfl ?_; clear F a; intro a F
     refine wl_skip rfl rfl rfl rfl (ne_tf hc7) F rfl rfl ?_; clear F a; intro a F
     refine wl_skip rfl rfl rfl rfl (ne_tf hc7) F rfl rfl ?_; clear F a; intro a F
     refine wE (ev_pickF rfl hc7 rfl) F S rfl fun a F=>?_
     obtain rfl := sinj hm
     refine wpList_nil (then_n ?_); exact ⟨rfl, F.sub ⟨rfl, trivial⟩⟩
   clear F; rintro a w' ⟨rfl, F⟩
   refine wE (ev_move rfl) F S rfl fun a F=>?_
   obtain ⟨x9, hx7, hm⟩ := bind_some hm
   refine wl_cut 2 (fun a w => ∃ g12, Fr 118 a [(117, .bool x9)] ∧ Le g10 g12 ∧ St g12 [[bx b3 #[.i6 y5.2.Code, .i6 y5.2.Index] 25], [bx b2 #[.i6 y4.2.Code, .i6 y4.2.Index] 25], [bx b1 #[.i6 y3.2.Code, .i6 y3.2.Index] 25]] fr w) ?_ ?_
   ·clear hm; obtain ⟨hc8, hm⟩ | ⟨hc8, hm⟩ := ite_or hx7
    ·obtain ⟨y7, hy7, hm⟩ := bind_some hm
     refine wl_call0 (wg F rfl rfl rfl rfl hc8) rfl F rfl (changeforgetop_h11Works_ok (fr := (fl [[bx b3 #[.i6 y5.2.Code, .i6 y5.2.Index] 25], [bx b2 #[.i6 y4.2.Code, .i6 y4.2.Index] 25], [bx b1 #[.i6 y3.2.Code, .i6 y3.2.Index] 25]] fr))  S hy7) rfl tc5 rfl rfl ?_; clear F a S
     rintro _ a w ⟨g13, l13, S, rfl⟩ F; replace S : St g13 [[bx b3 #[.i6 y5.2.Code, .i6 y5.2.Index] 25], [bx b2 #[.i6 y4.2.Code, .i6 y4.2.Index] 25], [bx b1 #[.i6 y3.2.Code, .i6 y3.2.Index] 25]] fr w := S
     refine wE (ev_pickT rfl hc8 rfl) F S rfl fun a F=>?_
     obtain rfl := sinj hm
     refine wpList_nil (then_n ?_); exact ⟨g13, F.sub ⟨rfl, trivial⟩, l13, S⟩
    ·refine wl_skip rfl rfl rfl rfl (ne_tf hc8) F rfl rfl ?_; clear F a; intro a F
     refine wE (ev_pickF rfl hc8 rfl) F S rfl fun a F=>?_
     obtain rfl := sinj hm
     refine wpList_nil (then_n ?_); exact ⟨g10, F.sub ⟨rfl, trivial⟩, (Le.refl _), S⟩
   clear F S; rintro a w ⟨g12, F, l12, S⟩
   refine wE (ev_assign rfl) F S rfl fun a F=>?_
   refine wpList_nil ?_
   refine then_n ?_
   refine wp_ret ?_
   obtain rfl := sinj hm
   refine post_r _ F rfl (ar_cons (resT rfl) ar_nil) ?_
   replace S : St g12 [] fr w := St.tail [] _ S
   exact ⟨_, rfl, g12, (((((((((l1.trans l3).trans l4).trans l5).trans l6).trans l7).trans l8).trans l9).trans l10).trans l12), S, rfl⟩
end Go.Dc
