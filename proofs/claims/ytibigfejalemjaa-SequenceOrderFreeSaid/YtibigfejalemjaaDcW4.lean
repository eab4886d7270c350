/- Walks: each function comes to what its model says. -/
import Derived.Test.YtibigfejalemjaaDcTab
import Derived.Test.YtibigfejalemjaaDcM
import Derived.Test.YtibigfejalemjaaDcW3
namespace Go.Dc
open Go Go.Proofs
set_option maxRecDepth 100000
set_option maxHeartbeats 4000000
set_option linter.unusedVariables false
theorem changeforgelaw2_turned_ok {g : Gh} {fr : Hl} {w : World} {r : (List SeqOp)} (l_ : (List SeqOp)) (vl_1 : Value) (hl_1 : RepSl g l_ vl_1) (S : St g [] fr w) (hm : changeforgelaw2_turned l_ = some r) :
  Calls Try.prog 10 [vl_1].toArray w (fun en w' => ∃ v, en = .returned v ∧ ∃ (g' : Gh) (v1 : Value) (c1 : Hl), Le g g' ∧ St g' [c1] fr w' ∧ OwnS g' r v1 c1 ∧ v1 = v) := by
 unfold changeforgelaw2_turned at hm
 refine calls_enter (fn := Try.f10) Try.func10 rfl Try.ntmps10 (lb rfl) ?_
 intro a F
 replace F : Fr 20 a [(0, vl_1)] := F
 refine wp_seq ?_
 refine wp_region_lit ?_
 refine wE (ev_assign rfl) F S rfl fun a F=>?_
 refine wpList_nil ?_
 refine then_n ?_
 refine wp_seq ?_
 refine wp_region_lit ?_
 refine wE (ev_assign rfl) F S rfl fun a F=>?_
 refine wpList_nil ?_
 refine then_n ?_
 refine wp_cut (fun a w => ∃ (x1 : List SeqOp) (v1 : Value) (c1 : Hl) (g1 : Gh), Fr 20 a [(3, v1)] ∧ Le g g1 ∧ St g1 [c1] fr w ∧ OwnS g1 x1 v1 c1 ∧ changeforgelaw2_turned.j1 x1 = some r) ?_ ?_
 ·refine wp_seq ?_
  refine wp_region_lit ?_
  refine wE (ev_move rfl) F S rfl fun a F=>?_
  refine wE (ev_lenSh hl_1 rfl tu22) F S rfl fun a F=>?_
  obtain ⟨z1, hz1, hm⟩ := bind_some hm
  refine wE (ev_int rfl rfl (bo_sub hz1)) F S rfl fun a F=>?_
  refine wE (ev_assign rfl) F S rfl fun a F=>?_
  refine wpList_nil ?_
  refine then_n ?_
  refine wp_block ?_
  obtain ⟨r1, hr1, hm⟩ := bind_some hm
  have hmo1 := hm; clear hm
  refine wp_iter (σ := Int × (List SeqOp)) (ρ := (List SeqOp)) (m := fun s => changeforgelaw2_turned.l1 l_ s.1 s.2) (I := fun s a w => match s with | (x2, x3) => ∃ (v2 : Value) (c2 : Hl) (g2 : Gh), Fr 20 a [(4, .i6 x2), (3, v2), (0, vl_1)] ∧ Le g g2 ∧ St g2 [c2] fr w ∧ OwnS g2 x3 v2 c2) hr1 ?_ ?_
  ·dsimp only
   replace S : St g [[]] fr w := S
   exact ⟨(nilS), [], g, F.sub ⟨rfl, rfl, rfl, trivial⟩, (Le.refl _), S, (OwnS.nil _)⟩
  ·clear F S; rintro ⟨x2, x3⟩ a w x4 ⟨v2, c2, g2, F, l2, S, h2⟩ hx1 hfin1
   have hm : changeforgelaw2_turned.l1 l_ x2 x3 = some x4 := hx1; clear hx1
   unfold changeforgelaw2_turned.l1 at hm
   refine wp_seq ?_
   refine wp_seq ?_
   refine wp_region_lit ?_
   refine wE (ev_move rfl) F S rfl fun a F=>?_
   refine wE (ev_int rfl rfl (bo_geq _ _ _ _)) F S rfl fun a F=>?_
   refine wpList_nil ?_
   refine then_n ?_
   obtain ⟨hc1, hm⟩ | ⟨hc1, hm⟩ := ite_or hm
   ·refine wp_condT F rfl hc1 ?_
    refine wp_skip ?_
    refine then_n ?_
    refine wp_seq ?_
    refine wp_block ?_
    refine wp_region_lit ?_
    refine wE (ev_move rfl) F S rfl fun a F=>?_
    refine wE (ev_move rfl) F S rfl fun a F=>?_
    refine wE (ev_move rfl) F S rfl fun a F=>?_
    obtain ⟨y1, hy1, hm⟩ := bind_some hm
    obtain ⟨cs1, hr2, hp1⟩ := elemS (hl_1.mono l2) hy1
    obtain rfl := rep_SeqOp hr2
    refine wE (ev_idxS (hl_1.mono l2) hy1 tu22 ts33 rfl rfl) F S rfl fun a F=>?_
    refine wE (ev_loadA tu33 rfl (cs := [.bool y1.Delete, .i6 y1.Replica, .i6 y1.Counter, .i6 y1.AfterReplica, .i6 y1.AfterCounter, .string y1.Line]) ts33 rfl (ptr_mono (cks := [c2]) (fr := fr) hp1 (Le.refl _))) F S rfl fun a F=>?_
    refine wl_lit (l := ([y1] : List SeqOp)) (vs := [.agg #[.bool y1.Delete, .i6 y1.Replica, .i6 y1.Counter, .i6 y1.AfterReplica, .i6 y1.AfterCounter, .string y1.Line]]) (parts := [(0, .tmp 16)]) (wn rfl) rfl rfl rfl tu22 te33 (sz_cons rfl sz_nil) rfl (Cat.cons (rep_SeqOp_mk (x := y1) ) (Cat.nil _)) (coa_cons rfl coa_nil) rfl F S rfl rfl ?_; clear F a S
    rintro v3 c3 a w h3 F S
    obtain ⟨cs2, hk1, hr3⟩ := OwnS.reads h3
    obtain ⟨y2, hy2, hm⟩ := bind_some hm
    refine wl_append (wn rfl) rfl tu22 tu22 te33 (by decide) (by decide) F S rfl rfl (k := 1) rfl h2 hk1 rfl (hr3 _ _ _ 0 rfl S) hy2 rfl rfl ?_; clear F a S
    rintro v4 c4 a w h4 S F; replace S : St g2 [c3, c4] fr w := S
    refine wE (ev_assign rfl) F S rfl fun a F=>?_
    refine wpList_nil ?_
    refine inb_n ?_
    refine then_n ?_
    refine wp_region_lit ?_
    refine wE (ev_move rfl) F S rfl fun a F=>?_
    obtain ⟨z2, hz2, hm⟩ := bind_some hm
    refine wE (ev_int rfl rfl (bo_sub hz2)) F S rfl fun a F=>?_
    refine wE (ev_assign rfl) F S rfl fun a F=>?_
    refine wpList_nil ?_
    refine then_n ?_
    obtain rfl := sinj hm
    refine ⟨_, rfl, ?_⟩
    dsimp only
    replace S : St g2 [c4] fr w := St.tail [c4] _ (S.frontC 1 rfl)
    exact ⟨v4, c4, g2, F.sub ⟨rfl, rfl, rfl, trivial⟩, l2, S, h4⟩
   ·refine wp_condF F rfl hc1 ?_
    refine wp_exit ?_
    refine then_e ?_
    refine then_e ?_
    refine inb_x ?_
    refine then_n ?_
    obtain rfl := sinj hm
    obtain rfl := hfin1 _ rfl
    clear hm
    have hm : (changeforgelaw2_turned.j1 x3 : Option (List SeqOp)) = some _ := hmo1
    exact ⟨x3, v2, c2, g2, F.sub ⟨rfl, trivial⟩, l2, S, h2, hm⟩
 ·clear F S hm; rintro a w ⟨x1, v1, c1, g1, F, l1, S, h1, hm⟩
  refine wp_seq ?_
  refine wp_region_lit ?_
  refine wE (ev_move rfl) F S rfl fun a F=>?_
  refine wE (ev_assign rfl) F S rfl fun a F=>?_
  refine wpList_nil ?_
  refine then_n ?_
  refine wp_ret ?_
  obtain rfl := sinj hm
  refine post_r _ F rfl (ar_cons (resT rfl) ar_nil) ?_
  exact ⟨_, rfl, g1, v1, c1, l1, S, h1, rfl⟩

theorem changeforgelaw2_SequenceOrderFree_ok {g : Gh} {fr : Hl} {w : World} {r : Bool} (a_ : (List SeqOp)) (va_1 : Value) (ha_1 : RepSl g a_ va_1) (k_ : Int) (S : St g [] fr w) (hm : changeforgelaw2_SequenceOrderFree a_ k_ = some r) :
  Calls Try.prog 3 [va_1, .i6 k_].toArray w (fun en w' => ∃ v, en = .returned v ∧ ∃ (g' : Gh), Le g g' ∧ St g' [] fr w' ∧ .bool r = v) := by
 unfold changeforgelaw2_SequenceOrderFree at hm
 refine calls_enter (fn := Try.f3) Try.func3 rfl Try.ntmps3 (lb rfl) ?_
 intro a F
 replace F : Fr 79 a [(0, va_1), (1, .i6 k_)] := F
 refine wp_seq ?_
 refine wp_region_lit ?_
 refine wE (ev_assign rfl) F S rfl fun a F=>?_
 refine wpList_nil ?_
 refine then_n ?_
 refine wp_seq ?_
 refine wp_region_lit ?_
 refine wE (ev_move rfl) F S rfl fun a F=>?_
 obtain ⟨y1, hy1, hm⟩ := bind_some hm
 refine wl_call0 (wn rfl) rfl F rfl (sequence_Visible_ok a_ va_1 ha_1 S hy1) rfl tc9 rfl rfl ?_; clear F a S
 rintro _ a w ⟨g1, v1, c1, l1, S, h1, rfl⟩ F; replace S : St g1 [c1] fr w := S
 refine wE (ev_move rfl) F S rfl fun a F=>?_
 refine wE (ev_extract rfl rfl) F S rfl fun a F=>?_
 refine wE (ev_extract rfl rfl) F S rfl fun a F=>?_
 refine wl_alloc (wn rfl) rfl tz25 (cs := [.i6 0, .i6 0]) rfl F S rfl rfl ?_; clear F a S; rintro b1 a w F S
 refine wE (ev_assign rfl) F S rfl fun a F=>?_
 refine wl_storeC (wn rfl) rfl F S rfl rfl (vs := [.i6 y1.2.Code, .i6 y1.2.Index]) rfl ts25 (one_cons rfl (one_cons rfl one_nil)) (k := 0) rfl (lb rfl) (c' := #[.i6 y1.2.Code, .i6 y1.2.Index]) rfl rfl ?_; clear S; intro w S
 refine wpList_nil ?_
 refine then_n ?_
 refine wp_seq ?_
 refine wp_region_lit ?_
 refine wE (ev_move rfl) F S rfl fun a F=>?_
 obtain ⟨y2, hy2, hm⟩ := bind_some hm
 refine wl_call0 (wn rfl) rfl F rfl (changeforgelaw2_turned_ok (fr := (fl [[bx b1 #[.i6 y1.2.Code, .i6 y1.2.Index] 25], c1] fr)) a_ va_1 (ha_1.mono l1) S hy2) rfl tc10 rfl rfl ?_; clear F a S
 rintro _ a w ⟨g2, v2, c2, l2, S, h2, rfl⟩ F; replace S : St g2 [c2, [bx b1 #[.i6 y1.2.Code, .i6 y1.2.Index] 25], c1] fr w := S
 obtain ⟨g3, l3, S, h3⟩ : ∃ gz, Le g2 gz ∧ St gz [[bx b1 #[.i6 y1.2.Code, .i6 y1.2.Index] 25], c1] fr w ∧ RepSl gz y2 v2 := ⟨_, Le.add _ _, S.freeze 0 rfl, OwnS.freeze (S.front 0 rfl) h2⟩
 obtain ⟨y3, hy3, hm⟩ := bind_some hm
 refine wl_call0 (wn rfl) rfl F rfl (sequence_Visible_ok (fr := (fl [[bx b1 #[.i6 y1.2.Code, .i6 y1.2.Index] 25], c1] fr)) y2 v2 h3 S hy3) rfl tc9 rfl rfl ?_; clear F a S
 rintro _ a w ⟨g4, v3, c3, l4, S, h4, rfl⟩ F; replace S : St g4 [c3, [bx b1 #[.i6 y1.2.Code, .i6 y1.2.Index] 25], c1] fr w := S
 refine wE (ev_move rfl) F S rfl fun a F=>?_
 refine wE (ev_extract rfl rfl) F S rfl fun a F=>?_
 refine wE (ev_extract rfl rfl) F S rfl fun a F=>?_
 refine wl_alloc (wn rfl) rfl tz25 (cs := [.i6 0, .i6 0]) rfl F S rfl rfl ?_; clear F a S; rintro b2 a w F S
 refine wE (ev_assign rfl) F S rfl fun a F=>?_
 refine wl_storeC (wn rfl) rfl F S rfl rfl (vs := [.i6 y3.2.Code, .i6 y3.2.Index]) rfl ts25 (one_cons rfl (one_cons rfl one_nil)) (k := 0) rfl (lb rfl) (c' := #[.i6 y3.2.Code, .i6 y3.2.Index]) rfl rfl ?_; clear S; intro w S
 refine wpList_nil ?_
 refine then_n ?_
 refine wp_seq ?_
 refine wp_seq ?_
 refine wp_region_lit ?_
 refine wE (ev_fieldAddr' tu25 tf25_0 (z := 0) ts3 rfl ⟨_, rfl⟩ rfl) F S rfl fun a F=>?_
 refine wE (ev_load1 tu3 rfl rfl (box_ptr (cells := [.i6 y1.2.Code]) 2 rfl 0 rfl (lb rfl))) F S rfl fun a F=>?_
 refine wE (ev_int rfl rfl (bo_neq _ _ _ _)) F S rfl fun a F=>?_
 refine wE (ev_move rfl) F S rfl fun a F=>?_
 obtain ⟨x1, hx1, hm⟩ := bind_some hm
 refine wl_cut 3 (fun a w' => w = w' ∧ Fr 79 a [(28, .bool x1), (7, v3), (8, bp b2 0), (5, v1), (6, bp b1 0), (0, va_1), (1, .i6 k_)]) ?_ ?_
 ·clear hm; obtain ⟨hc1, hm⟩ | ⟨hc1, hm⟩ := ite_or hx1
  ·refine wl_skip rfl rfl rfl rfl (ne_ft hc1) F rfl rfl ?_; clear F a; intro a F
   refine wl_skip rfl rfl rfl rfl (ne_ft hc1) F rfl rfl ?_; clear F a; intro a F
   refine wE (ev_pickT rfl hc1 rfl) F S rfl fun a F=>?_
   obtain rfl := sinj hm
   refine wpList_nil (then_n ?_); exact ⟨rfl, F.sub ⟨rfl, rfl, rfl, rfl, rfl, rfl, rfl, trivial⟩⟩
  ·refine wl_ev (wg F rfl rfl rfl rfl hc1) (ev_move rfl) F S rfl rfl ?_; clear F a; intro a F
   refine wl_ev (wg F rfl rfl rfl rfl hc1) (ev_int rfl rfl (bo_lss _ _ _ _)) F S rfl rfl ?_; clear F a; intro a F
   refine wE (ev_pickF rfl hc1 rfl) F S rfl fun a F=>?_
   obtain rfl := sinj hm
   refine wpList_nil (then_n ?_); exact ⟨rfl, F.sub ⟨rfl, rfl, rfl, rfl, rfl, rfl, rfl, trivial⟩⟩
 clear F; rintro a w' ⟨rfl, F⟩
 refine wE (ev_move rfl) F S rfl fun a F=>?_
 obtain ⟨x2, hx2, hm⟩ := bind_some hm
 refine wl_cut 5 (fun a w' => w = w' ∧ Fr 79 a [(34, .bool x2), (7, v3), (8, bp b2 0), (5, v1), (6, bp b1 0), (0, va_1), (1, .i6 k_)]) ?_ ?_
 ·clear hm; obtain ⟨hc2, hm⟩ | ⟨hc2, hm⟩ := ite_or hx2
  ·refine wl_skip rfl rfl rfl rfl (ne_ft hc2) F rfl rfl ?_; clear F a; intro a F
   refine wl_skip rfl rfl rfl rfl (ne_ft hc2) F rfl rfl ?_; clear F a; intro a F
   refine wl_skip rfl rfl rfl rfl (ne_ft hc2) F rfl rfl ?_; clear F a; intro a F
   refine wl_skip rfl rfl rfl rfl (ne_ft hc2) F rfl rfl ?_; clear F a; intro a F
   refine wE (ev_pickT rfl hc2 rfl) F S rfl fun a F=>?_
   obtain rfl := sinj hm
   refine wpList_nil (then_n ?_); exact ⟨rfl, F.sub ⟨rfl, rfl, rfl, rfl, rfl, rfl, rfl, trivial⟩⟩
  ·refine wl_ev (wg F rfl rfl rfl rfl hc2) (ev_move rfl) F S rfl rfl ?_; clear F a; intro a F
   refine wl_ev (wg F rfl rfl rfl rfl hc2) (ev_move rfl) F S rfl rfl ?_; clear F a; intro a F
   refine wl_ev (wg F rfl rfl rfl rfl hc2) (ev_lenSh ha_1 rfl tu22) F S rfl rfl ?_; clear F a; intro a F
   refine wl_ev (wg F rfl rfl rfl rfl hc2) (ev_int rfl rfl (bo_gtr _ _ _ _)) F S rfl rfl ?_; clear F a; intro a F
   refine wE (ev_pickF rfl hc2 rfl) F S rfl fun a F=>?_
   obtain rfl := sinj hm
   refine wpList_nil (then_n ?_); exact ⟨rfl, F.sub ⟨rfl, rfl, rfl, rfl, rfl, rfl, rfl, trivial⟩⟩
 clear F; rintro a w' ⟨rfl, F⟩
 refine wpList_nil ?_
 refine then_n ?_
 obtain ⟨hc3, hm⟩ | ⟨hc3, hm⟩ := ite_or hm
 ·refine wp_condT F rfl hc3 ?_
  refine wp_seq ?_
  refine wp_region_lit ?_
  refine wE (ev_fieldAddr' tu25 tf25_0 (z := 0) ts3 rfl ⟨_, rfl⟩ rfl) F S rfl fun a F=>?_
  refine wE (ev_load1 tu3 rfl rfl (box_ptr (cells := [.i6 y1.2.Code]) 2 rfl 0 rfl (lb rfl))) F S rfl fun a F=>?_
  refine wE (ev_int rfl rfl (bo_eql _ _ _ _)) F S rfl fun a F=>?_
  refine wE (ev_fieldAddr' tu25 tf25_0 (z := 0) ts3 rfl ⟨_, rfl⟩ rfl) F S rfl fun a F=>?_
  refine wE (ev_load1 tu3 rfl rfl (box_ptr (cells := [.i6 y3.2.Code]) 0 rfl 0 rfl (lb rfl))) F S rfl fun a F=>?_
  refine wE (ev_int rfl rfl (bo_eql _ _ _ _)) F S rfl fun a F=>?_
  refine wE (ev_eqB tu4 rfl rfl) F S rfl fun a F=>?_
  refine wE (ev_move rfl) F S rfl fun a F=>?_
  obtain ⟨x3, hx3, hm⟩ := bind_some hm
  refine wl_cut 2 (fun a w => ∃ g5, Fr 79 a [(44, .bool x3)] ∧ Le g4 g5 ∧ St g5 [[bx b2 #[.i6 y3.2.Code, .i6 y3.2.Index] 25], c3, [bx b1 #[.i6 y1.2.Code, .i6 y1.2.Index] 25], c1] fr w) ?_ ?_
  ·clear hm; obtain ⟨hc4, hm⟩ | ⟨hc4, hm⟩ := ite_or hx3
   ·obtain ⟨y4, hy4, hm⟩ := bind_some hm
    refine wl_call0 (wg F rfl rfl rfl rfl hc4) rfl F rfl (changeforgelaw2_latest_ok (fr := (fl [[bx b2 #[.i6 y3.2.Code, .i6 y3.2.Index] 25], c3, [bx b1 #[.i6 y1.2.Code, .i6 y1.2.Index] 25], c1] fr))  S hy4) rfl tc11 rfl rfl ?_; clear F a S
    rintro _ a w ⟨g6, l6, S, rfl⟩ F; replace S : St g6 [[bx b2 #[.i6 y3.2.Code, .i6 y3.2.Index] 25], c3, [bx b1 #[.i6 y1.2.Code, .i6 y1.2.Index] 25], c1] fr w := S
    refine wE (ev_pickT rfl hc4 rfl) F S rfl fun a F=>?_
    obtain rfl := sinj hm
    refine wpList_nil (then_n ?_); exact ⟨g6, F.sub ⟨rfl, trivial⟩, l6, S⟩
   ·refine wl_skip rfl rfl rfl rfl (ne_tf hc4) F rfl rfl ?_; clear F a; intro a F
    refine wE (ev_pickF rfl hc4 rfl) F S rfl fun a F=>?_
    obtain rfl := sinj hm
    refine wpList_nil (then_n ?_); exact ⟨g4, F.sub ⟨rfl, trivial⟩, (Le.refl _), S⟩
  clear F S; rintro a w ⟨g5, F, l5, S⟩
  refine wE (ev_assign rfl) F S rfl fun a F=>?_
  refine wpList_nil ?_
  refine then_n ?_
  refine wp_ret ?_
  refine then_r ?_
  obtain rfl := sinj hm
  refine post_r _ F rfl (ar_cons (resT rfl) ar_nil) ?_
  replace S : St g5 [] fr w := St.tail [] _ S
  exact ⟨_, rfl, g5, ((((l1.trans l2).trans l3).trans l4).trans l5), S, rfl⟩
 ·refine wp_condF F rfl hc3 ?_
  refine wp_skip ?_
  refine then_n ?_
  refine wp_seq ?_
  refine wp_dv [] mo S ?_; clear S; intro ok1 w S
  refine dv_et ok1 1 rfl (ev_move rfl) F rfl fun a F=>?_
  refine dv_et ok1 2 rfl (ev_move rfl) F rfl fun a F=>?_
  obtain ⟨y5, hy5, hm⟩ := bind_some hm
  obtain ⟨v4, h5, he1⟩ := ev_cut (P := Try.prog) (n := 79) (e := [(48, .i6 k_), (47, va_1), (34, .bool x2), (7, v3), (8, bp b2 0), (5, v1), (6, bp b1 0), (0, va_1), (1, .i6 k_)]) (C := fun _ => True) (x := .tmp 47) (lo := some (.tmp 48)) (hi := Option.none) (ha_1.mono (((l1.trans l2).trans l3).trans l4)) hy5 tu22 ts33 rfl (bndV rfl) (bnd0 _)
  refine dv_et ok1 3 rfl he1 F rfl fun a F=>?_
  refine dv_et ok1 5 rfl (ev_move rfl) F rfl fun a F=>?_
  refine dv_et ok1 6 rfl (ev_move rfl) F rfl fun a F=>?_
  obtain ⟨y6, hy6, hm⟩ := bind_some hm
  obtain ⟨v5, h6, he2⟩ := ev_cut (P := Try.prog) (n := 79) (e := [(52, .i6 k_), (51, va_1), (49, v4), (48, .i6 k_), (47, va_1), (34, .bool x2), (7, v3), (8, bp b2 0), (5, v1), (6, bp b1 0), (0, va_1), (1, .i6 k_)]) (C := fun _ => True) (x := .tmp 51) (lo := Option.none) (hi := some (.tmp 52)) (ha_1.mono (((l1.trans l2).trans l3).trans l4)) hy6 tu22 ts33 rfl (bnd0 _) (bndV rfl)
  refine dv_et ok1 7 rfl he2 F rfl fun a F=>?_
  obtain ⟨y7, hy7, hm⟩ := bind_some hm
  obtain ⟨y8, hy8, hm⟩ := bind_some hm
  obtain ⟨y9, hy9, hm⟩ := bind_some hm
  refine dv_cut [1, 2, 3, 5, 6, 7, 0, 4, 8, 9, 10, 11, 12, 13, 14] [] (fun a w => ∃ (v10 : Value) (b4 : Nat) (c8 : Hl) (g9 : Gh), Fr 79 a [(9, v10), (10, bp b4 0), (57, .agg #[.i6 y9.2.Code, .i6 y9.2.Index]), (7, v3), (8, bp b2 0), (5, v1)] ∧ Le g4 g9 ∧ St g9 [c8, [bx b4 #[.i6 0, .i6 0] 25], c3, [bx b2 #[.i6 y3.2.Code, .i6 y3.2.Index] 25], c1] fr w ∧ OwnS g9 y9.1 v10 c8 ∧ changeforgelaw2_SequenceOrderFree.j1 y1 y3 y9 = some r) ?_ ?_
  ·intro HJ
   refine dv_fork ok1 0 [13] (fk 0 rfl [] ?_ (fk 13 rfl [] ?_ trivial))
   ·refine wl_lit (l := ([] : List SeqOp)) (vs := []) (parts := []) (wn rfl) rfl rfl rfl tu22 te33 sz_nil rfl (Cat.nil _) coa_nil rfl F S rfl rfl ?_; clear F a S
    rintro v6 c4 a w h7 F S
    refine dv_nx trivial ?_
    refine dv_fork ok1 4 [13] (fk 4 rfl [] ?_ (fk 13 rfl [] ?_ trivial))
    ·obtain ⟨cs1, hk1, hr1⟩ := RepSl.reads h5
     refine wl_append (wn rfl) rfl tu22 tu22 te33 (by decide) (by decide) F S rfl rfl (k := 0) rfl h7 hk1 rfl (hr1 _ _ S) hy7 rfl rfl ?_; clear F a S
     rintro v7 c5 a w h8 S F; replace S : St g4 [c5, [bx b2 #[.i6 y3.2.Code, .i6 y3.2.Index] 25], c3, [bx b1 #[.i6 y1.2.Code, .i6 y1.2.Index] 25], c1] fr w := S
     refine dv_nx trivial ?_
     refine dv_fork ok1 8 [13] (fk 8 rfl [] ?_ (fk 13 rfl [] ?_ trivial))
     ·obtain ⟨cs2, hk2, hr2⟩ := RepSl.reads h6
      refine wl_append (wn rfl) rfl tu22 tu22 te33 (by decide) (by decide) F S rfl rfl (k := 0) rfl h8 hk2 rfl (hr2 _ _ S) hy8 rfl rfl ?_; clear F a S
      rintro v8 c6 a w h9 S F; replace S : St g4 [c6, [bx b2 #[.i6 y3.2.Code, .i6 y3.2.Index] 25], c3, [bx b1 #[.i6 y1.2.Code, .i6 y1.2.Index] 25], c1] fr w := S
      refine dv_nx trivial ?_
      refine dv_fork ok1 9 [13] (fk 9 rfl [] ?_ (fk 13 rfl [] ?_ trivial))
      ·obtain ⟨g7, l7, S, h10⟩ : ∃ gz, Le g4 gz ∧ St gz [[bx b2 #[.i6 y3.2.Code, .i6 y3.2.Index] 25], c3, [bx b1 #[.i6 y1.2.Code, .i6 y1.2.Index] 25], c1] fr w ∧ RepSl gz y8 v8 := ⟨_, Le.add _ _, S.freeze 0 rfl, OwnS.freeze (S.front 0 rfl) h9⟩
       refine wl_call0 (wn rfl) rfl F rfl (sequence_Visible_ok (fr := (fl [[bx b2 #[.i6 y3.2.Code, .i6 y3.2.Index] 25], c3, [bx b1 #[.i6 y1.2.Code, .i6 y1.2.Index] 25], c1] fr)) y8 v8 h10 S hy9) rfl tc9 rfl rfl ?_; clear F a S
       rintro _ a w ⟨g8, v9, c7, l8, S, h11, rfl⟩ F; replace S : St g8 [c7, [bx b2 #[.i6 y3.2.Code, .i6 y3.2.Index] 25], c3, [bx b1 #[.i6 y1.2.Code, .i6 y1.2.Index] 25], c1] fr w := S
       refine dv_nx trivial ?_
       refine dv_et ok1 10 rfl (ev_move rfl) F rfl fun a F=>?_
       refine dv_et ok1 11 rfl (ev_extract rfl rfl) F rfl fun a F=>?_
       refine dv_et ok1 12 rfl (ev_extract rfl rfl) F rfl fun a F=>?_
       refine dv_op ok1 13 rfl [] ?_
       refine wl_alloc (wn rfl) rfl tz25 (cs := [.i6 0, .i6 0]) rfl F S rfl rfl ?_; clear F a S; rintro b3 a w F S
       refine dv_nx trivial ?_
       refine dv_et ok1 14 rfl (ev_assign rfl) F rfl fun a F=>?_
       refine dv_join (HJ _ _ ?_)
       replace S : St g8 [c7, [bx b3 #[.i6 0, .i6 0] 25], c3, [bx b2 #[.i6 y3.2.Code, .i6 y3.2.Index] 25], c1] fr w := St.tail [c7, [bx b3 #[.i6 0, .i6 0] 25], c3, [bx b2 #[.i6 y3.2.Code, .i6 y3.2.Index] 25], c1] _ (((((S.frontC 5 rfl).frontC 3 rfl).frontC 5 rfl).frontC 3 rfl).frontC 5 rfl)
       exact ⟨v9, b3, c7, g8, F.sub ⟨rfl, rfl, rfl, rfl, rfl, rfl, trivial⟩, (l7.trans l8), S, h11, hm⟩
      ·refine wl_alloc (wn rfl) rfl tz25 (cs := [.i6 0, .i6 0]) rfl F S rfl rfl ?_; clear F a S; rintro b3 a w F S
       refine dv_nx trivial ?_
       refine dv_op ok1 9 rfl [] ?_
       obtain ⟨g7, l7, S, h10⟩ : ∃ gz, Le g4 gz ∧ St gz [[bx b3 #[.i6 0, .i6 0] 25], [bx b2 #[.i6 y3.2.Code, .i6 y3.2.Index] 25], c3, [bx b1 #[.i6 y1.2.Code, .i6 y1.2.Index] 25], c1] fr w ∧ RepSl gz y8 v8 := ⟨_, Le.add _ _, S.freeze 1 rfl, OwnS.freeze (S.front 1 rfl) h9⟩
       refine wl_call0 (wn rfl) rfl F rfl (sequence_Visible_ok (fr := (fl [[bx b3 #[.i6 0, .i6 0] 25], [bx b2 #[.i6 y3.2.Code, .i6 y3.2.Index] 25], c3, [bx b1 #[.i6 y1.2.Code, .i6 y1.2.Index] 25], c1] fr)) y8 v8 h10 S hy9) rfl tc9 rfl rfl ?_; clear F a S
       rintro _ a w ⟨g8, v9, c7, l8, S, h11, rfl⟩ F; replace S : St g8 [c7, [bx b3 #[.i6 0, .i6 0] 25], [bx b2 #[.i6 y3.2.Code, .i6 y3.2.Index] 25], c3, [bx b1 #[.i6 y1.2.Code, .i6 y1.2.Index] 25], c1] fr w := S
       refine dv_nx trivial ?_
       refine dv_et ok1 10 rfl (ev_move rfl) F rfl fun a F=>?_
       refine dv_et ok1 11 rfl (ev_extract rfl rfl) F rfl fun a F=>?_
       refine dv_et ok1 12 rfl (ev_extract rfl rfl) F rfl fun a F=>?_
       refine dv_et ok1 14 rfl (ev_assign rfl) F rfl fun a F=>?_
       refine dv_join (HJ _ _ ?_)
       replace S : St g8 [c7, [bx b3 #[.i6 0, .i6 0] 25], c3, [bx b2 #[.i6 y3.2.Code, .i6 y3.2.Index] 25], c1] fr w := St.tail [c7, [bx b3 #[.i6 0, .i6 0] 25], c3, [bx b2 #[.i6 y3.2.Code, .i6 y3.2.Index] 25], c1] _ (((((S.frontC 5 rfl).frontC 3 rfl).frontC 5 rfl).frontC 4 rfl).frontC 4 rfl)
       exact ⟨v9, b3, c7, g8, F.sub ⟨rfl, rfl, rfl, rfl, rfl, rfl, trivial⟩, (l7.trans l8), S, h11, hm⟩
     ·refine wl_alloc (wn rfl) rfl tz25 (cs := [.i6 0, .i6 0]) rfl F S rfl rfl ?_; clear F a S; rintro b3 a w F S
      refine dv_nx trivial ?_
      refine dv_op ok1 8 rfl [] ?_
      obtain ⟨cs2, hk2, hr2⟩ := RepSl.reads h6
      refine wl_append (wn rfl) rfl tu22 tu22 te33 (by decide) (by decide) F S rfl rfl (k := 1) rfl h8 hk2 rfl (hr2 _ _ S) hy8 rfl rfl ?_; clear F a S
      rintro v8 c6 a w h9 S F; replace S : St g4 [[bx b3 #[.i6 0, .i6 0] 25], c6, [bx b2 #[.i6 y3.2.Code, .i6 y3.2.Index] 25], c3, [bx b1 #[.i6 y1.2.Code, .i6 y1.2.Index] 25], c1] fr w := S
      refine dv_nx trivial ?_
      refine dv_op ok1 9 rfl [] ?_
      obtain ⟨g7, l7, S, h10⟩ : ∃ gz, Le g4 gz ∧ St gz [[bx b3 #[.i6 0, .i6 0] 25], [bx b2 #[.i6 y3.2.Code, .i6 y3.2.Index] 25], c3, [bx b1 #[.i6 y1.2.Code, .i6 y1.2.Index] 25], c1] fr w ∧ RepSl gz y8 v8 := ⟨_, Le.add _ _, S.freeze 1 rfl, OwnS.freeze (S.front 1 rfl) h9⟩
      refine wl_call0 (wn rfl) rfl F rfl (sequence_Visible_ok (fr := (fl [[bx b3 #[.i6 0, .i6 0] 25], [bx b2 #[.i6 y3.2.Code, .i6 y3.2.Index] 25], c3, [bx b1 #[.i6 y1.2.Code, .i6 y1.2.Index] 25], c1] fr)) y8 v8 h10 S hy9) rfl tc9 rfl rfl ?_; clear F a S
      rintro _ a w ⟨g8, v9, c7, l8, S, h11, rfl⟩ F; replace S : St g8 [c7, [bx b3 #[.i6 0, .i6 0] 25], [bx b2 #[.i6 y3.2.Code, .i6 y3.2.Index] 25], c3, [bx b1 #[.i6 y1.2.Code, .i6 y1.2.Index] 25], c1] fr w := S
      refine dv_nx trivial ?_
      refine dv_et ok1 10 rfl (ev_move rfl) F rfl fun a F=>?_
      refine dv_et ok1 11 rfl (ev_extract rfl rfl) F rfl fun a F=>?_
      refine dv_et ok1 12 rfl (ev_extract rfl rfl) F rfl fun a F=>?_
      refine dv_et ok1 14 rfl (ev_assign rfl) F rfl fun a F=>?_
      refine dv_join (HJ _ _ ?_)
      replace S : St g8 [c7, [bx b3 #[.i6 0, .i6 0] 25], c3, [bx b2 #[.i6 y3.2.Code, .i6 y3.2.Index] 25], c1] fr w := St.tail [c7, [bx b3 #[.i6 0, .i6 0] 25], c3, [bx b2 #[.i6 y3.2.Code, .i6 y3.2.Index] 25], c1] _ (((((S.frontC 5 rfl).frontC 3 rfl).frontC 5 rfl).frontC 4 rfl).frontC 4 rfl)
      exact ⟨v9, b3, c7, g8, F.sub ⟨rfl, rfl, rfl, rfl, rfl, rfl, trivial⟩, (l7.trans l8), S, h11, hm⟩
    ·refine wl_alloc (wn rfl) rfl tz25 (cs := [.i6 0, .i6 0]) rfl F S rfl rfl ?_; clear F a S; rintro b3 a w F S
     refine dv_nx trivial ?_
     refine dv_op ok1 4 rfl [] ?_
     obtain ⟨cs1, hk1, hr1⟩ := RepSl.reads h5
     refine wl_append (wn rfl) rfl tu22 tu22 te33 (by decide) (by decide) F S rfl rfl (k := 1) rfl h7 hk1 rfl (hr1 _ _ S) hy7 rfl rfl ?_; clear F a S
     rintro v7 c5 a w h8 S F; replace S : St g4 [[bx b3 #[.i6 0, .i6 0] 25], c5, [bx b2 #[.i6 y3.2.Code, .i6 y3.2.Index] 25], c3, [bx b1 #[.i6 y1.2.Code, .i6 y1.2.Index] 25], c1] fr w := S
     refine dv_nx trivial ?_
     refine dv_op ok1 8 rfl [] ?_
     obtain ⟨cs2, hk2, hr2⟩ := RepSl.reads h6
     refine wl_append (wn rfl) rfl tu22 tu22 te33 (by decide) (by decide) F S rfl rfl (k := 1) rfl h8 hk2 rfl (hr2 _ _ S) hy8 rfl rfl ?_; clear F a S
     rintro v8 c6 a w h9 S F; replace S : St g4 [[bx b3 #[.i6 0, .i6 0] 25], c6, [bx b2 #[.i6 y3.2.Code, .i6 y3.2.Index] 25], c3, [bx b1 #[.i6 y1.2.Code, .i6 y1.2.Index] 25], c1] fr w := S
     refine dv_nx trivial ?_
     refine dv_op ok1 9 rfl [] ?_
     obtain ⟨g7, l7, S, h10⟩ : ∃ gz, Le g4 gz ∧ St gz [[bx b3 #[.i6 0, .i6 0] 25], [bx b2 #[.i6 y3.2.Code, .i6 y3.2.Index] 25], c3, [bx b1 #[.i6 y1.2.Code, .i6 y1.2.Index] 25], c1] fr w ∧ RepSl gz y8 v8 := ⟨_, Le.add _ _, S.freeze 1 rfl, OwnS.freeze (S.front 1 rfl) h9⟩
     refine wl_call0 (wn rfl) rfl F rfl (sequence_Visible_ok (fr := (fl [[bx b3 #[.i6 0, .i6 0] 25], [bx b2 #[.i6 y3.2.Code, .i6 y3.2.Index] 25], c3, [bx b1 #[.i6 y1.2.Code, .i6 y1.2.Index] 25], c1] fr)) y8 v8 h10 S hy9) rfl tc9 rfl rfl ?_; clear F a S
     rintro _ a w ⟨g8, v9, c7, l8, S, h11, rfl⟩ F; replace S : St g8 [c7, [bx b3 #[.i6 0, .i6 0] 25], [bx b2 #[.i6 y3.2.Code, .i6 y3.2.Index] 25], c3, [bx b1 #[.i6 y1.2.Code, .i6 y1.2.Index] 25], c1] fr w := S
     refine dv_nx trivial ?_
     refine dv_et ok1 10 rfl (ev_move rfl) F rfl fun a F=>?_
     refine dv_et ok1 11 rfl (ev_extract rfl rfl) F rfl fun a F=>?_
     refine dv_et ok1 12 rfl (ev_extract rfl rfl) F rfl fun a F=>?_
     refine dv_et ok1 14 rfl (ev_assign rfl) F rfl fun a F=>?_
     refine dv_join (HJ _ _ ?_)
     replace S : St g8 [c7, [bx b3 #[.i6 0, .i6 0] 25], c3, [bx b2 #[.i6 y3.2.Code, .i6 y3.2.Index] 25], c1] fr w := St.tail [c7, [bx b3 #[.i6 0, .i6 0] 25], c3, [bx b2 #[.i6 y3.2.Code, .i6 y3.2.Index] 25], c1] _ (((((S.frontC 5 rfl).frontC 3 rfl).frontC 5 rfl).frontC 4 rfl).frontC 4 rfl)
     exact ⟨v9, b3, c7, g8, F.sub ⟨rfl, rfl, rfl, rfl, rfl, rfl, trivial⟩, (l7.trans l8), S, h11, hm⟩
   ·refine wl_alloc (wn rfl) rfl tz25 (cs := [.i6 0, .i6 0]) rfl F S rfl rfl ?_; clear F a S; rintro b3 a w F S
    refine dv_nx trivial ?_
    refine dv_op ok1 0 rfl [] ?_
    refine wl_lit (l := ([] : List SeqOp)) (vs := []) (parts := []) (wn rfl) rfl rfl rfl tu22 te33 sz_nil rfl (Cat.nil _) coa_nil rfl F S rfl rfl ?_; clear F a S
    rintro v6 c4 a w h7 F S
    refine dv_nx trivial ?_
    refine dv_op ok1 4 rfl [] ?_
    obtain ⟨cs1, hk1, hr1⟩ := RepSl.reads h5
    refine wl_append (wn rfl) rfl tu22 tu22 te33 (by decide) (by decide) F S rfl rfl (k := 0) rfl h7 hk1 rfl (hr1 _ _ S) hy7 rfl rfl ?_; clear F a S
    rintro v7 c5 a w h8 S F; replace S : St g4 [c5, [bx b3 #[.i6 0, .i6 0] 25], [bx b2 #[.i6 y3.2.Code, .i6 y3.2.Index] 25], c3, [bx b1 #[.i6 y1.2.Code, .i6 y1.2.Index] 25], c1] fr w := S
    refine dv_nx trivial ?_
    refine dv_op ok1 8 rfl [] ?_
    obtain ⟨cs2, hk2, hr2⟩ := RepSl.reads h6
    refine wl_append (wn rfl) rfl tu22 tu22 te33 (by decide) (by decide) F S rfl rfl (k := 0) rfl h8 hk2 rfl (hr2 _ _ S) hy8 rfl rfl ?_; clear F a S
    rintro v8 c6 a w h9 S F; replace S : St g4 [c6, [bx b3 #[.i6 0, .i6 0] 25], [bx b2 #[.i6 y3.2.Code, .i6 y3.2.Index] 25], c3, [bx b1 #[.i6 y1.2.Code, .i6 y1.2.Index] 25], c1] fr w := S
    refine dv_nx trivial ?_
    refine dv_op ok1 9 rfl [] ?_
    obtain ⟨g7, l7, S, h10⟩ : ∃ gz, Le g4 gz ∧ St gz [[bx b3 #[.i6 0, .i6 0] 25], [bx b2 #[.i6 y3.2.Code, .i6 y3.2.Index] 25], c3, [bx b1 #[.i6 y1.2.Code, .i6 y1.2.Index] 25], c1] fr w ∧ RepSl gz y8 v8 := ⟨_, Le.add _ _, S.freeze 0 rfl, OwnS.freeze (S.front 0 rfl) h9⟩
    refine wl_call0 (wn rfl) rfl F rfl (sequence_Visible_ok (fr := (fl [[bx b3 #[.i6 0, .i6 0] 25], [bx b2 #[.i6 y3.2.Code, .i6 y3.2.Index] 25], c3, [bx b1 #[.i6 y1.2.Code, .i6 y1.2.Index] 25], c1] fr)) y8 v8 h10 S hy9) rfl tc9 rfl rfl ?_; clear F a S
    rintro _ a w ⟨g8, v9, c7, l8, S, h11, rfl⟩ F; replace S : St g8 [c7, [bx b3 #[.i6 0, .i6 0] 25], [bx b2 #[.i6 y3.2.Code, .i6 y3.2.Index] 25], c3, [bx b1 #[.i6 y1.2.Code, .i6 y1.2.Index] 25], c1] fr w := S
    refine dv_nx trivial ?_
    refine dv_et ok1 10 rfl (ev_move rfl) F rfl fun a F=>?_
    refine dv_et ok1 11 rfl (ev_extract rfl rfl) F rfl fun a F=>?_
    refine dv_et ok1 12 rfl (ev_extract rfl rfl) F rfl fun a F=>?_
    refine dv_et ok1 14 rfl (ev_assign rfl) F rfl fun a F=>?_
    refine dv_join (HJ _ _ ?_)
    replace S : St g8 [c7, [bx b3 #[.i6 0, .i6 0] 25], c3, [bx b2 #[.i6 y3.2.Code, .i6 y3.2.Index] 25], c1] fr w := St.tail [c7, [bx b3 #[.i6 0, .i6 0] 25], c3, [bx b2 #[.i6 y3.2.Code, .i6 y3.2.Index] 25], c1] _ (((((S.frontC 5 rfl).frontC 3 rfl).frontC 5 rfl).frontC 4 rfl).frontC 4 rfl)
    exact ⟨v9, b3, c7, g8, F.sub ⟨rfl, rfl, rfl, rfl, rfl, rfl, trivial⟩, (l7.trans l8), S, h11, hm⟩
  ·clear F S hm; rintro a w ⟨v10, b4, c8, g9, F, l9, S, h12, hm⟩
   refine dv_op ok1 15 rfl [] ?_
   refine wl_storeC (wn rfl) rfl F S rfl rfl (vs := [.i6 y9.2.Code, .i6 y9.2.Index]) rfl ts25 (one_cons rfl (one_cons rfl one_nil)) (k := 1) rfl (lb rfl) (c' := #[.i6 y9.2.Code, .i6 y9.2.Index]) rfl rfl ?_; clear S; intro w S
   refine dv_nx trivial ?_
   refine dv_fin ok1 ?_
   refine then_n ?_
   refine wp_seq ?_
   refine wp_region_lit ?_
   refine wE (ev_fieldAddr' tu25 tf25_0 (z := 0) ts3 rfl ⟨_, rfl⟩ rfl) F S rfl fun a F=>?_
   refine wE (ev_load1 tu3 rfl rfl (box_ptr (cells := [.i6 y3.2.Code]) 3 rfl 0 rfl (lb rfl))) F S rfl fun a F=>?_
   refine wE (ev_int rfl rfl (bo_eql _ _ _ _)) F S rfl fun a F=>?_
   refine wE (ev_move rfl) F S rfl fun a F=>?_
   obtain ⟨x5, hx4, hm⟩ := bind_some hm
   refine wl_cut 4 (fun a w' => w = w' ∧ Fr 79 a [(65, .bool x5), (9, v10), (7, v3), (5, v1)]) ?_ ?_
   ·clear hm; obtain ⟨hc5, hm⟩ | ⟨hc5, hm⟩ := ite_or hx4
    ·refine wl_ev (wg F rfl rfl rfl rfl hc5) (ev_fieldAddr' tu25 tf25_0 (z := 0) ts3 rfl ⟨_, rfl⟩ rfl) F S rfl rfl ?_; clear F a; intro a F
     refine wl_ev (wg F rfl rfl rfl rfl hc5) (ev_load1 tu3 rfl rfl (box_ptr (cells := [.i6 y9.2.Code]) 1 rfl 0 rfl (lb rfl))) F S rfl rfl ?_; clear F a; intro a F
     refine wl_ev (wg F rfl rfl rfl rfl hc5) (ev_int rfl rfl (bo_eql _ _ _ _)) F S rfl rfl ?_; clear F a; intro a F
     refine wE (ev_pickT rfl hc5 rfl) F S rfl fun a F=>?_
     obtain rfl := sinj hm
     refine wpList_nil (then_n ?_); exact ⟨rfl, F.sub ⟨rfl, rfl, rfl, rfl, trivial⟩⟩
    ·refine wl_skip rfl rfl rfl rfl (ne_tf hc5) F rfl rfl ?_; clear F a; intro a F
     refine wl_skip rfl rfl rfl rfl (ne_tf hc5) F rfl rfl ?_; clear F a; intro a F
     refine wl_skip rfl rfl rfl rfl (ne_tf hc5) F rfl rfl ?_; clear F a; intro a F
     refine wE (ev_pickF rfl hc5 rfl) F S rfl fun a F=>?_
     obtain rfl := sinj hm
     refine wpList_nil (then_n ?_); exact ⟨rfl, F.sub ⟨rfl, rfl, rfl, rfl, trivial⟩⟩
   clear F; rintro a w' ⟨rfl, F⟩
   refine wE (ev_move rfl) F S rfl fun a F=>?_
   obtain ⟨g10, l10, S, h13⟩ : ∃ gz, Le g9 gz ∧ St gz [c8, [bx b4 #[.i6 y9.2.Code, .i6 y9.2.Index] 25], [bx b2 #[.i6 y3.2.Code, .i6 y3.2.Index] 25], c1] fr w ∧ RepSl gz y3.1 v3 := ⟨_, Le.add _ _, S.freeze 2 rfl, OwnS.freeze (S.front 2 rfl) (h4.mono l9)⟩
   obtain ⟨g11, l11, S, h14⟩ : ∃ gz, Le g10 gz ∧ St gz [c8, [bx b4 #[.i6 y9.2.Code, .i6 y9.2.Index] 25], [bx b2 #[.i6 y3.2.Code, .i6 y3.2.Index] 25]] fr w ∧ RepSl gz y1.1 v1 := ⟨_, Le.add _ _, S.freeze 3 rfl, OwnS.freeze (S.front 3 rfl) (h1.mono ((((l2.trans l3).trans l4).trans l9).trans l10))⟩
   obtain ⟨x6, hx5, hm⟩ := bind_some hm
   refine wl_cut 4 (fun a w => ∃ g12, Fr 79 a [(70, .bool x6), (9, v10), (5, v1)] ∧ Le g11 g12 ∧ St g12 [c8, [bx b4 #[.i6 y9.2.Code, .i6 y9.2.Index] 25], [bx b2 #[.i6 y3.2.Code, .i6 y3.2.Index] 25]] fr w) ?_ ?_
   ·clear hm; obtain ⟨hc6, hm⟩ | ⟨hc6, hm⟩ := ite_or hx5
    ·refine wl_ev (wg F rfl rfl rfl rfl hc6) (ev_move rfl) F S rfl rfl ?_; clear F a; intro a F
     refine wl_ev (wg F rfl rfl rfl rfl hc6) (ev_move rfl) F S rfl rfl ?_; clear F a; intro a F
     obtain ⟨y10, hy10, hm⟩ := bind_some hm
     refine wl_call0 (wg F rfl rfl rfl rfl hc6) rfl F rfl (changeforgeequal_Strings_ok (fr := (fl [c8, [bx b4 #[.i6 y9.2.Code, .i6 y9.2.Index] 25], [bx b2 #[.i6 y3.2.Code, .i6 y3.2.Index] 25]] fr)) y1.1 v1 h14 y3.1 v3 (h13.mono l11) S hy10) rfl tc12 rfl rfl ?_; clear F a S
     rintro _ a w ⟨g13, l13, S, rfl⟩ F; replace S : St g13 [c8, [bx b4 #[.i6 y9.2.Code, .i6 y9.2.Index] 25], [bx b2 #[.i6 y3.2.Code, .i6 y3.2.Index] 25]] fr w := S
     refine wE (ev_pickT rfl hc6 rfl) F S rfl fun a F=>?_
     obtain rfl := sinj hm
     refine wpList_nil (then_n ?_); exact ⟨g13, F.sub ⟨rfl, rfl, rfl, trivial⟩, l13, S⟩
    ·refine wl_skip rfl rfl rfl rfl (ne_tf hc6) F rfl rfl ?_; clear F a; intro a F
     refine wl_skip rfl rfl rfl rfl (ne_tf hc6) F rfl rfl ?_; clear F a; intro a F
     refine wl_skip rfl rfl rfl rfl (ne_tf hc6) F rfl rfl ?_; clear F a; intro a F
     refine wE (ev_pickF rfl hc6 rfl) F S rfl fun a F=>?_
     obtain rfl := sinj hm
     refine wpList_nil (then_n ?_); exact ⟨g11, F.sub ⟨rfl, rfl, rfl, trivial⟩, (Le.refl _), S⟩
   clear F S; rintro a w ⟨g12, F, l12, S⟩
   refine wE (ev_move rfl) F S rfl fun a F=>?_
   obtain ⟨g14, l14, S, h15⟩ : ∃ gz, Le g12 gz ∧ St gz [[bx b4 #[.i6 y9.2.Code, .i6 y9.2.Index] 25], [bx b2 #[.i6 y3.2.Code, .i6 y3.2.Index] 25]] fr w ∧ RepSl gz y9.1 v10 := ⟨_, Le.add _ _, S.freeze 0 rfl, OwnS.freeze (S.front 0 rfl) (h12.mono ((l10.trans l11).trans l12))⟩
   obtain ⟨x7, hx6, hm⟩ := bind_some hm
   refine wl_cut 4 (fun a w => ∃ g15, Fr 79 a [(75, .bool x7)] ∧ Le g14 g15 ∧ St g15 [[bx b4 #[.i6 y9.2.Code, .i6 y9.2.Index] 25], [bx b2 #[.i6 y3.2.Code, .i6 y3.2.Index] 25]] fr w) ?_ ?_
   ·clear hm; obtain ⟨hc7, hm⟩ | ⟨hc7, hm⟩ := ite_or hx6
    ·refine wl_ev (wg F rfl rfl rfl rfl hc7) (ev_move rfl) F S rfl rfl ?_; clear F a; intro a F
     refine wl_ev (wg F rfl rfl rfl rfl hc7) (ev_move rfl) F S rfl rfl ?_; clear F a; intro a F
     obtain ⟨y11, hy11, hm⟩ := bind_some hm
     refine wl_call0 (wg F rfl rfl rfl rfl hc7) rfl F rfl (changeforgeequal_Strings_ok (fr := (fl [[bx b4 #[.i6 y9.2.Code, .i6 y9.2.Index] 25], [bx b2 #[.i6 y3.2.Code, .i6 y3.2.Index] 25]] fr)) y1.1 v1 (h14.mono (l12.trans l14)) y9.1 v10 h15 S hy11) rfl tc12 rfl rfl ?_; clear F a S
     rintro _ a w ⟨g16, l16, S, rfl⟩ F; replace S : St g16 [[bx b4 #[.i6 y9.2.Code, .i6 y9.2.Index] 25], [bx b2 #[.i6 y3.2.Code, .i6 y3.2.Index] 25]] fr w := S
     refine wE (ev_pickT rfl hc7 rfl) F S rfl fun a F=>?_
     obtain rfl := sinj hm
     refine wpList_nil (then_n ?_); exact ⟨g16, F.sub ⟨rfl, trivial⟩, l16, S⟩
    ·refine wl_skip rfl rfl rfl rfl (ne_tf hc7) F rfl rfl ?_; clear F a; intro a F
     refine wl_skip rfl rfl rfl rfl (ne_tf hc7) F rfl rfl ?_; clear F a; intro a F
     refine wl_skip rfl rfl rfl rfl (ne_tf hc7) F rfl rfl ?_; clear F a; intro a F
     refine wE (ev_pickF rfl hc7 rfl) F S rfl fun a F=>?_
     obtain rfl := sinj hm
     refine wpList_nil (then_n ?_); exact ⟨g14, F.sub ⟨rfl, trivial⟩, (Le.refl _), S⟩
   clear F S; rintro a w ⟨g15, F, l15, S⟩
   refine wE (ev_move rfl) F S rfl fun a F=>?_
   obtain ⟨x8, hx7, hm⟩ := bind_some hm
   refine wl_cut 2 (fun a w => ∃ g17, Fr 79 a [(78, .bool x8)] ∧ Le g15 g17 ∧ St g17 [[bx b4 #[.i6 y9.2.Code, .i6 y9.2.Index] 25], [bx b2 #[.i6 y3.2.Code, .i6 y3.2.Index] 25]] fr w) ?_ ?_
   ·clear hm; obtain ⟨hc8, hm⟩ | ⟨hc8, hm⟩ := ite_or hx7
    ·obtain ⟨y12, hy12, hm⟩ := bind_some hm
     refine wl_call0 (wg F rfl rfl rfl rfl hc8) rfl F rfl (changeforgelaw2_latest_ok (fr := (fl [[bx b4 #[.i6 y9.2.Code, .i6 y9.2.Index] 25], [bx b2 #[.i6 y3.2.Code, .i6 y3.2.Index] 25]] fr))  S hy12) rfl tc11 rfl rfl ?_; clear F a S
     rintro _ a w ⟨g18, l18, S, rfl⟩ F; replace S : St g18 [[bx b4 #[.i6 y9.2.Code, .i6 y9.2.Index] 25], [bx b2 #[.i6 y3.2.Code, .i6 y3.2.Index] 25]] fr w := S
     refine wE (ev_pickT rfl hc8 rfl) F S rfl fun a F=>?_
     obtain rfl := sinj hm
     refine wpList_nil (then_n ?_); exact ⟨g18, F.sub ⟨rfl, trivial⟩, l18, S⟩
    ·refine wl_skip rfl rfl rfl rfl (ne_tf hc8) F rfl rfl ?_; clear F a; intro a F
     refine wE (ev_pickF rfl hc8 rfl) F S rfl fun a F=>?_
     obtain rfl := sinj hm
     refine wpList_nil (then_n ?_); exact ⟨g15, F.sub ⟨rfl, trivial⟩, (Le.refl _), S⟩
   clear F S; rintro a w ⟨g17, F, l17, S⟩
   refine wE (ev_assign rfl) F S rfl fun a F=>?_
   refine wpList_nil ?_
   refine then_n ?_
   refine wp_ret ?_
   obtain rfl := sinj hm
   refine post_r _ F rfl (ar_cons (resT rfl) ar_nil) ?_
   replace S : St g17 [] fr w := St.tail [] _ S
   exact ⟨_, rfl, g17, ((((((((((l1.trans l2).trans l3).trans l4).trans l9).trans l10).trans l11).trans l12).trans l14).trans l15).trans l17), S, rfl⟩
end Go.Dc
