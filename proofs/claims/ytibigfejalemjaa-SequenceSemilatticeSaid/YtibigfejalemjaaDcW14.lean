/- Walks: each function comes to what its model says. -/
import Derived.Test.YtibigfejalemjaaDcTab
import Derived.Test.YtibigfejalemjaaDcM
import Derived.Test.YtibigfejalemjaaDcW10
import Derived.Test.YtibigfejalemjaaDcW3
namespace Go.Dc
open Go Go.Proofs
set_option maxRecDepth 100000
set_option maxHeartbeats 4000000
set_option linter.unusedVariables false
theorem changeforgelaw2_SequenceSemilattice_ok {g : Gh} {fr : Hl} {w : World} {r : Bool} (a_ : (List SeqOp)) (va_1 : Value) (ha_1 : RepSl g a_ va_1) (b_ : (List SeqOp)) (vb_1 : Value) (hb_1 : RepSl g b_ vb_1) (c_ : (List SeqOp)) (vc_1 : Value) (hc_1 : RepSl g c_ vc_1) (S : St g [] fr w) (hm : changeforgelaw2_SequenceSemilattice a_ b_ c_ = some r) :
  Calls Try.prog 8 [va_1, vb_1, vc_1].toArray w (fun en w' => ∃ v, en = .returned v ∧ ∃ (g' : Gh), Le g g' ∧ St g' [] fr w' ∧ .bool r = v) := by
 unfold changeforgelaw2_SequenceSemilattice at hm
 refine calls_enter (fn := Try.f8) Try.func8 rfl Try.ntmps8 (lb rfl) ?_
 intro a F
 replace F : Fr 99 a [(0, va_1), (1, vb_1), (2, vc_1)] := F
 refine wp_seq ?_
 refine wp_region_lit ?_
 refine wE (ev_assign rfl) F S rfl fun a F=>?_
 refine wpList_nil ?_
 refine then_n ?_
 refine wp_seq ?_
 refine wp_region_lit ?_
 refine wE (ev_move rfl) F S rfl fun a F=>?_
 refine wE (ev_move rfl) F S rfl fun a F=>?_
 obtain ⟨y1, hy1, hm⟩ := bind_some hm
 refine wl_call0 (wn rfl) rfl F rfl (sequence_Merge_ok a_ va_1 ha_1 b_ vb_1 hb_1 S hy1) rfl tc17 rfl rfl ?_; clear F a S
 rintro _ a w ⟨g1, v1, c1, l1, S, h1, rfl⟩ F; replace S : St g1 [c1] fr w := S
 refine wE (ev_move rfl) F S rfl fun a F=>?_
 refine wE (ev_extract rfl rfl) F S rfl fun a F=>?_
 refine wE (ev_extract rfl rfl) F S rfl fun a F=>?_
 refine wl_alloc (wn rfl) rfl tz25 (cs := [.i6 0, .i6 0]) rfl F S rfl rfl ?_; clear F a S; rintro b1 a w F S
 refine wE (ev_assign rfl) F S rfl fun a F=>?_
 refine wl_storeC (wn rfl) rfl F S rfl rfl (vs := [.i6 y1.2.Code, .i6 y1.2.Index]) rfl ts25 (one_cons rfl (one_cons rfl one_nil)) (k := 0) rfl (lb rfl) (c' := #[.i6 y1.2.Code, .i6 y1.2.Index]) rfl rfl ?_; clear S; intro w S
 refine wpList_nil ?_
 refine then_n ?_
 refine wp_seq ?_
 refine wp_region_lit ?_
 refine wE (ev_move rfl) F S rfl fun a F=>?_
 refine wE (ev_move rfl) F S rfl fun a F=>?_
 obtain ⟨y2, hy2, hm⟩ := bind_some hm
 refine wl_call0 (wn rfl) rfl F rfl (sequence_Merge_ok (fr := (fl [[bx b1 #[.i6 y1.2.Code, .i6 y1.2.Index] 25], c1] fr)) b_ vb_1 (hb_1.mono l1) a_ va_1 (ha_1.mono l1) S hy2) rfl tc17 rfl rfl ?_; clear F a S
 rintro _ a w ⟨g2, v2, c2, l2, S, h2, rfl⟩ F; replace S : St g2 [c2, [bx b1 #[.i6 y1.2.Code, .i6 y1.2.Index] 25], c1] fr w := S
 refine wE (ev_move rfl) F S rfl fun a F=>?_
 refine wE (ev_extract rfl rfl) F S rfl fun a F=>?_
 refine wE (ev_extract rfl rfl) F S rfl fun a F=>?_
 refine wl_alloc (wn rfl) rfl tz25 (cs := [.i6 0, .i6 0]) rfl F S rfl rfl ?_; clear F a S; rintro b2 a w F S
 refine wE (ev_assign rfl) F S rfl fun a F=>?_
 refine wl_storeC (wn rfl) rfl F S rfl rfl (vs := [.i6 y2.2.Code, .i6 y2.2.Index]) rfl ts25 (one_cons rfl (one_cons rfl one_nil)) (k := 0) rfl (lb rfl) (c' := #[.i6 y2.2.Code, .i6 y2.2.Index]) rfl rfl ?_; clear S; intro w S
 refine wpList_nil ?_
 refine then_n ?_
 refine wp_seq ?_
 refine wp_seq ?_
 refine wp_region_lit ?_
 refine wE (ev_fieldAddr' tu25 tf25_0 (z := 0) ts3 rfl ⟨_, rfl⟩ rfl) F S rfl fun a F=>?_
 refine wE (ev_load1 tu3 rfl rfl (box_ptr (cells := [.i6 y1.2.Code]) 2 rfl 0 rfl (lb rfl))) F S rfl fun a F=>?_
 refine wE (ev_int rfl rfl (bo_neq _ _ _ _)) F S rfl fun a F=>?_
 refine wE (ev_move rfl) F S rfl fun a F=>?_
 obtain ⟨x1, hx1, hm⟩ := bind_some hm
 refine wl_cut 4 (fun a w' => w = w' ∧ Fr 99 a [(38, .bool x1), (9, v2), (7, v1), (0, va_1), (1, vb_1), (2, vc_1)]) ?_ ?_
 ·clear hm; obtain ⟨hc1, hm⟩ | ⟨hc1, hm⟩ := ite_or hx1
  ·refine wl_skip rfl rfl rfl rfl (ne_ft hc1) F rfl rfl ?_; clear F a; intro a F
   refine wl_skip rfl rfl rfl rfl (ne_ft hc1) F rfl rfl ?_; clear F a; intro a F
   refine wl_skip rfl rfl rfl rfl (ne_ft hc1) F rfl rfl ?_; clear F a; intro a F
   refine wE (ev_pickT rfl hc1 rfl) F S rfl fun a F=>?_
   obtain rfl := sinj hm
   refine wpList_nil (then_n ?_); exact ⟨rfl, F.sub ⟨rfl, rfl, rfl, rfl, rfl, rfl, trivial⟩⟩
  ·refine wl_ev (wg F rfl rfl rfl rfl hc1) (ev_fieldAddr' tu25 tf25_0 (z := 0) ts3 rfl ⟨_, rfl⟩ rfl) F S rfl rfl ?_; clear F a; intro a F
   refine wl_ev (wg F rfl rfl rfl rfl hc1) (ev_load1 tu3 rfl rfl (box_ptr (cells := [.i6 y2.2.Code]) 0 rfl 0 rfl (lb rfl))) F S rfl rfl ?_; clear F a; intro a F
   refine wl_ev (wg F rfl rfl rfl rfl hc1) (ev_int rfl rfl (bo_neq _ _ _ _)) F S rfl rfl ?_; clear F a; intro a F
   refine wE (ev_pickF rfl hc1 rfl) F S rfl fun a F=>?_
   obtain rfl := sinj hm
   refine wpList_nil (then_n ?_); exact ⟨rfl, F.sub ⟨rfl, rfl, rfl, rfl, rfl, rfl, trivial⟩⟩
 clear F; rintro a w' ⟨rfl, F⟩
 refine wpList_nil ?_
 refine then_n ?_
 obtain ⟨hc2, hm⟩ | ⟨hc2, hm⟩ := ite_or hm
 ·refine wp_condT F rfl hc2 ?_
  refine wp_seq ?_
  refine wp_region_lit ?_
  obtain ⟨y3, hy3, hm⟩ := bind_some hm
  refine wl_call0 (wn rfl) rfl F rfl (changeforgelaw2_latest_ok (fr := (fl [[bx b2 #[.i6 y2.2.Code, .i6 y2.2.Index] 25], c2, [bx b1 #[.i6 y1.2.Code, .i6 y1.2.Index] 25], c1] fr))  S hy3) rfl tc11 rfl rfl ?_; clear F a S
  rintro _ a w ⟨g3, l3, S, rfl⟩ F; replace S : St g3 [[bx b2 #[.i6 y2.2.Code, .i6 y2.2.Index] 25], c2, [bx b1 #[.i6 y1.2.Code, .i6 y1.2.Index] 25], c1] fr w := S
  refine wE (ev_assign rfl) F S rfl fun a F=>?_
  refine wpList_nil ?_
  refine then_n ?_
  refine wp_ret ?_
  refine then_r ?_
  obtain rfl := sinj hm
  refine post_r _ F rfl (ar_cons (resT rfl) ar_nil) ?_
  replace S : St g3 [] fr w := St.tail [] _ S
  exact ⟨_, rfl, g3, ((l1.trans l2).trans l3), S, rfl⟩
 ·refine wp_condF F rfl hc2 ?_
  refine wp_skip ?_
  refine then_n ?_
  refine wp_seq ?_
  refine wp_region_lit ?_
  refine wE (ev_move rfl) F S rfl fun a F=>?_
  refine wE (ev_move rfl) F S rfl fun a F=>?_
  obtain ⟨g4, l4, S, h3⟩ : ∃ gz, Le g2 gz ∧ St gz [[bx b2 #[.i6 y2.2.Code, .i6 y2.2.Index] 25], c2, [bx b1 #[.i6 y1.2.Code, .i6 y1.2.Index] 25]] fr w ∧ RepSl gz y1.1 v1 := ⟨_, Le.add _ _, S.freeze 3 rfl, OwnS.freeze (S.front 3 rfl) (h1.mono l2)⟩
  obtain ⟨y4, hy4, hm⟩ := bind_some hm
  refine wl_call0 (wn rfl) rfl F rfl (sequence_Merge_ok (fr := (fl [[bx b2 #[.i6 y2.2.Code, .i6 y2.2.Index] 25], c2, [bx b1 #[.i6 y1.2.Code, .i6 y1.2.Index] 25]] fr)) y1.1 v1 h3 a_ va_1 (ha_1.mono ((l1.trans l2).trans l4)) S hy4) rfl tc17 rfl rfl ?_; clear F a S
  rintro _ a w ⟨g5, v3, c3, l5, S, h4, rfl⟩ F; replace S : St g5 [c3, [bx b2 #[.i6 y2.2.Code, .i6 y2.2.Index] 25], c2, [bx b1 #[.i6 y1.2.Code, .i6 y1.2.Index] 25]] fr w := S
  refine wE (ev_move rfl) F S rfl fun a F=>?_
  refine wE (ev_extract rfl rfl) F S rfl fun a F=>?_
  refine wE (ev_extract rfl rfl) F S rfl fun a F=>?_
  refine wl_alloc (wn rfl) rfl tz25 (cs := [.i6 0, .i6 0]) rfl F S rfl rfl ?_; clear F a S; rintro b3 a w F S
  refine wE (ev_assign rfl) F S rfl fun a F=>?_
  refine wl_storeC (wn rfl) rfl F S rfl rfl (vs := [.i6 y4.2.Code, .i6 y4.2.Index]) rfl ts25 (one_cons rfl (one_cons rfl one_nil)) (k := 0) rfl (lb rfl) (c' := #[.i6 y4.2.Code, .i6 y4.2.Index]) rfl rfl ?_; clear S; intro w S
  refine wpList_nil ?_
  refine then_n ?_
  refine wp_seq ?_
  refine wp_region_lit ?_
  refine wE (ev_move rfl) F S rfl fun a F=>?_
  refine wE (ev_move rfl) F S rfl fun a F=>?_
  obtain ⟨y5, hy5, hm⟩ := bind_some hm
  refine wl_call0 (wn rfl) rfl F rfl (sequence_Merge_ok (fr := (fl [[bx b3 #[.i6 y4.2.Code, .i6 y4.2.Index] 25], c3, [bx b2 #[.i6 y2.2.Code, .i6 y2.2.Index] 25], c2, [bx b1 #[.i6 y1.2.Code, .i6 y1.2.Index] 25]] fr)) y1.1 v1 (h3.mono l5) c_ vc_1 (hc_1.mono (((l1.trans l2).trans l4).trans l5)) S hy5) rfl tc17 rfl rfl ?_; clear F a S
  rintro _ a w ⟨g6, v4, c4, l6, S, h5, rfl⟩ F; replace S : St g6 [c4, [bx b3 #[.i6 y4.2.Code, .i6 y4.2.Index] 25], c3, [bx b2 #[.i6 y2.2.Code, .i6 y2.2.Index] 25], c2, [bx b1 #[.i6 y1.2.Code, .i6 y1.2.Index] 25]] fr w := S
  refine wE (ev_move rfl) F S rfl fun a F=>?_
  refine wE (ev_extract rfl rfl) F S rfl fun a F=>?_
  refine wE (ev_extract rfl rfl) F S rfl fun a F=>?_
  refine wl_alloc (wn rfl) rfl tz25 (cs := [.i6 0, .i6 0]) rfl F S rfl rfl ?_; clear F a S; rintro b4 a w F S
  refine wE (ev_assign rfl) F S rfl fun a F=>?_
  refine wl_storeC (wn rfl) rfl F S rfl rfl (vs := [.i6 y5.2.Code, .i6 y5.2.Index]) rfl ts25 (one_cons rfl (one_cons rfl one_nil)) (k := 0) rfl (lb rfl) (c' := #[.i6 y5.2.Code, .i6 y5.2.Index]) rfl rfl ?_; clear S; intro w S
  refine wpList_nil ?_
  refine then_n ?_
  refine wp_seq ?_
  refine wp_region_lit ?_
  refine wE (ev_move rfl) F S rfl fun a F=>?_
  refine wE (ev_move rfl) F S rfl fun a F=>?_
  obtain ⟨y6, hy6, hm⟩ := bind_some hm
  refine wl_call0 (wn rfl) rfl F rfl (sequence_Merge_ok (fr := (fl [[bx b4 #[.i6 y5.2.Code, .i6 y5.2.Index] 25], c4, [bx b3 #[.i6 y4.2.Code, .i6 y4.2.Index] 25], c3, [bx b2 #[.i6 y2.2.Code, .i6 y2.2.Index] 25], c2, [bx b1 #[.i6 y1.2.Code, .i6 y1.2.Index] 25]] fr)) b_ vb_1 (hb_1.mono ((((l1.trans l2).trans l4).trans l5).trans l6)) c_ vc_1 (hc_1.mono ((((l1.trans l2).trans l4).trans l5).trans l6)) S hy6) rfl tc17 rfl rfl ?_; clear F a S
  rintro _ a w ⟨g7, v5, c5, l7, S, h6, rfl⟩ F; replace S : St g7 [c5, [bx b4 #[.i6 y5.2.Code, .i6 y5.2.Index] 25], c4, [bx b3 #[.i6 y4.2.Code, .i6 y4.2.Index] 25], c3, [bx b2 #[.i6 y2.2.Code, .i6 y2.2.Index] 25], c2, [bx b1 #[.i6 y1.2.Code, .i6 y1.2.Index] 25]] fr w := S
  refine wE (ev_move rfl) F S rfl fun a F=>?_
  refine wE (ev_extract rfl rfl) F S rfl fun a F=>?_
  refine wE (ev_extract rfl rfl) F S rfl fun a F=>?_
  refine wl_alloc (wn rfl) rfl tz25 (cs := [.i6 0, .i6 0]) rfl F S rfl rfl ?_; clear F a S; rintro b5 a w F S
  refine wE (ev_assign rfl) F S rfl fun a F=>?_
  refine wl_storeC (wn rfl) rfl F S rfl rfl (vs := [.i6 y6.2.Code, .i6 y6.2.Index]) rfl ts25 (one_cons rfl (one_cons rfl one_nil)) (k := 0) rfl (lb rfl) (c' := #[.i6 y6.2.Code, .i6 y6.2.Index]) rfl rfl ?_; clear S; intro w S
  refine wpList_nil ?_
  refine then_n ?_
  refine wp_seq ?_
  refine wp_region_lit ?_
  refine wE (ev_move rfl) F S rfl fun a F=>?_
  refine wE (ev_move rfl) F S rfl fun a F=>?_
  obtain ⟨g8, l8, S, h7⟩ : ∃ gz, Le g7 gz ∧ St gz [[bx b5 #[.i6 y6.2.Code, .i6 y6.2.Index] 25], [bx b4 #[.i6 y5.2.Code, .i6 y5.2.Index] 25], c4, [bx b3 #[.i6 y4.2.Code, .i6 y4.2.Index] 25], c3, [bx b2 #[.i6 y2.2.Code, .i6 y2.2.Index] 25], c2, [bx b1 #[.i6 y1.2.Code, .i6 y1.2.Index] 25]] fr w ∧ RepSl gz y6.1 v5 := ⟨_, Le.add _ _, S.freeze 1 rfl, OwnS.freeze (S.front 1 rfl) h6⟩
  obtain ⟨y7, hy7, hm⟩ := bind_some hm
  refine wl_call0 (wn rfl) rfl F rfl (sequence_Merge_ok (fr := (fl [[bx b5 #[.i6 y6.2.Code, .i6 y6.2.Index] 25], [bx b4 #[.i6 y5.2.Code, .i6 y5.2.Index] 25], c4, [bx b3 #[.i6 y4.2.Code, .i6 y4.2.Index] 25], c3, [bx b2 #[.i6 y2.2.Code, .i6 y2.2.Index] 25], c2, [bx b1 #[.i6 y1.2.Code, .i6 y1.2.Index] 25]] fr)) a_ va_1 (ha_1.mono ((((((l1.trans l2).trans l4).trans l5).trans l6).trans l7).trans l8)) y6.1 v5 h7 S hy7) rfl tc17 rfl rfl ?_; clear F a S
  rintro _ a w ⟨g9, v6, c6, l9, S, h8, rfl⟩ F; replace S : St g9 [c6, [bx b5 #[.i6 y6.2.Code, .i6 y6.2.Index] 25], [bx b4 #[.i6 y5.2.Code, .i6 y5.2.Index] 25], c4, [bx b3 #[.i6 y4.2.Code, .i6 y4.2.Index] 25], c3, [bx b2 #[.i6 y2.2.Code, .i6 y2.2.Index] 25], c2, [bx b1 #[.i6 y1.2.Code, .i6 y1.2.Index] 25]] fr w := S
  refine wE (ev_move rfl) F S rfl fun a F=>?_
  refine wE (ev_extract rfl rfl) F S rfl fun a F=>?_
  refine wE (ev_extract rfl rfl) F S rfl fun a F=>?_
  refine wl_alloc (wn rfl) rfl tz25 (cs := [.i6 0, .i6 0]) rfl F S rfl rfl ?_; clear F a S; rintro b6 a w F S
  refine wE (ev_assign rfl) F S rfl fun a F=>?_
  refine wl_storeC (wn rfl) rfl F S rfl rfl (vs := [.i6 y7.2.Code, .i6 y7.2.Index]) rfl ts25 (one_cons rfl (one_cons rfl one_nil)) (k := 0) rfl (lb rfl) (c' := #[.i6 y7.2.Code, .i6 y7.2.Index]) rfl rfl ?_; clear S; intro w S
  refine wpList_nil ?_
  refine then_n ?_
  refine wp_seq ?_
  refine wp_seq ?_
  refine wp_region_lit ?_
  refine wE (ev_move rfl) F S rfl fun a F=>?_
  refine wE (ev_move rfl) F S rfl fun a F=>?_
  obtain ⟨g10, l10, S, h9⟩ : ∃ gz, Le g9 gz ∧ St gz [[bx b6 #[.i6 y7.2.Code, .i6 y7.2.Index] 25], c6, [bx b5 #[.i6 y6.2.Code, .i6 y6.2.Index] 25], [bx b4 #[.i6 y5.2.Code, .i6 y5.2.Index] 25], c4, [bx b3 #[.i6 y4.2.Code, .i6 y4.2.Index] 25], c3, [bx b2 #[.i6 y2.2.Code, .i6 y2.2.Index] 25], [bx b1 #[.i6 y1.2.Code, .i6 y1.2.Index] 25]] fr w ∧ RepSl gz y2.1 v2 := ⟨_, Le.add _ _, S.freeze 8 rfl, OwnS.freeze (S.front 8 rfl) (h2.mono (((((l4.trans l5).trans l6).trans l7).trans l8).trans l9))⟩
  obtain ⟨y8, hy8, hm⟩ := bind_some hm
  refine wl_call0 (wn rfl) rfl F rfl (changeforgeequal_Ops_ok (fr := (fl [[bx b6 #[.i6 y7.2.Code, .i6 y7.2.Index] 25], c6, [bx b5 #[.i6 y6.2.Code, .i6 y6.2.Index] 25], [bx b4 #[.i6 y5.2.Code, .i6 y5.2.Index] 25], c4, [bx b3 #[.i6 y4.2.Code, .i6 y4.2.Index] 25], c3, [bx b2 #[.i6 y2.2.Code, .i6 y2.2.Index] 25], [bx b1 #[.i6 y1.2.Code, .i6 y1.2.Index] 25]] fr)) y1.1 v1 (h3.mono (((((l5.trans l6).trans l7).trans l8).trans l9).trans l10)) y2.1 v2 h9 S hy8) rfl tc21 rfl rfl ?_; clear F a S
  rintro _ a w ⟨g11, l11, S, rfl⟩ F; replace S : St g11 [[bx b6 #[.i6 y7.2.Code, .i6 y7.2.Index] 25], c6, [bx b5 #[.i6 y6.2.Code, .i6 y6.2.Index] 25], [bx b4 #[.i6 y5.2.Code, .i6 y5.2.Index] 25], c4, [bx b3 #[.i6 y4.2.Code, .i6 y4.2.Index] 25], c3, [bx b2 #[.i6 y2.2.Code, .i6 y2.2.Index] 25], [bx b1 #[.i6 y1.2.Code, .i6 y1.2.Index] 25]] fr w := S
  refine wE (ev_not rfl) F S rfl fun a F=>?_
  refine wE (ev_move rfl) F S rfl fun a F=>?_
  obtain ⟨x2, hx2, hm⟩ := bind_some hm
  refine wl_cut 4 (fun a w' => w = w' ∧ Fr 99 a [(72, .bool x2), (17, v6), (18, bp b6 0), (16, bp b5 0), (13, v4), (14, bp b4 0), (11, v3), (7, v1)]) ?_ ?_
  ·clear hm; obtain ⟨hc3, hm⟩ | ⟨hc3, hm⟩ := ite_or hx2
   ·refine wl_skip rfl rfl rfl rfl (ne_ft hc3) F rfl rfl ?_; clear F a; intro a F
    refine wl_skip rfl rfl rfl rfl (ne_ft hc3) F rfl rfl ?_; clear F a; intro a F
    refine wl_skip rfl rfl rfl rfl (ne_ft hc3) F rfl rfl ?_; clear F a; intro a F
    refine wE (ev_pickT rfl hc3 rfl) F S rfl fun a F=>?_
    obtain rfl := sinj hm
    refine wpList_nil (then_n ?_); exact ⟨rfl, F.sub ⟨rfl, rfl, rfl, rfl, rfl, rfl, rfl, rfl, trivial⟩⟩
   ·refine wl_ev (wg F rfl rfl rfl rfl hc3) (ev_fieldAddr' tu25 tf25_0 (z := 0) ts3 rfl ⟨_, rfl⟩ rfl) F S rfl rfl ?_; clear F a; intro a F
    refine wl_ev (wg F rfl rfl rfl rfl hc3) (ev_load1 tu3 rfl rfl (box_ptr (cells := [.i6 y4.2.Code]) 5 rfl 0 rfl (lb rfl))) F S rfl rfl ?_; clear F a; intro a F
    refine wl_ev (wg F rfl rfl rfl rfl hc3) (ev_int rfl rfl (bo_neq _ _ _ _)) F S rfl rfl ?_; clear F a; intro a F
    refine wE (ev_pickF rfl hc3 rfl) F S rfl fun a F=>?_
    obtain rfl := sinj hm
    refine wpList_nil (then_n ?_); exact ⟨rfl, F.sub ⟨rfl, rfl, rfl, rfl, rfl, rfl, rfl, rfl, trivial⟩⟩
  clear F; rintro a w' ⟨rfl, F⟩
  refine wE (ev_move rfl) F S rfl fun a F=>?_
  obtain ⟨g12, l12, S, h10⟩ : ∃ gz, Le g11 gz ∧ St gz [[bx b6 #[.i6 y7.2.Code, .i6 y7.2.Index] 25], c6, [bx b5 #[.i6 y6.2.Code, .i6 y6.2.Index] 25], [bx b4 #[.i6 y5.2.Code, .i6 y5.2.Index] 25], c4, [bx b3 #[.i6 y4.2.Code, .i6 y4.2.Index] 25], [bx b2 #[.i6 y2.2.Code, .i6 y2.2.Index] 25], [bx b1 #[.i6 y1.2.Code, .i6 y1.2.Index] 25]] fr w ∧ RepSl gz y4.1 v3 := ⟨_, Le.add _ _, S.freeze 6 rfl, OwnS.freeze (S.front 6 rfl) (h4.mono (((((l6.trans l7).trans l8).trans l9).trans l10).trans l11))⟩
  obtain ⟨x3, hx3, hm⟩ := bind_some hm
  refine wl_cut 5 (fun a w => ∃ g13, Fr 99 a [(78, .bool x3), (17, v6), (18, bp b6 0), (16, bp b5 0), (13, v4), (14, bp b4 0)] ∧ Le g12 g13 ∧ St g13 [[bx b6 #[.i6 y7.2.Code, .i6 y7.2.Index] 25], c6, [bx b5 #[.i6 y6.2.Code, .i6 y6.2.Index] 25], [bx b4 #[.i6 y5.2.Code, .i6 y5.2.Index] 25], c4, [bx b3 #[.i6 y4.2.Code, .i6 y4.2.Index] 25], [bx b2 #[.i6 y2.2.Code, .i6 y2.2.Index] 25], [bx b1 #[.i6 y1.2.Code, .i6 y1.2.Index] 25]] fr w) ?_ ?_
  ·clear hm; obtain ⟨hc4, hm⟩ | ⟨hc4, hm⟩ := ite_or hx3
   ·refine wl_skip rfl rfl rfl rfl (ne_ft hc4) F rfl rfl ?_; clear F a; intro a F
    refine wl_skip rfl rfl rfl rfl (ne_ft hc4) F rfl rfl ?_; clear F a; intro a F
    refine wl_skip rfl rfl rfl rfl (ne_ft hc4) F rfl rfl ?_; clear F a; intro a F
    refine wl_skip rfl rfl rfl rfl (ne_ft hc4) F rfl rfl ?_; clear F a; intro a F
    refine wE (ev_pickT rfl hc4 rfl) F S rfl fun a F=>?_
    obtain rfl := sinj hm
    refine wpList_nil (then_n ?_); exact ⟨g12, F.sub ⟨rfl, rfl, rfl, rfl, rfl, rfl, trivial⟩, (Le.refl _), S⟩
   ·refine wl_ev (wg F rfl rfl rfl rfl hc4) (ev_move rfl) F S rfl rfl ?_; clear F a; intro a F
    refine wl_ev (wg F rfl rfl rfl rfl hc4) (ev_move rfl) F S rfl rfl ?_; clear F a; intro a F
    obtain ⟨y9, hy9, hm⟩ := bind_some hm
    refine wl_call0 (wg F rfl rfl rfl rfl hc4) rfl F rfl (changeforgeequal_Ops_ok (fr := (fl [[bx b6 #[.i6 y7.2.Code, .i6 y7.2.Index] 25], c6, [bx b5 #[.i6 y6.2.Code, .i6 y6.2.Index] 25], [bx b4 #[.i6 y5.2.Code, .i6 y5.2.Index] 25], c4, [bx b3 #[.i6 y4.2.Code, .i6 y4.2.Index] 25], [bx b2 #[.i6 y2.2.Code, .i6 y2.2.Index] 25], [bx b1 #[.i6 y1.2.Code, .i6 y1.2.Index] 25]] fr)) y4.1 v3 h10 y1.1 v1 (h3.mono (((((((l5.trans l6).trans l7).trans l8).trans l9).trans l10).trans l11).trans l12)) S hy9) rfl tc21 rfl rfl ?_; clear F a S
    rintro _ a w ⟨g14, l14, S, rfl⟩ F; replace S : St g14 [[bx b6 #[.i6 y7.2.Code, .i6 y7.2.Index] 25], c6, [bx b5 #[.i6 y6.2.Code, .i6 y6.2.Index] 25], [bx b4 #[.i6 y5.2.Code, .i6 y5.2.Index] 25], c4, [bx b3 #[.i6 y4.2.Code, .i6 y4.2.Index] 25], [bx b2 #[.i6 y2.2.Code, .i6 y2.2.Index] 25], [bx b1 #[.i6 y1.2.Code, .i6 y1.2.Index] 25]] fr w := S
    refine wl_ev (wg F rfl rfl rfl rfl hc4) (ev_not rfl) F S rfl rfl ?_; clear F a; intro a F
    refine wE (ev_pickF rfl hc4 rfl) F S rfl fun a F=>?_
    obtain rfl := sinj hm
    refine wpList_nil (then_n ?_); exact ⟨g14, F.sub ⟨rfl, rfl, rfl, rfl, rfl, rfl, trivial⟩, l14, S⟩
  clear F S; rintro a w ⟨g13, F, l13, S⟩
  refine wpList_nil ?_
  refine then_n ?_
  obtain ⟨hc5, hm⟩ | ⟨hc5, hm⟩ := ite_or hm
  ·refine wp_condT F rfl hc5 ?_
   refine wp_seq ?_
   refine wp_region_lit ?_
   refine wE (ev_assign rfl) F S rfl fun a F=>?_
   refine wpList_nil ?_
   refine then_n ?_
   refine wp_ret ?_
   refine then_r ?_
   obtain rfl := sinj hm
   refine post_r _ F rfl (ar_cons (resT rfl) ar_nil) ?_
   replace S : St g13 [] fr w := St.tail [] _ S
   exact ⟨_, rfl, g13, (((((((((((l1.trans l2).trans l4).trans l5).trans l6).trans l7).trans l8).trans l9).trans l10).trans l11).trans l12).trans l13), S, rfl⟩
  ·refine wp_condF F rfl hc5 ?_
   refine wp_skip ?_
   refine then_n ?_
   refine wp_seq ?_
   refine wp_seq ?_
   refine wp_region_lit ?_
   refine wE (ev_fieldAddr' tu25 tf25_0 (z := 0) ts3 rfl ⟨_, rfl⟩ rfl) F S rfl fun a F=>?_
   refine wE (ev_load1 tu3 rfl rfl (box_ptr (cells := [.i6 y5.2.Code]) 3 rfl 0 rfl (lb rfl))) F S rfl fun a F=>?_
   refine wE (ev_int rfl rfl (bo_neq _ _ _ _)) F S rfl fun a F=>?_
   refine wE (ev_move rfl) F S rfl fun a F=>?_
   obtain ⟨x4, hx4, hm⟩ := bind_some hm
   refine wl_cut 4 (fun a w' => w = w' ∧ Fr 99 a [(86, .bool x4), (17, v6), (18, bp b6 0), (13, v4)]) ?_ ?_
   ·clear hm; obtain ⟨hc6, hm⟩ | ⟨hc6, hm⟩ := ite_or hx4
    ·refine wl_skip rfl rfl rfl rfl (ne_ft hc6) F rfl rfl ?_; clear F a; intro a F
     refine wl_skip rfl rfl rfl rfl (ne_ft hc6) F rfl rfl ?_; clear F a; intro a F
     refine wl_skip rfl rfl rfl rfl (ne_ft hc6) F rfl rfl ?_; clear F a; intro a F
     refine wE (ev_pickT rfl hc6 rfl) F S rfl fun a F=>?_
     obtain rfl := sinj hm
     refine wpList_nil (then_n ?_); exact ⟨rfl, F.sub ⟨rfl, rfl, rfl, rfl, trivial⟩⟩
    ·refine wl_ev (wg F rfl rfl rfl rfl hc6) (ev_fieldAddr' tu25 tf25_0 (z := 0) ts3 rfl ⟨_, rfl⟩ rfl) F S rfl rfl ?_; clear F a; intro a F
     refine wl_ev (wg F rfl rfl rfl rfl hc6) (ev_load1 tu3 rfl rfl (box_ptr (cells := [.i6 y6.2.Code]) 2 rfl 0 rfl (lb rfl))) F S rfl rfl ?_; clear F a; intro a F
     refine wl_ev (wg F rfl rfl rfl rfl hc6) (ev_int rfl rfl (bo_neq _ _ _ _)) F S rfl rfl ?_; clear F a; intro a F
     refine wE (ev_pickF rfl hc6 rfl) F S rfl fun a F=>?_
     obtain rfl := sinj hm
     refine wpList_nil (then_n ?_); exact ⟨rfl, F.sub ⟨rfl, rfl, rfl, rfl, trivial⟩⟩
   clear F; rintro a w' ⟨rfl, F⟩
   refine wE (ev_move rfl) F S rfl fun a F=>?_
   obtain ⟨x5, hx5, hm⟩ := bind_some hm
   refine wl_cut 4 (fun a w' => w = w' ∧ Fr 99 a [(91, .bool x5), (17, v6), (13, v4)]) ?_ ?_
   ·clear hm; obtain ⟨hc7, hm⟩ | ⟨hc7, hm⟩ := ite_or hx5
    ·refine wl_skip rfl rfl rfl rfl (ne_ft hc7) F rfl rfl ?_; clear F a; intro a F
     refine wl_skip rfl rfl rfl rfl (ne_ft hc7) F rfl rfl ?_; clear F a; intro a F
     refine wl_skip rfl rfl rfl rfl (ne_ft hc7) F rfl rfl ?_; clear F a; intro a F
     refine wE (ev_pickT rfl hc7 rfl) F S rfl fun a F=>?_
     obtain rfl := sinj hm
     refine wpList_nil (then_n ?_); exact ⟨rfl, F.sub ⟨rfl, rfl, rfl, trivial⟩⟩
    ·refine wl_ev (wg F rfl rfl rfl rfl hc7) (ev_fieldAddr' tu25 tf25_0 (z := 0) ts3 rfl ⟨_, rfl⟩ rfl) F S rfl rfl ?_; clear F a; intro a F
     refine wl_ev (wg F rfl rfl rfl rfl hc7) (ev_load1 tu3 rfl rfl (box_ptr (cells := [.i6 y7.2.Code]) 0 rfl 0 rfl (lb rfl))) F S rfl rfl ?_; clear F a; intro a F
     refine wl_ev (wg F rfl rfl rfl rfl hc7) (ev_int rfl rfl (bo_neq _ _ _ _)) F S rfl rfl ?_; clear F a; intro a F
     refine wE (ev_pickF rfl hc7 rfl) F S rfl fun a F=>?_
     obtain rfl := sinj hm
     refine wpList_nil (then_n ?_); exact ⟨rfl, F.sub ⟨rfl, rfl, rfl, trivial⟩⟩
   clear F; rintro a w' ⟨rfl, F⟩
   refine wpList_nil ?_
   refine then_n ?_
   obtain ⟨hc8, hm⟩ | ⟨hc8, hm⟩ := ite_or hm
   ·refine wp_condT F rfl hc8 ?_
    refine wp_seq ?_
    refine wp_region_lit ?_
    obtain ⟨y10, hy10, hm⟩ := bind_some hm
    refine wl_call0 (wn rfl) rfl F rfl (changeforgelaw2_latest_ok (fr := (fl [[bx b6 #[.i6 y7.2.Code, .i6 y7.2.Index] 25], c6, [bx b5 #[.i6 y6.2.Code, .i6 y6.2.Index] 25], [bx b4 #[.i6 y5.2.Code, .i6 y5.2.Index] 25], c4, [bx b3 #[.i6 y4.2.Code, .i6 y4.2.Index] 25], [bx b2 #[.i6 y2.2.Code, .i6 y2.2.Index] 25], [bx b1 #[.i6 y1.2.Code, .i6 y1.2.Index] 25]] fr))  S hy10) rfl tc11 rfl rfl ?_; clear F a S
    rintro _ a w ⟨g15, l15, S, rfl⟩ F; replace S : St g15 [[bx b6 #[.i6 y7.2.Code, .i6 y7.2.Index] 25], c6, [bx b5 #[.i6 y6.2.Code, .i6 y6.2.Index] 25], [bx b4 #[.i6 y5.2.Code, .i6 y5.2.Index] 25], c4, [bx b3 #[.i6 y4.2.Code, .i6 y4.2.Index] 25], [bx b2 #[.i6 y2.2.Code, .i6 y2.2.Index] 25], [bx b1 #[.i6 y1.2.Code, .i6 y1.2.Index] 25]] fr w := S
    refine wE (ev_assign rfl) F S rfl fun a F=>?_
    refine wpList_nil ?_
    refine then_n ?_
    refine wp_ret ?_
    refine then_r ?_
    obtain rfl := sinj hm
    refine post_r _ F rfl (ar_cons (resT rfl) ar_nil) ?_
    replace S : St g15 [] fr w := St.tail [] _ S
    exact ⟨_, rfl, g15, ((((((((((((l1.trans l2).trans l4).trans l5).trans l6).trans l7).trans l8).trans l9).trans l10).trans l11).trans l12).trans l13).trans l15), S, rfl⟩
   ·refine wp_condF F rfl hc8 ?_
    refine wp_skip ?_
    refine then_n ?_
    refine wp_seq ?_
    refine wp_region_lit ?_
    refine wE (ev_move rfl) F S rfl fun a F=>?_
    refine wE (ev_move rfl) F S rfl fun a F=>?_
    obtain ⟨g16, l16, S, h11⟩ : ∃ gz, Le g13 gz ∧ St gz [[bx b6 #[.i6 y7.2.Code, .i6 y7.2.Index] 25], c6, [bx b5 #[.i6 y6.2.Code, .i6 y6.2.Index] 25], [bx b4 #[.i6 y5.2.Code, .i6 y5.2.Index] 25], [bx b3 #[.i6 y4.2.Code, .i6 y4.2.Index] 25], [bx b2 #[.i6 y2.2.Code, .i6 y2.2.Index] 25], [bx b1 #[.i6 y1.2.Code, .i6 y1.2.Index] 25]] fr w ∧ RepSl gz y5.1 v4 := ⟨_, Le.add _ _, S.freeze 4 rfl, OwnS.freeze (S.front 4 rfl) (h5.mono ((((((l7.trans l8).trans l9).trans l10).trans l11).trans l12).trans l13))⟩
    obtain ⟨g17, l17, S, h12⟩ : ∃ gz, Le g16 gz ∧ St gz [[bx b6 #[.i6 y7.2.Code, .i6 y7.2.Index] 25], [bx b5 #[.i6 y6.2.Code, .i6 y6.2.Index] 25], [bx b4 #[.i6 y5.2.Code, .i6 y5.2.Index] 25], [bx b3 #[.i6 y4.2.Code, .i6 y4.2.Index] 25], [bx b2 #[.i6 y2.2.Code, .i6 y2.2.Index] 25], [bx b1 #[.i6 y1.2.Code, .i6 y1.2.Index] 25]] fr w ∧ RepSl gz y7.1 v6 := ⟨_, Le.add _ _, S.freeze 1 rfl, OwnS.freeze (S.front 1 rfl) (h8.mono ((((l10.trans l11).trans l12).trans l13).trans l16))⟩
    obtain ⟨y11, hy11, hm⟩ := bind_some hm
    refine wl_call0 (wn rfl) rfl F rfl (changeforgeequal_Ops_ok (fr := (fl [[bx b6 #[.i6 y7.2.Code, .i6 y7.2.Index] 25], [bx b5 #[.i6 y6.2.Code, .i6 y6.2.Index] 25], [bx b4 #[.i6 y5.2.Code, .i6 y5.2.Index] 25], [bx b3 #[.i6 y4.2.Code, .i6 y4.2.Index] 25], [bx b2 #[.i6 y2.2.Code, .i6 y2.2.Index] 25], [bx b1 #[.i6 y1.2.Code, .i6 y1.2.Index] 25]] fr)) y5.1 v4 (h11.mono l17) y7.1 v6 h12 S hy11) rfl tc21 rfl rfl ?_; clear F a S
    rintro _ a w ⟨g18, l18, S, rfl⟩ F; replace S : St g18 [[bx b6 #[.i6 y7.2.Code, .i6 y7.2.Index] 25], [bx b5 #[.i6 y6.2.Code, .i6 y6.2.Index] 25], [bx b4 #[.i6 y5.2.Code, .i6 y5.2.Index] 25], [bx b3 #[.i6 y4.2.Code, .i6 y4.2.Index] 25], [bx b2 #[.i6 y2.2.Code, .i6 y2.2.Index] 25], [bx b1 #[.i6 y1.2.Code, .i6 y1.2.Index] 25]] fr w := S
    refine wE (ev_move rfl) F S rfl fun a F=>?_
    obtain ⟨x6, hx6, hm⟩ := bind_some hm
    refine wl_cut 2 (fun a w => ∃ g19, Fr 99 a [(98, .bool x6)] ∧ Le g18 g19 ∧ St g19 [[bx b6 #[.i6 y7.2.Code, .i6 y7.2.Index] 25], [bx b5 #[.i6 y6.2.Code, .i6 y6.2.Index] 25], [bx b4 #[.i6 y5.2.Code, .i6 y5.2.Index] 25], [bx b3 #[.i6 y4.2.Code, .i6 y4.2.Index] 25], [bx b2 #[.i6 y2.2.Code, .i6 y2.2.Index] 25], [bx b1 #[.i6 y1.2.Code, .i6 y1.2.Index] 25]] fr w) ?_ ?_
    ·clear hm; obtain ⟨hc9, hm⟩ | ⟨hc9, hm⟩ := ite_or hx6
     ·obtain ⟨y12, hy12, hm⟩ := bind_some hm
      refine wl_call0 (wg F rfl rfl rfl rfl hc9) rfl F rfl (changeforgelaw2_latest_ok (fr := (fl [[bx b6 #[.i6 y7.2.Code, .i6 y7.2.Index] 25], [bx b5 #[.i6 y6.2.Code, .i6 y6.2.Index] 25], [bx b4 #[.i6 y5.2.Code, .i6 y5.2.Index] 25], [bx b3 #[.i6 y4.2.Code, .i6 y4.2.Index] 25], [bx b2 #[.i6 y2.2.Code, .i6 y2.2.Index] 25], [bx b1 #[.i6 y1.2.Code, .i6 y1.2.Index] 25]] fr))  S hy12) rfl tc11 rfl rfl ?_; clear F a S
      rintro _ a w ⟨g20, l20, S, rfl⟩ F; replace S : St g20 [[bx b6 #[.i6 y7.2.Code, .i6 y7.2.Index] 25], [bx b5 #[.i6 y6.2.Code, .i6 y6.2.Index] 25], [bx b4 #[.i6 y5.2.Code, .i6 y5.2.Index] 25], [bx b3 #[.i6 y4.2.Code, .i6 y4.2.Index] 25], [bx b2 #[.i6 y2.2.Code, .i6 y2.2.Index] 25], [bx b1 #[.i6 y1.2.Code, .i6 y1.2.Index] 25]] fr w := S
      refine wE (ev_pickT rfl hc9 rfl) F S rfl fun a F=>?_
      obtain rfl := sinj hm
      refine wpList_nil (then_n ?_); exact ⟨g20, F.sub ⟨rfl, trivial⟩, l20, S⟩
     ·refine wl_skip rfl rfl rfl rfl (ne_tf hc9) F rfl rfl ?_; clear F a; intro a F
      refine wE (ev_pickF rfl hc9 rfl) F S rfl fun a F=>?_
      obtain rfl := sinj hm
      refine wpList_nil (then_n ?_); exact ⟨g18, F.sub ⟨rfl, trivial⟩, (Le.refl _), S⟩
    clear F S; rintro a w ⟨g19, F, l19, S⟩
    refine wE (ev_assign rfl) F S rfl fun a F=>?_
    refine wpList_nil ?_
    refine then_n ?_
    refine wp_ret ?_
    obtain rfl := sinj hm
    refine post_r _ F rfl (ar_cons (resT rfl) ar_nil) ?_
    replace S : St g19 [] fr w := St.tail [] _ S
    exact ⟨_, rfl, g19, (((((((((((((((l1.trans l2).trans l4).trans l5).trans l6).trans l7).trans l8).trans l9).trans l10).trans l11).trans l12).trans l13).trans l16).trans l17).trans l18).trans l19), S, rfl⟩
end Go.Dc
