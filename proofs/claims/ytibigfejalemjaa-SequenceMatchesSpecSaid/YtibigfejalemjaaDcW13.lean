/- Walks: each function comes to what its model says. -/
import Derived.Test.YtibigfejalemjaaDcTab
import Derived.Test.YtibigfejalemjaaDcM
import Derived.Test.YtibigfejalemjaaDcW1
import Derived.Test.YtibigfejalemjaaDcW10
import Derived.Test.YtibigfejalemjaaDcW11
import Derived.Test.YtibigfejalemjaaDcW12
import Derived.Test.YtibigfejalemjaaDcW3
namespace Go.Dc
open Go Go.Proofs
set_option maxRecDepth 100000
set_option maxHeartbeats 4000000
set_option linter.unusedVariables false
theorem changeforgelaw2_SequenceMatchesSpec_ok {g : Gh} {fr : Hl} {w : World} {r : Bool} (a_ : (List SeqOp)) (va_1 : Value) (ha_1 : RepSl g a_ va_1) (b_ : (List SeqOp)) (vb_1 : Value) (hb_1 : RepSl g b_ vb_1) (S : St g [] fr w) (hm : changeforgelaw2_SequenceMatchesSpec a_ b_ = some r) :
  Calls Try.prog 7 [va_1, vb_1].toArray w (fun en w' => ∃ v, en = .returned v ∧ ∃ (g' : Gh), Le g g' ∧ St g' [] fr w' ∧ .bool r = v) := by
 unfold changeforgelaw2_SequenceMatchesSpec at hm
 refine calls_enter (fn := Try.f7) Try.func7 rfl Try.ntmps7 (lb rfl) ?_
 intro a F
 replace F : Fr 67 a [(0, va_1), (1, vb_1)] := F
 refine wp_seq ?_
 refine wp_region_lit ?_
 refine wE (ev_assign rfl) F S rfl fun a F=>?_
 refine wpList_nil ?_
 refine then_n ?_
 refine wp_seq ?_
 refine wp_region_lit ?_
 refine wE (ev_move rfl) F S rfl fun a F=>?_
 obtain ⟨y1, hy1, hm⟩ := bind_some hm
 refine wl_call0 (wn rfl) rfl F rfl (sequence_Visible_ok a_ va_1 ha_1 S hy1) rfl tc9 rfl rfl ?_; clear F a S
 rintro _ a w ⟨g1, v1, c1, l1, S, h1, rfl⟩ F; replace S : St g1 [c1] fr w := S
 refine wE (ev_move rfl) F S rfl fun a F=>?_
 refine wE (ev_extract rfl rfl) F S rfl fun a F=>?_
 refine wE (ev_extract rfl rfl) F S rfl fun a F=>?_
 refine wl_alloc (wn rfl) rfl tz25 (cs := [.i6 0, .i6 0]) rfl F S rfl rfl ?_; clear F a S; rintro b1 a w F S
 refine wE (ev_assign rfl) F S rfl fun a F=>?_
 refine wl_storeC (wn rfl) rfl F S rfl rfl (vs := [.i6 y1.2.Code, .i6 y1.2.Index]) rfl ts25 (one_cons rfl (one_cons rfl one_nil)) (k := 0) rfl (lb rfl) (c' := #[.i6 y1.2.Code, .i6 y1.2.Index]) rfl rfl ?_; clear S; intro w S
 refine wpList_nil ?_
 refine then_n ?_
 refine wp_seq ?_
 refine wp_region_lit ?_
 refine wE (ev_move rfl) F S rfl fun a F=>?_
 refine wE (ev_move rfl) F S rfl fun a F=>?_
 obtain ⟨y2, hy2, hm⟩ := bind_some hm
 refine wl_call0 (wn rfl) rfl F rfl (sequence_Merge_ok (fr := (fl [[bx b1 #[.i6 y1.2.Code, .i6 y1.2.Index] 25], c1] fr)) a_ va_1 (ha_1.mono l1) b_ vb_1 (hb_1.mono l1) S hy2) rfl tc17 rfl rfl ?_; clear F a S
 rintro _ a w ⟨g2, v2, c2, l2, S, h2, rfl⟩ F; replace S : St g2 [c2, [bx b1 #[.i6 y1.2.Code, .i6 y1.2.Index] 25], c1] fr w := S
 refine wE (ev_move rfl) F S rfl fun a F=>?_
 refine wE (ev_extract rfl rfl) F S rfl fun a F=>?_
 refine wE (ev_extract rfl rfl) F S rfl fun a F=>?_
 refine wl_alloc (wn rfl) rfl tz25 (cs := [.i6 0, .i6 0]) rfl F S rfl rfl ?_; clear F a S; rintro b2 a w F S
 refine wE (ev_assign rfl) F S rfl fun a F=>?_
 refine wl_storeC (wn rfl) rfl F S rfl rfl (vs := [.i6 y2.2.Code, .i6 y2.2.Index]) rfl ts25 (one_cons rfl (one_cons rfl one_nil)) (k := 0) rfl (lb rfl) (c' := #[.i6 y2.2.Code, .i6 y2.2.Index]) rfl rfl ?_; clear S; intro w S
 refine wpList_nil ?_
 refine then_n ?_
 refine wp_seq ?_
 refine wp_region_lit ?_
 refine wE (ev_move rfl) F S rfl fun a F=>?_
 refine wE (ev_move rfl) F S rfl fun a F=>?_
 obtain ⟨y3, hy3, hm⟩ := bind_some hm
 refine wl_call0 (wn rfl) rfl F rfl (changeforgeref2_Union_ok (fr := (fl [[bx b2 #[.i6 y2.2.Code, .i6 y2.2.Index] 25], c2, [bx b1 #[.i6 y1.2.Code, .i6 y1.2.Index] 25], c1] fr)) a_ va_1 (ha_1.mono (l1.trans l2)) b_ vb_1 (hb_1.mono (l1.trans l2)) S hy3) rfl tc18 rfl rfl ?_; clear F a S
 rintro _ a w ⟨g3, v3, c3, l3, S, h3, rfl⟩ F; replace S : St g3 [c3, [bx b2 #[.i6 y2.2.Code, .i6 y2.2.Index] 25], c2, [bx b1 #[.i6 y1.2.Code, .i6 y1.2.Index] 25], c1] fr w := S
 refine wE (ev_move rfl) F S rfl fun a F=>?_
 refine wE (ev_extract rfl rfl) F S rfl fun a F=>?_
 refine wE (ev_extract rfl rfl) F S rfl fun a F=>?_
 refine wl_alloc (wn rfl) rfl tz25 (cs := [.i6 0, .i6 0]) rfl F S rfl rfl ?_; clear F a S; rintro b3 a w F S
 refine wE (ev_assign rfl) F S rfl fun a F=>?_
 refine wl_storeC (wn rfl) rfl F S rfl rfl (vs := [.i6 y3.2.Code, .i6 y3.2.Index]) rfl ts25 (one_cons rfl (one_cons rfl one_nil)) (k := 0) rfl (lb rfl) (c' := #[.i6 y3.2.Code, .i6 y3.2.Index]) rfl rfl ?_; clear S; intro w S
 refine wpList_nil ?_
 refine then_n ?_
 refine wp_seq ?_
 refine wp_region_lit ?_
 refine wE (ev_move rfl) F S rfl fun a F=>?_
 obtain ⟨y4, hy4, hm⟩ := bind_some hm
 refine wl_call0 (wn rfl) rfl F rfl (changeforgeref2_SequenceFault_ok (fr := (fl [[bx b3 #[.i6 y3.2.Code, .i6 y3.2.Index] 25], c3, [bx b2 #[.i6 y2.2.Code, .i6 y2.2.Index] 25], c2, [bx b1 #[.i6 y1.2.Code, .i6 y1.2.Index] 25], c1] fr)) a_ va_1 (ha_1.mono ((l1.trans l2).trans l3)) S hy4) rfl tc19 rfl rfl ?_; clear F a S
 rintro _ a w ⟨g4, l4, S, rfl⟩ F; replace S : St g4 [[bx b3 #[.i6 y3.2.Code, .i6 y3.2.Index] 25], c3, [bx b2 #[.i6 y2.2.Code, .i6 y2.2.Index] 25], c2, [bx b1 #[.i6 y1.2.Code, .i6 y1.2.Index] 25], c1] fr w := S
 refine wl_alloc (wn rfl) rfl tz25 (cs := [.i6 0, .i6 0]) rfl F S rfl rfl ?_; clear F a S; rintro b4 a w F S
 refine wl_storeC (wn rfl) rfl F S rfl rfl (vs := [.i6 y4.Code, .i6 y4.Index]) rfl ts25 (one_cons rfl (one_cons rfl one_nil)) (k := 0) rfl (lb rfl) (c' := #[.i6 y4.Code, .i6 y4.Index]) rfl rfl ?_; clear S; intro w S
 refine wpList_nil ?_
 refine then_n ?_
 refine wp_seq ?_
 refine wp_seq ?_
 obtain ⟨g5, l5, S, h4⟩ : ∃ gz, Le g4 gz ∧ St gz [[bx b4 #[.i6 y4.Code, .i6 y4.Index] 25], [bx b3 #[.i6 y3.2.Code, .i6 y3.2.Index] 25], c3, [bx b2 #[.i6 y2.2.Code, .i6 y2.2.Index] 25], [bx b1 #[.i6 y1.2.Code, .i6 y1.2.Index] 25], c1] fr w ∧ RepSl gz y2.1 v2 := ⟨_, Le.add _ _, S.freeze 4 rfl, OwnS.freeze (S.front 4 rfl) (h2.mono (l3.trans l4))⟩
 obtain ⟨g6, l6, S, h5⟩ : ∃ gz, Le g5 gz ∧ St gz [[bx b4 #[.i6 y4.Code, .i6 y4.Index] 25], [bx b3 #[.i6 y3.2.Code, .i6 y3.2.Index] 25], [bx b2 #[.i6 y2.2.Code, .i6 y2.2.Index] 25], [bx b1 #[.i6 y1.2.Code, .i6 y1.2.Index] 25], c1] fr w ∧ RepSl gz y3.1 v3 := ⟨_, Le.add _ _, S.freeze 2 rfl, OwnS.freeze (S.front 2 rfl) (h3.mono (l4.trans l5))⟩
 refine wp_quiet mo (by kernel_rfl) S ?_
 refine wq_ev (wn rfl) (ev_move rfl) F rfl rfl ?_; clear F a; intro a F
 obtain ⟨y5, hy5, hm⟩ := bind_some hm
 refine wq_call (wn rfl) rfl (xs := [.tmp 31]) (vs := [va_1]) (cap := []) F rfl rfl tc20 (v := .agg #[.i6 y5.Code, .i6 y5.Index]) (fun w S => (sequence_Validate_ok (g := g6) (fr := (fl [[bx b4 #[.i6 y4.Code, .i6 y4.Index] 25], [bx b3 #[.i6 y3.2.Code, .i6 y3.2.Index] 25], [bx b2 #[.i6 y2.2.Code, .i6 y2.2.Index] 25], [bx b1 #[.i6 y1.2.Code, .i6 y1.2.Index] 25], c1] fr)) (w := w) a_ va_1 (ha_1.mono (((((l1.trans l2).trans l3).trans l4).trans l5).trans l6)) S hy5).mono (by rintro en w' ⟨_, rfl, g2, l2, S2, rfl⟩; exact ⟨rfl, S2.weak l2⟩)) rfl rfl ?_; clear F a; intro a F
 refine wq_ev (wn rfl) (ev_loadA tu25 rfl (cs := [.i6 y4.Code, .i6 y4.Index]) ts25 rfl (box_ptr (cells := [.i6 y4.Code, .i6 y4.Index]) 0 rfl 0 rfl (lb rfl))) F rfl rfl ?_; clear F a; intro a F
 refine wq_ev (wn rfl) (ev_neS tu25 tqa25 tqb25 tqc25 (xs := [.i6 y5.Code, .i6 y5.Index]) (ys := [.i6 y4.Code, .i6 y4.Index]) rfl rfl ⟨_, _, rfl, by decide, ⟨_, _, rfl, rfl, leaf_int tu3⟩, ⟨_, _, rfl, by decide, ⟨_, _, rfl, rfl, leaf_int tu3⟩, rfl⟩⟩) F rfl rfl ?_; clear F a; intro a F
 refine wq_ev (wn rfl) (ev_move rfl) F rfl rfl ?_; clear F a; intro a F
 obtain ⟨x1, hx1, hm⟩ := bind_some hm
 refine wq_cut 4 (fun a => Fr 67 a [(39, .bool x1), (11, bp b4 0), (9, v3), (10, bp b3 0), (7, v2), (8, bp b2 0), (5, v1), (0, va_1)]) ?_ ?_
 ·clear hm; obtain ⟨hc1, hm⟩ | ⟨hc1, hm⟩ := ite_or hx1
  ·refine wq_skip rfl rfl rfl rfl (ne_ft hc1) F rfl rfl ?_; clear F a; intro a F
   refine wq_skip rfl rfl rfl rfl (ne_ft hc1) F rfl rfl ?_; clear F a; intro a F
   refine wq_skip rfl rfl rfl rfl (ne_ft hc1) F rfl rfl ?_; clear F a; intro a F
   refine wq_ev (wn rfl) (ev_pickT rfl hc1 rfl) F rfl rfl ?_; clear F a; intro a F
   obtain rfl := sinj hm
   refine wq_nil ?_; exact F.sub ⟨rfl, rfl, rfl, rfl, rfl, rfl, rfl, rfl, trivial⟩
  ·refine wq_ev (wg F rfl rfl rfl rfl hc1) (ev_loadA tu25 rfl (cs := [.i6 y1.2.Code, .i6 y1.2.Index]) ts25 rfl (box_ptr (cells := [.i6 y1.2.Code, .i6 y1.2.Index]) 3 rfl 0 rfl (lb rfl))) F rfl rfl ?_; clear F a; intro a F
   refine wq_ev (wg F rfl rfl rfl rfl hc1) (ev_loadA tu25 rfl (cs := [.i6 y4.Code, .i6 y4.Index]) ts25 rfl (box_ptr (cells := [.i6 y4.Code, .i6 y4.Index]) 0 rfl 0 rfl (lb rfl))) F rfl rfl ?_; clear F a; intro a F
   refine wq_ev (wg F rfl rfl rfl rfl hc1) (ev_neS tu25 tqa25 tqb25 tqc25 (xs := [.i6 y1.2.Code, .i6 y1.2.Index]) (ys := [.i6 y4.Code, .i6 y4.Index]) rfl rfl ⟨_, _, rfl, by decide, ⟨_, _, rfl, rfl, leaf_int tu3⟩, ⟨_, _, rfl, by decide, ⟨_, _, rfl, rfl, leaf_int tu3⟩, rfl⟩⟩) F rfl rfl ?_; clear F a; intro a F
   refine wq_ev (wn rfl) (ev_pickF rfl hc1 rfl) F rfl rfl ?_; clear F a; intro a F
   obtain rfl := sinj hm
   refine wq_nil ?_; exact F.sub ⟨rfl, rfl, rfl, rfl, rfl, rfl, rfl, rfl, trivial⟩
 clear F; intro a F
 refine wq_ev (wn rfl) (ev_move rfl) F rfl rfl ?_; clear F a; intro a F
 obtain ⟨x2, hx2, hm⟩ := bind_some hm
 refine wq_cut 5 (fun a => Fr 67 a [(45, .bool x2), (11, bp b4 0), (10, bp b3 0), (8, bp b2 0), (5, v1), (0, va_1)]) ?_ ?_
 ·clear hm; obtain ⟨hc2, hm⟩ | ⟨hc2, hm⟩ := ite_or hx2
  ·refine wq_skip rfl rfl rfl rfl (ne_ft hc2) F rfl rfl ?_; clear F a; intro a F
   refine wq_skip rfl rfl rfl rfl (ne_ft hc2) F rfl rfl ?_; clear F a; intro a F
   refine wq_skip rfl rfl rfl rfl (ne_ft hc2) F rfl rfl ?_; clear F a; intro a F
   refine wq_skip rfl rfl rfl rfl (ne_ft hc2) F rfl rfl ?_; clear F a; intro a F
   refine wq_ev (wn rfl) (ev_pickT rfl hc2 rfl) F rfl rfl ?_; clear F a; intro a F
   obtain rfl := sinj hm
   refine wq_nil ?_; exact F.sub ⟨rfl, rfl, rfl, rfl, rfl, rfl, trivial⟩
  ·refine wq_ev (wg F rfl rfl rfl rfl hc2) (ev_move rfl) F rfl rfl ?_; clear F a; intro a F
   refine wq_ev (wg F rfl rfl rfl rfl hc2) (ev_move rfl) F rfl rfl ?_; clear F a; intro a F
   obtain ⟨y6, hy6, hm⟩ := bind_some hm
   refine wq_call (wg F rfl rfl rfl rfl hc2) rfl (xs := [.tmp 41, .tmp 42]) (vs := [v2, v3]) (cap := []) F rfl rfl tc21 (v := .bool y6) (fun w S => (changeforgeequal_Ops_ok (g := g6) (fr := (fl [[bx b4 #[.i6 y4.Code, .i6 y4.Index] 25], [bx b3 #[.i6 y3.2.Code, .i6 y3.2.Index] 25], [bx b2 #[.i6 y2.2.Code, .i6 y2.2.Index] 25], [bx b1 #[.i6 y1.2.Code, .i6 y1.2.Index] 25], c1] fr)) (w := w) y2.1 v2 (h4.mono l6) y3.1 v3 h5 S hy6).mono (by rintro en w' ⟨_, rfl, g2, l2, S2, rfl⟩; exact ⟨rfl, S2.weak l2⟩)) rfl rfl ?_; clear F a; intro a F
   refine wq_ev (wg F rfl rfl rfl rfl hc2) (ev_not rfl) F rfl rfl ?_; clear F a; intro a F
   refine wq_ev (wn rfl) (ev_pickF rfl hc2 rfl) F rfl rfl ?_; clear F a; intro a F
   obtain rfl := sinj hm
   refine wq_nil ?_; exact F.sub ⟨rfl, rfl, rfl, rfl, rfl, rfl, trivial⟩
 clear F; intro a F
 refine wq_ev (wn rfl) (ev_move rfl) F rfl rfl ?_; clear F a; intro a F
 obtain ⟨x3, hx3, hm⟩ := bind_some hm
 refine wq_cut 4 (fun a => Fr 67 a [(50, .bool x3), (11, bp b4 0), (5, v1), (0, va_1)]) ?_ ?_
 ·clear hm; obtain ⟨hc3, hm⟩ | ⟨hc3, hm⟩ := ite_or hx3
  ·refine wq_skip rfl rfl rfl rfl (ne_ft hc3) F rfl rfl ?_; clear F a; intro a F
   refine wq_skip rfl rfl rfl rfl (ne_ft hc3) F rfl rfl ?_; clear F a; intro a F
   refine wq_skip rfl rfl rfl rfl (ne_ft hc3) F rfl rfl ?_; clear F a; intro a F
   refine wq_ev (wn rfl) (ev_pickT rfl hc3 rfl) F rfl rfl ?_; clear F a; intro a F
   obtain rfl := sinj hm
   refine wq_nil ?_; exact F.sub ⟨rfl, rfl, rfl, rfl, trivial⟩
  ·refine wq_ev (wg F rfl rfl rfl rfl hc3) (ev_loadA tu25 rfl (cs := [.i6 y2.2.Code, .i6 y2.2.Index]) ts25 rfl (box_ptr (cells := [.i6 y2.2.Code, .i6 y2.2.Index]) 2 rfl 0 rfl (lb rfl))) F rfl rfl ?_; clear F a; intro a F
   refine wq_ev (wg F rfl rfl rfl rfl hc3) (ev_loadA tu25 rfl (cs := [.i6 y3.2.Code, .i6 y3.2.Index]) ts25 rfl (box_ptr (cells := [.i6 y3.2.Code, .i6 y3.2.Index]) 1 rfl 0 rfl (lb rfl))) F rfl rfl ?_; clear F a; intro a F
   refine wq_ev (wg F rfl rfl rfl rfl hc3) (ev_neS tu25 tqa25 tqb25 tqc25 (xs := [.i6 y2.2.Code, .i6 y2.2.Index]) (ys := [.i6 y3.2.Code, .i6 y3.2.Index]) rfl rfl ⟨_, _, rfl, by decide, ⟨_, _, rfl, rfl, leaf_int tu3⟩, ⟨_, _, rfl, by decide, ⟨_, _, rfl, rfl, leaf_int tu3⟩, rfl⟩⟩) F rfl rfl ?_; clear F a; intro a F
   refine wq_ev (wn rfl) (ev_pickF rfl hc3 rfl) F rfl rfl ?_; clear F a; intro a F
   obtain rfl := sinj hm
   refine wq_nil ?_; exact F.sub ⟨rfl, rfl, rfl, rfl, trivial⟩
 clear F; intro a F
 refine wq_nil ?_; clear S; intro w S
 refine then_n ?_
 obtain ⟨hc4, hm⟩ | ⟨hc4, hm⟩ := ite_or hm
 ·refine wp_condT F rfl hc4 ?_
  refine wp_seq ?_
  refine wp_region_lit ?_
  refine wE (ev_assign rfl) F S rfl fun a F=>?_
  refine wpList_nil ?_
  refine then_n ?_
  refine wp_ret ?_
  refine then_r ?_
  obtain rfl := sinj hm
  refine post_r _ F rfl (ar_cons (resT rfl) ar_nil) ?_
  replace S : St g6 [] fr w := St.tail [] _ S
  exact ⟨_, rfl, g6, (((((l1.trans l2).trans l3).trans l4).trans l5).trans l6), S, rfl⟩
 ·refine wp_condF F rfl hc4 ?_
  refine wp_skip ?_
  refine then_n ?_
  refine wp_seq ?_
  refine wp_seq ?_
  refine wp_region_lit ?_
  refine wE (ev_fieldAddr' tu25 tf25_0 (z := 0) ts3 rfl ⟨_, rfl⟩ rfl) F S rfl fun a F=>?_
  refine wE (ev_load1 tu3 rfl rfl (box_ptr (cells := [.i6 y4.Code]) 0 rfl 0 rfl (lb rfl))) F S rfl fun a F=>?_
  refine wE (ev_int rfl rfl (bo_neq _ _ _ _)) F S rfl fun a F=>?_
  refine wpList_nil ?_
  refine then_n ?_
  obtain ⟨hc5, hm⟩ | ⟨hc5, hm⟩ := ite_or hm
  ·refine wp_condT F rfl hc5 ?_
   refine wp_seq ?_
   refine wp_region_lit ?_
   refine wE (ev_move rfl) F S rfl fun a F=>?_
   refine wE (ev_lenOw h1 rfl tu23) F S rfl fun a F=>?_
   refine wE (ev_int rfl rfl (bo_eql _ _ _ _)) F S rfl fun a F=>?_
   refine wE (ev_move rfl) F S rfl fun a F=>?_
   obtain ⟨x4, hx4, hm⟩ := bind_some hm
   refine wl_cut 2 (fun a w => ∃ g9, Fr 67 a [(59, .bool x4)] ∧ Le g6 g9 ∧ St g9 [[bx b4 #[.i6 y4.Code, .i6 y4.Index] 25], [bx b3 #[.i6 y3.2.Code, .i6 y3.2.Index] 25], [bx b2 #[.i6 y2.2.Code, .i6 y2.2.Index] 25], [bx b1 #[.i6 y1.2.Code, .i6 y1.2.Index] 25], c1] fr w) ?_ ?_
   ·clear hm; obtain ⟨hc6, hm⟩ | ⟨hc6, hm⟩ := ite_or hx4
    ·obtain ⟨y7, hy7, hm⟩ := bind_some hm
     refine wl_call0 (wg F rfl rfl rfl rfl hc6) rfl F rfl (changeforgelaw2_latest_ok (fr := (fl [[bx b4 #[.i6 y4.Code, .i6 y4.Index] 25], [bx b3 #[.i6 y3.2.Code, .i6 y3.2.Index] 25], [bx b2 #[.i6 y2.2.Code, .i6 y2.2.Index] 25], [bx b1 #[.i6 y1.2.Code, .i6 y1.2.Index] 25], c1] fr))  S hy7) rfl tc11 rfl rfl ?_; clear F a S
     rintro _ a w ⟨g10, l10, S, rfl⟩ F; replace S : St g10 [[bx b4 #[.i6 y4.Code, .i6 y4.Index] 25], [bx b3 #[.i6 y3.2.Code, .i6 y3.2.Index] 25], [bx b2 #[.i6 y2.2.Code, .i6 y2.2.Index] 25], [bx b1 #[.i6 y1.2.Code, .i6 y1.2.Index] 25], c1] fr w := S
     refine wE (ev_pickT rfl hc6 rfl) F S rfl fun a F=>?_
     obtain rfl := sinj hm
     refine wpList_nil (then_n ?_); exact ⟨g10, F.sub ⟨rfl, trivial⟩, l10, S⟩
    ·refine wl_skip rfl rfl rfl rfl (ne_tf hc6) F rfl rfl ?_; clear F a; intro a F
     refine wE (ev_pickF rfl hc6 rfl) F S rfl fun a F=>?_
     obtain rfl := sinj hm
     refine wpList_nil (then_n ?_); exact ⟨g6, F.sub ⟨rfl, trivial⟩, (Le.refl _), S⟩
   clear F S; rintro a w ⟨g9, F, l9, S⟩
   refine wE (ev_assign rfl) F S rfl fun a F=>?_
   refine wpList_nil ?_
   refine then_n ?_
   refine wp_ret ?_
   refine then_r ?_
   obtain rfl := sinj hm
   refine post_r _ F rfl (ar_cons (resT rfl) ar_nil) ?_
   replace S : St g9 [] fr w := St.tail [] _ S
   exact ⟨_, rfl, g9, ((((((l1.trans l2).trans l3).trans l4).trans l5).trans l6).trans l9), S, rfl⟩
  ·refine wp_condF F rfl hc5 ?_
   refine wp_skip ?_
   refine then_n ?_
   refine wp_seq ?_
   refine wp_region_lit ?_
   refine wE (ev_move rfl) F S rfl fun a F=>?_
   refine wE (ev_move rfl) F S rfl fun a F=>?_
   obtain ⟨y8, hy8, hm⟩ := bind_some hm
   refine wl_call0 (wn rfl) rfl F rfl (changeforgeref2_Visible_ok (fr := (fl [[bx b4 #[.i6 y4.Code, .i6 y4.Index] 25], [bx b3 #[.i6 y3.2.Code, .i6 y3.2.Index] 25], [bx b2 #[.i6 y2.2.Code, .i6 y2.2.Index] 25], [bx b1 #[.i6 y1.2.Code, .i6 y1.2.Index] 25], c1] fr)) a_ va_1 (ha_1.mono (((((l1.trans l2).trans l3).trans l4).trans l5).trans l6)) S hy8) rfl tc22 rfl rfl ?_; clear F a S
   rintro _ a w ⟨g11, v4, c4, l11, S, h6, rfl⟩ F; replace S : St g11 [c4, [bx b4 #[.i6 y4.Code, .i6 y4.Index] 25], [bx b3 #[.i6 y3.2.Code, .i6 y3.2.Index] 25], [bx b2 #[.i6 y2.2.Code, .i6 y2.2.Index] 25], [bx b1 #[.i6 y1.2.Code, .i6 y1.2.Index] 25], c1] fr w := S
   obtain ⟨g12, l12, S, h7⟩ : ∃ gz, Le g11 gz ∧ St gz [c4, [bx b4 #[.i6 y4.Code, .i6 y4.Index] 25], [bx b3 #[.i6 y3.2.Code, .i6 y3.2.Index] 25], [bx b2 #[.i6 y2.2.Code, .i6 y2.2.Index] 25], [bx b1 #[.i6 y1.2.Code, .i6 y1.2.Index] 25]] fr w ∧ RepSl gz y1.1 v1 := ⟨_, Le.add _ _, S.freeze 5 rfl, OwnS.freeze (S.front 5 rfl) (h1.mono (((((l2.trans l3).trans l4).trans l5).trans l6).trans l11))⟩
   obtain ⟨g13, l13, S, h8⟩ : ∃ gz, Le g12 gz ∧ St gz [[bx b4 #[.i6 y4.Code, .i6 y4.Index] 25], [bx b3 #[.i6 y3.2.Code, .i6 y3.2.Index] 25], [bx b2 #[.i6 y2.2.Code, .i6 y2.2.Index] 25], [bx b1 #[.i6 y1.2.Code, .i6 y1.2.Index] 25]] fr w ∧ RepSl gz y8 v4 := ⟨_, Le.add _ _, S.freeze 0 rfl, OwnS.freeze (S.front 0 rfl) (h6.mono l12)⟩
   obtain ⟨y9, hy9, hm⟩ := bind_some hm
   refine wl_call0 (wn rfl) rfl F rfl (changeforgeequal_Strings_ok (fr := (fl [[bx b4 #[.i6 y4.Code, .i6 y4.Index] 25], [bx b3 #[.i6 y3.2.Code, .i6 y3.2.Index] 25], [bx b2 #[.i6 y2.2.Code, .i6 y2.2.Index] 25], [bx b1 #[.i6 y1.2.Code, .i6 y1.2.Index] 25]] fr)) y1.1 v1 (h7.mono l13) y8 v4 h8 S hy9) rfl tc12 rfl rfl ?_; clear F a S
   rintro _ a w ⟨g14, l14, S, rfl⟩ F; replace S : St g14 [[bx b4 #[.i6 y4.Code, .i6 y4.Index] 25], [bx b3 #[.i6 y3.2.Code, .i6 y3.2.Index] 25], [bx b2 #[.i6 y2.2.Code, .i6 y2.2.Index] 25], [bx b1 #[.i6 y1.2.Code, .i6 y1.2.Index] 25]] fr w := S
   refine wE (ev_move rfl) F S rfl fun a F=>?_
   obtain ⟨x5, hx5, hm⟩ := bind_some hm
   refine wl_cut 2 (fun a w => ∃ g15, Fr 67 a [(66, .bool x5)] ∧ Le g14 g15 ∧ St g15 [[bx b4 #[.i6 y4.Code, .i6 y4.Index] 25], [bx b3 #[.i6 y3.2.Code, .i6 y3.2.Index] 25], [bx b2 #[.i6 y2.2.Code, .i6 y2.2.Index] 25], [bx b1 #[.i6 y1.2.Code, .i6 y1.2.Index] 25]] fr w) ?_ ?_
   ·clear hm; obtain ⟨hc7, hm⟩ | ⟨hc7, hm⟩ := ite_or hx5
    ·obtain ⟨y10, hy10, hm⟩ := bind_some hm
     refine wl_call0 (wg F rfl rfl rfl rfl hc7) rfl F rfl (changeforgelaw2_latest_ok (fr := (fl [[bx b4 #[.i6 y4.Code, .i6 y4.Index] 25], [bx b3 #[.i6 y3.2.Code, .i6 y3.2.Index] 25], [bx b2 #[.i6 y2.2.Code, .i6 y2.2.Index] 25], [bx b1 #[.i6 y1.2.Code, .i6 y1.2.Index] 25]] fr))  S hy10) rfl tc11 rfl rfl ?_; clear F a S
     rintro _ a w ⟨g16, l16, S, rfl⟩ F; replace S : St g16 [[bx b4 #[.i6 y4.Code, .i6 y4.Index] 25], [bx b3 #[.i6 y3.2.Code, .i6 y3.2.Index] 25], [bx b2 #[.i6 y2.2.Code, .i6 y2.2.Index] 25], [bx b1 #[.i6 y1.2.Code, .i6 y1.2.Index] 25]] fr w := S
     refine wE (ev_pickT rfl hc7 rfl) F S rfl fun a F=>?_
     obtain rfl := sinj hm
     refine wpList_nil (then_n ?_); exact ⟨g16, F.sub ⟨rfl, trivial⟩, l16, S⟩
    ·refine wl_skip rfl rfl rfl rfl (ne_tf hc7) F rfl rfl ?_; clear F a; intro a F
     refine wE (ev_pickF rfl hc7 rfl) F S rfl fun a F=>?_
     obtain rfl := sinj hm
     refine wpList_nil (then_n ?_); exact ⟨g14, F.sub ⟨rfl, trivial⟩, (Le.refl _), S⟩
   clear F S; rintro a w ⟨g15, F, l15, S⟩
   refine wE (ev_assign rfl) F S rfl fun a F=>?_
   refine wpList_nil ?_
   refine then_n ?_
   refine wp_ret ?_
   obtain rfl := sinj hm
   refine post_r _ F rfl (ar_cons (resT rfl) ar_nil) ?_
   replace S : St g15 [] fr w := St.tail [] _ S
   exact ⟨_, rfl, g15, ((((((((((l1.trans l2).trans l3).trans l4).trans l5).trans l6).trans l11).trans l12).trans l13).trans l14).trans l15), S, rfl⟩
end Go.Dc
