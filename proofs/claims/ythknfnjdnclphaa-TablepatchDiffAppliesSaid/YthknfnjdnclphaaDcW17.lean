/- Walks: each function comes to what its model says. -/
import Derived.Test.YthknfnjdnclphaaDcTab
import Derived.Test.YthknfnjdnclphaaDcM
import Derived.Test.YthknfnjdnclphaaDcW12
import Derived.Test.YthknfnjdnclphaaDcW14
import Derived.Test.YthknfnjdnclphaaDcW5
namespace Go.Dc
open Go Go.Proofs
set_option maxRecDepth 100000
set_option maxHeartbeats 4000000
set_option linter.unusedVariables false
theorem changeforgelaw2_TablepatchDiffApplies_ok {g : Gh} {fr : Hl} {w : World} {r : Bool} (a_ : Table) (va_1 : Value) (ha_1 : RepSl g a_.Columns va_1) (va_2 : Value) (ha_2 : RepSl g a_.Rows va_2) (b_ : Table) (vb_1 : Value) (hb_1 : RepSl g b_.Columns vb_1) (vb_2 : Value) (hb_2 : RepSl g b_.Rows vb_2) (S : St g [] fr w) (hm : changeforgelaw2_TablepatchDiffApplies a_ b_ = some r) :
  Calls Try.prog 9 [.agg #[va_1, va_2], .agg #[vb_1, vb_2]].toArray w (fun en w' => ∃ v, en = .returned v ∧ ∃ (g' : Gh), Le g g' ∧ St g' [] fr w' ∧ .bool r = v) := by
 unfold changeforgelaw2_TablepatchDiffApplies at hm
 refine calls_enter (fn := Try.f9) Try.func9 rfl Try.ntmps9 (lb rfl) ?_
 intro a F
 replace F : Fr 50 a [(0, .agg #[va_1, va_2]), (1, .agg #[vb_1, vb_2])] := F
 refine wp_seq ?_
 refine wp_region_lit ?_
 refine wl_boxC (wn rfl) rfl rfl rfl F S rfl rfl ?_; clear F a S; rintro b1 a w F S
 refine wl_boxC (wn rfl) rfl rfl rfl F S rfl rfl ?_; clear F a S; rintro b2 a w F S
 refine wE (ev_assign rfl) F S rfl fun a F=>?_
 refine wpList_nil ?_
 refine then_n ?_
 refine wp_seq ?_
 refine wp_region_lit ?_
 refine wE (ev_loadA tu25 rfl (cs := [va_1, va_2]) ts25 rfl (box_ptr (cells := [va_1, va_2]) 1 rfl 0 rfl (lb rfl))) F S rfl fun a F=>?_
 refine wE (ev_loadA tu25 rfl (cs := [vb_1, vb_2]) ts25 rfl (box_ptr (cells := [vb_1, vb_2]) 0 rfl 0 rfl (lb rfl))) F S rfl fun a F=>?_
 obtain ⟨y1, hy1, hm⟩ := bind_some hm
 refine wl_call0 (wn rfl) rfl F rfl (tablepatch_Diff_ok (fr := (fl [[bx b2 #[vb_1, vb_2] 25], [bx b1 #[va_1, va_2] 25]] fr)) a_ va_1 ha_1 va_2 ha_2 b_ vb_1 hb_1 vb_2 hb_2 S hy1) rfl tc19 rfl rfl ?_; clear F a S
 rintro _ a w ⟨g1, v1, c1, l1, S, h1, rfl⟩ F; replace S : St g1 [c1, [bx b2 #[vb_1, vb_2] 25], [bx b1 #[va_1, va_2] 25]] fr w := S
 refine wE (ev_move rfl) F S rfl fun a F=>?_
 refine wE (ev_extract rfl rfl) F S rfl fun a F=>?_
 refine wE (ev_extract rfl rfl) F S rfl fun a F=>?_
 refine wl_alloc (wn rfl) rfl tz28 (cs := [.i6 0, .i6 0]) rfl F S rfl rfl ?_; clear F a S; rintro b3 a w F S
 refine wE (ev_assign rfl) F S rfl fun a F=>?_
 refine wl_storeC (wn rfl) rfl F S rfl rfl (vs := [.i6 y1.2.Code, .i6 y1.2.Index]) rfl ts28 (one_cons rfl (one_cons rfl one_nil)) (k := 0) rfl (lb rfl) (c' := #[.i6 y1.2.Code, .i6 y1.2.Index]) rfl rfl ?_; clear S; intro w S
 refine wpList_nil ?_
 refine then_n ?_
 refine wp_seq ?_
 refine wp_seq ?_
 refine wp_region_lit ?_
 refine wE (ev_fieldAddr' tu28 tf28_0 (z := 0) ts3 rfl ⟨_, rfl⟩ rfl) F S rfl fun a F=>?_
 refine wE (ev_load1 tu3 rfl rfl (box_ptr (cells := [.i6 y1.2.Code]) 0 rfl 0 rfl (lb rfl))) F S rfl fun a F=>?_
 refine wE (ev_int rfl rfl (bo_neq _ _ _ _)) F S rfl fun a F=>?_
 refine wpList_nil ?_
 refine then_n ?_
 obtain ⟨hc1, hm⟩ | ⟨hc1, hm⟩ := ite_or hm
 ·refine wp_condT F rfl hc1 ?_
  refine wp_seq ?_
  refine wp_region_lit ?_
  obtain ⟨y2, hy2, hm⟩ := bind_some hm
  refine wl_call0 (wn rfl) rfl F rfl (changeforgelaw2_both_ok (fr := (fl [[bx b3 #[.i6 y1.2.Code, .i6 y1.2.Index] 28], c1, [bx b2 #[vb_1, vb_2] 25], [bx b1 #[va_1, va_2] 25]] fr))  S hy2) rfl tc14 rfl rfl ?_; clear F a S
  rintro _ a w ⟨g2, l2, S, rfl⟩ F; replace S : St g2 [[bx b3 #[.i6 y1.2.Code, .i6 y1.2.Index] 28], c1, [bx b2 #[vb_1, vb_2] 25], [bx b1 #[va_1, va_2] 25]] fr w := S
  refine wE (ev_assign rfl) F S rfl fun a F=>?_
  refine wpList_nil ?_
  refine then_n ?_
  refine wp_ret ?_
  refine then_r ?_
  obtain rfl := sinj hm
  refine post_r _ F rfl (ar_cons (resT rfl) ar_nil) ?_
  replace S : St g2 [] fr w := St.tail [] _ S
  exact ⟨_, rfl, g2, (l1.trans l2), S, rfl⟩
 ·refine wp_condF F rfl hc1 ?_
  refine wp_skip ?_
  refine then_n ?_
  refine wp_seq ?_
  refine wp_region_lit ?_
  refine wE (ev_move rfl) F S rfl fun a F=>?_
  refine wE (ev_loadA tu25 rfl (cs := [va_1, va_2]) ts25 rfl (box_ptr (cells := [va_1, va_2]) 3 rfl 0 rfl (lb rfl))) F S rfl fun a F=>?_
  obtain ⟨g3, l3, S, h2⟩ : ∃ gz, Le g1 gz ∧ St gz [[bx b3 #[.i6 y1.2.Code, .i6 y1.2.Index] 28], [bx b2 #[vb_1, vb_2] 25], [bx b1 #[va_1, va_2] 25]] fr w ∧ RepSl gz y1.1 v1 := ⟨_, Le.add _ _, S.freeze 1 rfl, OwnS.freeze (S.front 1 rfl) h1⟩
  obtain ⟨y3, hy3, hm⟩ := bind_some hm
  refine wl_call0 (wn rfl) rfl F rfl (tablepatch_Apply_ok (fr := (fl [[bx b3 #[.i6 y1.2.Code, .i6 y1.2.Index] 28], [bx b2 #[vb_1, vb_2] 25], [bx b1 #[va_1, va_2] 25]] fr)) y1.1 v1 h2 a_ va_1 (ha_1.mono (l1.trans l3)) va_2 (ha_2.mono (l1.trans l3)) S hy3) rfl tc17 rfl rfl ?_; clear F a S
  rintro _ a w ⟨g4, v2, v3, c2, l4, S, h3, h4, rfl⟩ F; replace S : St g4 [c2, [bx b3 #[.i6 y1.2.Code, .i6 y1.2.Index] 28], [bx b2 #[vb_1, vb_2] 25], [bx b1 #[va_1, va_2] 25]] fr w := S
  refine wE (ev_move rfl) F S rfl fun a F=>?_
  refine wE (ev_extract rfl rfl) F S rfl fun a F=>?_
  refine wE (ev_extract rfl rfl) F S rfl fun a F=>?_
  refine wl_alloc (wn rfl) rfl tz25 (cs := [nilS, nilS]) rfl F S rfl rfl ?_; clear F a S; rintro b4 a w F S
  refine wl_alloc (wn rfl) rfl tz28 (cs := [.i6 0, .i6 0]) rfl F S rfl rfl ?_; clear F a S; rintro b5 a w F S
  refine wl_storeC (wn rfl) rfl F S rfl rfl (vs := [v2, v3]) rfl ts25 (one_cons (OwnS.one h3) (one_cons h4.one one_nil)) (k := 1) rfl (lb rfl) (c' := #[v2, v3]) rfl rfl ?_; clear S; intro w S
  refine wl_storeC (wn rfl) rfl F S rfl rfl (vs := [.i6 y3.2.Code, .i6 y3.2.Index]) rfl ts28 (one_cons rfl (one_cons rfl one_nil)) (k := 0) rfl (lb rfl) (c' := #[.i6 y3.2.Code, .i6 y3.2.Index]) rfl rfl ?_; clear S; intro w S
  refine wpList_nil ?_
  refine then_n ?_
  refine wp_seq ?_
  refine wp_seq ?_
  refine wp_region_lit ?_
  refine wE (ev_fieldAddr' tu28 tf28_0 (z := 0) ts3 rfl ⟨_, rfl⟩ rfl) F S rfl fun a F=>?_
  refine wE (ev_load1 tu3 rfl rfl (box_ptr (cells := [.i6 y3.2.Code]) 0 rfl 0 rfl (lb rfl))) F S rfl fun a F=>?_
  refine wE (ev_int rfl rfl (bo_eql _ _ _ _)) F S rfl fun a F=>?_
  refine wpList_nil ?_
  refine then_n ?_
  obtain ⟨hc2, hm⟩ | ⟨hc2, hm⟩ := ite_or hm
  ·refine wp_condT F rfl hc2 ?_
   refine wp_seq ?_
   refine wp_region_lit ?_
   refine wE (ev_fieldAddr' tu25 tf25_1 (z := 0) ts23 rfl ⟨_, rfl⟩ rfl) F S rfl fun a F=>?_
   refine wE (ev_load1 tu23 rfl rfl (box_ptr (cells := [va_2]) 5 rfl 1 rfl (lb rfl))) F S rfl fun a F=>?_
   refine wE (ev_lenSh ha_2 rfl tu23) F S rfl fun a F=>?_
   refine wE (ev_fieldAddr' tu25 tf25_1 (z := 0) ts23 rfl ⟨_, rfl⟩ rfl) F S rfl fun a F=>?_
   refine wE (ev_load1 tu23 rfl rfl (box_ptr (cells := [vb_2]) 4 rfl 1 rfl (lb rfl))) F S rfl fun a F=>?_
   refine wE (ev_lenSh hb_2 rfl tu23) F S rfl fun a F=>?_
   obtain ⟨z1, hz1, hm⟩ := bind_some hm
   refine wE (ev_int rfl rfl (bo_add hz1)) F S rfl fun a F=>?_
   refine wE (ev_int rfl rfl (bo_gtr _ _ _ _)) F S rfl fun a F=>?_
   refine wE (ev_move rfl) F S rfl fun a F=>?_
   obtain ⟨x1, hx1, hm⟩ := bind_some hm
   refine wl_cut 2 (fun a w => ∃ g5, Fr 50 a [(38, .bool x1), (4, .bool false)] ∧ Le g4 g5 ∧ St g5 [[bx b5 #[.i6 y3.2.Code, .i6 y3.2.Index] 28], [bx b4 #[v2, v3] 25], c2, [bx b3 #[.i6 y1.2.Code, .i6 y1.2.Index] 28], [bx b2 #[vb_1, vb_2] 25], [bx b1 #[va_1, va_2] 25]] fr w) ?_ ?_
   ·clear hm; obtain ⟨hc3, hm⟩ | ⟨hc3, hm⟩ := ite_or hx1
    ·obtain ⟨y4, hy4, hm⟩ := bind_some hm
     refine wl_call0 (wg F rfl rfl rfl rfl hc3) rfl F rfl (changeforgelaw2_both_ok (fr := (fl [[bx b5 #[.i6 y3.2.Code, .i6 y3.2.Index] 28], [bx b4 #[v2, v3] 25], c2, [bx b3 #[.i6 y1.2.Code, .i6 y1.2.Index] 28], [bx b2 #[vb_1, vb_2] 25], [bx b1 #[va_1, va_2] 25]] fr))  S hy4) rfl tc14 rfl rfl ?_; clear F a S
     rintro _ a w ⟨g6, l6, S, rfl⟩ F; replace S : St g6 [[bx b5 #[.i6 y3.2.Code, .i6 y3.2.Index] 28], [bx b4 #[v2, v3] 25], c2, [bx b3 #[.i6 y1.2.Code, .i6 y1.2.Index] 28], [bx b2 #[vb_1, vb_2] 25], [bx b1 #[va_1, va_2] 25]] fr w := S
     refine wE (ev_pickT rfl hc3 rfl) F S rfl fun a F=>?_
     obtain rfl := sinj hm
     refine wpList_nil (then_n ?_); exact ⟨g6, F.sub ⟨rfl, rfl, trivial⟩, l6, S⟩
    ·refine wl_skip rfl rfl rfl rfl (ne_tf hc3) F rfl rfl ?_; clear F a; intro a F
     refine wE (ev_pickF rfl hc3 rfl) F S rfl fun a F=>?_
     obtain rfl := sinj hm
     refine wpList_nil (then_n ?_); exact ⟨g4, F.sub ⟨rfl, rfl, trivial⟩, (Le.refl _), S⟩
   clear F S; rintro a w ⟨g5, F, l5, S⟩
   refine wE (ev_assign rfl) F S rfl fun a F=>?_
   refine wpList_nil ?_
   refine then_n ?_
   refine wp_ret ?_
   refine then_r ?_
   obtain rfl := sinj hm
   refine post_r _ F rfl (ar_cons (resT rfl) ar_nil) ?_
   replace S : St g5 [] fr w := St.tail [] _ S
   exact ⟨_, rfl, g5, (((l1.trans l3).trans l4).trans l5), S, rfl⟩
  ·refine wp_condF F rfl hc2 ?_
   refine wp_skip ?_
   refine then_n ?_
   refine wp_seq ?_
   refine wp_region_lit ?_
   refine wE (ev_fieldAddr' tu28 tf28_0 (z := 0) ts3 rfl ⟨_, rfl⟩ rfl) F S rfl fun a F=>?_
   refine wE (ev_load1 tu3 rfl rfl (box_ptr (cells := [.i6 y3.2.Code]) 0 rfl 0 rfl (lb rfl))) F S rfl fun a F=>?_
   refine wE (ev_int rfl rfl (bo_eql _ _ _ _)) F S rfl fun a F=>?_
   refine wE (ev_move rfl) F S rfl fun a F=>?_
   obtain ⟨g7, l7, S, h5⟩ : ∃ gz, Le g4 gz ∧ St gz [[bx b5 #[.i6 y3.2.Code, .i6 y3.2.Index] 28], [bx b4 #[v2, v3] 25], [bx b3 #[.i6 y1.2.Code, .i6 y1.2.Index] 28], [bx b2 #[vb_1, vb_2] 25], [bx b1 #[va_1, va_2] 25]] fr w ∧ RepSl gz y3.1.Columns v2 := ⟨_, Le.add _ _, S.freeze 2 rfl, OwnS.freeze (S.front 2 rfl) h3⟩
   obtain ⟨x2, hx2, hm⟩ := bind_some hm
   refine wl_cut 4 (fun a w => ∃ g8, Fr 50 a [(46, .bool x2), (4, .bool false)] ∧ Le g7 g8 ∧ St g8 [[bx b5 #[.i6 y3.2.Code, .i6 y3.2.Index] 28], [bx b4 #[v2, v3] 25], [bx b3 #[.i6 y1.2.Code, .i6 y1.2.Index] 28], [bx b2 #[vb_1, vb_2] 25], [bx b1 #[va_1, va_2] 25]] fr w) ?_ ?_
   ·clear hm; obtain ⟨hc4, hm⟩ | ⟨hc4, hm⟩ := ite_or hx2
    ·refine wl_ev (wg F rfl rfl rfl rfl hc4) (ev_loadA tu25 rfl (cs := [v2, v3]) ts25 rfl (box_ptr (cells := [v2, v3]) 1 rfl 0 rfl (lb rfl))) F S rfl rfl ?_; clear F a; intro a F
     refine wl_ev (wg F rfl rfl rfl rfl hc4) (ev_loadA tu25 rfl (cs := [vb_1, vb_2]) ts25 rfl (box_ptr (cells := [vb_1, vb_2]) 3 rfl 0 rfl (lb rfl))) F S rfl rfl ?_; clear F a; intro a F
     obtain ⟨y5, hy5, hm⟩ := bind_some hm
     refine wl_call0 (wg F rfl rfl rfl rfl hc4) rfl F rfl (changeforgeequal_Table_ok (fr := (fl [[bx b5 #[.i6 y3.2.Code, .i6 y3.2.Index] 28], [bx b4 #[v2, v3] 25], [bx b3 #[.i6 y1.2.Code, .i6 y1.2.Index] 28], [bx b2 #[vb_1, vb_2] 25], [bx b1 #[va_1, va_2] 25]] fr)) y3.1 v2 h5 v3 (h4.mono l7) b_ vb_1 (hb_1.mono (((l1.trans l3).trans l4).trans l7)) vb_2 (hb_2.mono (((l1.trans l3).trans l4).trans l7)) S hy5) rfl tc12 rfl rfl ?_; clear F a S
     rintro _ a w ⟨g9, l9, S, rfl⟩ F; replace S : St g9 [[bx b5 #[.i6 y3.2.Code, .i6 y3.2.Index] 28], [bx b4 #[v2, v3] 25], [bx b3 #[.i6 y1.2.Code, .i6 y1.2.Index] 28], [bx b2 #[vb_1, vb_2] 25], [bx b1 #[va_1, va_2] 25]] fr w := S
     refine wE (ev_pickT rfl hc4 rfl) F S rfl fun a F=>?_
     obtain rfl := sinj hm
     refine wpList_nil (then_n ?_); exact ⟨g9, F.sub ⟨rfl, rfl, trivial⟩, l9, S⟩
    ·refine wl_skip rfl rfl rfl rfl (ne_tf hc4) F rfl rfl ?_; clear F a; intro a F
     refine wl_skip rfl rfl rfl rfl (ne_tf hc4) F rfl rfl ?_; clear F a; intro a F
     refine wl_skip rfl rfl rfl rfl (ne_tf hc4) F rfl rfl ?_; clear F a; intro a F
     refine wE (ev_pickF rfl hc4 rfl) F S rfl fun a F=>?_
     obtain rfl := sinj hm
     refine wpList_nil (then_n ?_); exact ⟨g7, F.sub ⟨rfl, rfl, trivial⟩, (Le.refl _), S⟩
   clear F S; rintro a w ⟨g8, F, l8, S⟩
   refine wE (ev_move rfl) F S rfl fun a F=>?_
   obtain ⟨x3, hx3, hm⟩ := bind_some hm
   refine wl_cut 2 (fun a w => ∃ g10, Fr 50 a [(49, .bool x3), (4, .bool false)] ∧ Le g8 g10 ∧ St g10 [[bx b5 #[.i6 y3.2.Code, .i6 y3.2.Index] 28], [bx b4 #[v2, v3] 25], [bx b3 #[.i6 y1.2.Code, .i6 y1.2.Index] 28], [bx b2 #[vb_1, vb_2] 25], [bx b1 #[va_1, va_2] 25]] fr w) ?_ ?_
   ·clear hm; obtain ⟨hc5, hm⟩ | ⟨hc5, hm⟩ := ite_or hx3
    ·obtain ⟨y6, hy6, hm⟩ := bind_some hm
     refine wl_call0 (wg F rfl rfl rfl rfl hc5) rfl F rfl (changeforgelaw2_both_ok (fr := (fl [[bx b5 #[.i6 y3.2.Code, .i6 y3.2.Index] 28], [bx b4 #[v2, v3] 25], [bx b3 #[.i6 y1.2.Code, .i6 y1.2.Index] 28], [bx b2 #[vb_1, vb_2] 25], [bx b1 #[va_1, va_2] 25]] fr))  S hy6) rfl tc14 rfl rfl ?_; clear F a S
     rintro _ a w ⟨g11, l11, S, rfl⟩ F; replace S : St g11 [[bx b5 #[.i6 y3.2.Code, .i6 y3.2.Index] 28], [bx b4 #[v2, v3] 25], [bx b3 #[.i6 y1.2.Code, .i6 y1.2.Index] 28], [bx b2 #[vb_1, vb_2] 25], [bx b1 #[va_1, va_2] 25]] fr w := S
     refine wE (ev_pickT rfl hc5 rfl) F S rfl fun a F=>?_
     obtain rfl := sinj hm
     refine wpList_nil (then_n ?_); exact ⟨g11, F.sub ⟨rfl, rfl, trivial⟩, l11, S⟩
    ·refine wl_skip rfl rfl rfl rfl (ne_tf hc5) F rfl rfl ?_; clear F a; intro a F
     refine wE (ev_pickF rfl hc5 rfl) F S rfl fun a F=>?_
     obtain rfl := sinj hm
     refine wpList_nil (then_n ?_); exact ⟨g8, F.sub ⟨rfl, rfl, trivial⟩, (Le.refl _), S⟩
   clear F S; rintro a w ⟨g10, F, l10, S⟩
   refine wE (ev_assign rfl) F S rfl fun a F=>?_
   refine wpList_nil ?_
   refine then_n ?_
   refine wp_ret ?_
   obtain rfl := sinj hm
   refine post_r _ F rfl (ar_cons (resT rfl) ar_nil) ?_
   replace S : St g10 [] fr w := St.tail [] _ S
   exact ⟨_, rfl, g10, (((((l1.trans l3).trans l4).trans l7).trans l8).trans l10), S, rfl⟩
end Go.Dc
