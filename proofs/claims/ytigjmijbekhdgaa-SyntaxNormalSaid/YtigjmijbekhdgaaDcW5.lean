/- Walks: each function comes to what its model says. -/
import Derived.Test.YtigjmijbekhdgaaDcTab
import Derived.Test.YtigjmijbekhdgaaDcM
import Derived.Test.YtigjmijbekhdgaaDcW1
import Derived.Test.YtigjmijbekhdgaaDcW3
namespace Go.Dc
open Go Go.Proofs
set_option maxRecDepth 100000
set_option maxHeartbeats 4000000
set_option linter.unusedVariables false
theorem changeforgelaw2_SyntaxNormal_ok {g : Gh} {fr : Hl} {w : World} {r : Bool} (text : ByteArray) (S : St g [] fr w) (hm : changeforgelaw2_SyntaxNormal text = some r) :
  Calls Try.prog 5 [.string text].toArray w (fun en w' => ∃ v, en = .returned v ∧ ∃ (g' : Gh), Le g g' ∧ St g' [] fr w' ∧ .bool r = v) := by
 unfold changeforgelaw2_SyntaxNormal at hm
 refine calls_enter (fn := Try.f5) Try.func5 rfl Try.ntmps5 (lb rfl) ?_
 intro a F
 replace F : Fr 50 a [(0, .string text)] := F
 refine wp_seq ?_
 refine wp_region_lit ?_
 refine wE (ev_assign rfl) F S rfl fun a F=>?_
 refine wpList_nil ?_
 refine then_n ?_
 refine wp_seq ?_
 refine wp_region_lit ?_
 refine wE (ev_move rfl) F S rfl fun a F=>?_
 obtain ⟨y1, hy1, hm⟩ := bind_some hm
 refine wl_call0 (wn rfl) rfl F rfl (syntax_Parse_ok text S hy1) rfl tc10 rfl rfl ?_; clear F a S
 rintro _ a w ⟨g1, v1, c1, l1, S, h1, rfl⟩ F; replace S : St g1 [c1] fr w := S
 refine wE (ev_move rfl) F S rfl fun a F=>?_
 refine wE (ev_extract rfl rfl) F S rfl fun a F=>?_
 refine wE (ev_extract rfl rfl) F S rfl fun a F=>?_
 refine wl_alloc (wn rfl) rfl tz24 (cs := [nilS]) rfl F S rfl rfl ?_; clear F a S; rintro b1 a w F S
 refine wl_alloc (wn rfl) rfl tz26 (cs := [.i6 0, .i6 0]) rfl F S rfl rfl ?_; clear F a S; rintro b2 a w F S
 refine wl_storeC (wn rfl) rfl F S rfl rfl (vs := [v1]) rfl ts24 (one_cons (OwnS.one h1) one_nil) (k := 1) rfl (lb rfl) (c' := #[v1]) rfl rfl ?_; clear S; intro w S
 refine wl_storeC (wn rfl) rfl F S rfl rfl (vs := [.i6 y1.2.Code, .i6 y1.2.Index]) rfl ts26 (one_cons rfl (one_cons rfl one_nil)) (k := 0) rfl (lb rfl) (c' := #[.i6 y1.2.Code, .i6 y1.2.Index]) rfl rfl ?_; clear S; intro w S
 refine wpList_nil ?_
 refine then_n ?_
 refine wp_seq ?_
 refine wp_seq ?_
 refine wp_region_lit ?_
 refine wE (ev_fieldAddr' tu26 tf26_0 (z := 0) ts3 rfl ⟨_, rfl⟩ rfl) F S rfl fun a F=>?_
 refine wE (ev_load1 tu3 rfl rfl (box_ptr (cells := [.i6 y1.2.Code]) 0 rfl 0 rfl (lb rfl))) F S rfl fun a F=>?_
 refine wE (ev_int rfl rfl (bo_neq _ _ _ _)) F S rfl fun a F=>?_
 refine wpList_nil ?_
 refine then_n ?_
 obtain ⟨hc1, hm⟩ | ⟨hc1, hm⟩ := ite_or hm
 ·refine wp_condT F rfl hc1 ?_
  refine wp_seq ?_
  refine wp_region_lit ?_
  obtain ⟨y2, hy2, hm⟩ := bind_some hm
  refine wl_call0 (wn rfl) rfl F rfl (changeforgelaw2_parsed_ok (fr := (fl [[bx b2 #[.i6 y1.2.Code, .i6 y1.2.Index] 26], [bx b1 #[v1] 24], c1] fr))  S hy2) rfl tc16 rfl rfl ?_; clear F a S
  rintro _ a w ⟨g2, l2, S, rfl⟩ F; replace S : St g2 [[bx b2 #[.i6 y1.2.Code, .i6 y1.2.Index] 26], [bx b1 #[v1] 24], c1] fr w := S
  refine wE (ev_assign rfl) F S rfl fun a F=>?_
  refine wpList_nil ?_
  refine then_n ?_
  refine wp_ret ?_
  refine then_r ?_
  obtain rfl := sinj hm
  refine post_r _ F rfl (ar_cons (resT rfl) ar_nil) ?_
  replace S : St g2 [] fr w := St.tail [] _ S
  exact ⟨_, rfl, g2, (l1.trans l2), S, rfl⟩
 ·refine wp_condF F rfl hc1 ?_
  refine wp_skip ?_
  refine then_n ?_
  refine wp_seq ?_
  refine wp_region_lit ?_
  refine wE (ev_loadA tu24 rfl (cs := [v1]) ts24 rfl (box_ptr (cells := [v1]) 1 rfl 0 rfl (lb rfl))) F S rfl fun a F=>?_
  obtain ⟨g3, l3, S, h2⟩ : ∃ gz, Le g1 gz ∧ St gz [[bx b2 #[.i6 y1.2.Code, .i6 y1.2.Index] 26], [bx b1 #[v1] 24]] fr w ∧ RepSl gz y1.1.Nodes v1 := ⟨_, Le.add _ _, S.freeze 2 rfl, OwnS.freeze (S.front 2 rfl) h1⟩
  obtain ⟨y3, hy3, hm⟩ := bind_some hm
  refine wl_call0 (wn rfl) rfl F rfl (syntax_Print_ok (fr := (fl [[bx b2 #[.i6 y1.2.Code, .i6 y1.2.Index] 26], [bx b1 #[v1] 24]] fr)) y1.1 v1 h2 S hy3) rfl tc12 rfl rfl ?_; clear F a S
  rintro _ a w ⟨g4, l4, S, rfl⟩ F; replace S : St g4 [[bx b2 #[.i6 y1.2.Code, .i6 y1.2.Index] 26], [bx b1 #[v1] 24]] fr w := S
  refine wE (ev_move rfl) F S rfl fun a F=>?_
  refine wE (ev_extract rfl rfl) F S rfl fun a F=>?_
  refine wE (ev_extract rfl rfl) F S rfl fun a F=>?_
  refine wl_alloc (wn rfl) rfl tz26 (cs := [.i6 0, .i6 0]) rfl F S rfl rfl ?_; clear F a S; rintro b3 a w F S
  refine wE (ev_assign rfl) F S rfl fun a F=>?_
  refine wl_storeC (wn rfl) rfl F S rfl rfl (vs := [.i6 y3.2.Code, .i6 y3.2.Index]) rfl ts26 (one_cons rfl (one_cons rfl one_nil)) (k := 0) rfl (lb rfl) (c' := #[.i6 y3.2.Code, .i6 y3.2.Index]) rfl rfl ?_; clear S; intro w S
  refine wpList_nil ?_
  refine then_n ?_
  refine wp_seq ?_
  refine wp_region_lit ?_
  refine wE (ev_move rfl) F S rfl fun a F=>?_
  obtain ⟨y4, hy4, hm⟩ := bind_some hm
  refine wl_call0 (wn rfl) rfl F rfl (syntax_Parse_ok (fr := (fl [[bx b3 #[.i6 y3.2.Code, .i6 y3.2.Index] 26], [bx b2 #[.i6 y1.2.Code, .i6 y1.2.Index] 26], [bx b1 #[v1] 24]] fr)) y3.1 S hy4) rfl tc10 rfl rfl ?_; clear F a S
  rintro _ a w ⟨g5, v2, c2, l5, S, h3, rfl⟩ F; replace S : St g5 [c2, [bx b3 #[.i6 y3.2.Code, .i6 y3.2.Index] 26], [bx b2 #[.i6 y1.2.Code, .i6 y1.2.Index] 26], [bx b1 #[v1] 24]] fr w := S
  refine wE (ev_move rfl) F S rfl fun a F=>?_
  refine wE (ev_extract rfl rfl) F S rfl fun a F=>?_
  refine wE (ev_extract rfl rfl) F S rfl fun a F=>?_
  refine wl_alloc (wn rfl) rfl tz24 (cs := [nilS]) rfl F S rfl rfl ?_; clear F a S; rintro b4 a w F S
  refine wl_alloc (wn rfl) rfl tz26 (cs := [.i6 0, .i6 0]) rfl F S rfl rfl ?_; clear F a S; rintro b5 a w F S
  refine wl_storeC (wn rfl) rfl F S rfl rfl (vs := [v2]) rfl ts24 (one_cons (OwnS.one h3) one_nil) (k := 1) rfl (lb rfl) (c' := #[v2]) rfl rfl ?_; clear S; intro w S
  refine wl_storeC (wn rfl) rfl F S rfl rfl (vs := [.i6 y4.2.Code, .i6 y4.2.Index]) rfl ts26 (one_cons rfl (one_cons rfl one_nil)) (k := 0) rfl (lb rfl) (c' := #[.i6 y4.2.Code, .i6 y4.2.Index]) rfl rfl ?_; clear S; intro w S
  refine wpList_nil ?_
  refine then_n ?_
  refine wp_seq ?_
  refine wp_region_lit ?_
  refine wE (ev_fieldAddr' tu26 tf26_0 (z := 0) ts3 rfl ⟨_, rfl⟩ rfl) F S rfl fun a F=>?_
  refine wE (ev_load1 tu3 rfl rfl (box_ptr (cells := [.i6 y3.2.Code]) 3 rfl 0 rfl (lb rfl))) F S rfl fun a F=>?_
  refine wE (ev_int rfl rfl (bo_eql _ _ _ _)) F S rfl fun a F=>?_
  refine wE (ev_move rfl) F S rfl fun a F=>?_
  obtain ⟨x1, hx1, hm⟩ := bind_some hm
  refine wl_cut 4 (fun a w' => w = w' ∧ Fr 50 a [(35, .bool x1), (7, bp b4 0), (3, bp b1 0), (2, .bool false)]) ?_ ?_
  ·clear hm; obtain ⟨hc2, hm⟩ | ⟨hc2, hm⟩ := ite_or hx1
   ·refine wl_ev (wg F rfl rfl rfl rfl hc2) (ev_fieldAddr' tu26 tf26_0 (z := 0) ts3 rfl ⟨_, rfl⟩ rfl) F S rfl rfl ?_; clear F a; intro a F
    refine wl_ev (wg F rfl rfl rfl rfl hc2) (ev_load1 tu3 rfl rfl (box_ptr (cells := [.i6 y4.2.Code]) 0 rfl 0 rfl (lb rfl))) F S rfl rfl ?_; clear F a; intro a F
    refine wl_ev (wg F rfl rfl rfl rfl hc2) (ev_int rfl rfl (bo_eql _ _ _ _)) F S rfl rfl ?_; clear F a; intro a F
    refine wE (ev_pickT rfl hc2 rfl) F S rfl fun a F=>?_
    obtain rfl := sinj hm
    refine wpList_nil (then_n ?_); exact ⟨rfl, F.sub ⟨rfl, rfl, rfl, rfl, trivial⟩⟩
   ·refine wl_skip rfl rfl rfl rfl (ne_tf hc2) F rfl rfl ?_; clear F a; intro a F
    refine wl_skip rfl rfl rfl rfl (ne_tf hc2) F rfl rfl ?_; clear F a; intro a F
    refine wl_skip rfl rfl rfl rfl (ne_tf hc2) F rfl rfl ?_; clear F a; intro a F
    refine wE (ev_pickF rfl hc2 rfl) F S rfl fun a F=>?_
    obtain rfl := sinj hm
    refine wpList_nil (then_n ?_); exact ⟨rfl, F.sub ⟨rfl, rfl, rfl, rfl, trivial⟩⟩
  clear F; rintro a w' ⟨rfl, F⟩
  refine wE (ev_move rfl) F S rfl fun a F=>?_
  obtain ⟨g6, l6, S, h4⟩ : ∃ gz, Le g5 gz ∧ St gz [[bx b5 #[.i6 y4.2.Code, .i6 y4.2.Index] 26], [bx b4 #[v2] 24], [bx b3 #[.i6 y3.2.Code, .i6 y3.2.Index] 26], [bx b2 #[.i6 y1.2.Code, .i6 y1.2.Index] 26], [bx b1 #[v1] 24]] fr w ∧ RepSl gz y4.1.Nodes v2 := ⟨_, Le.add _ _, S.freeze 2 rfl, OwnS.freeze (S.front 2 rfl) h3⟩
  obtain ⟨x2, hx2, hm⟩ := bind_some hm
  refine wl_cut 4 (fun a w => ∃ g7, Fr 50 a [(40, .bool x2), (3, bp b1 0), (2, .bool false)] ∧ Le g6 g7 ∧ St g7 [[bx b5 #[.i6 y4.2.Code, .i6 y4.2.Index] 26], [bx b4 #[v2] 24], [bx b3 #[.i6 y3.2.Code, .i6 y3.2.Index] 26], [bx b2 #[.i6 y1.2.Code, .i6 y1.2.Index] 26], [bx b1 #[v1] 24]] fr w) ?_ ?_
  ·clear hm; obtain ⟨hc3, hm⟩ | ⟨hc3, hm⟩ := ite_or hx2
   ·refine wl_ev (wg F rfl rfl rfl rfl hc3) (ev_loadA tu24 rfl (cs := [v2]) ts24 rfl (box_ptr (cells := [v2]) 1 rfl 0 rfl (lb rfl))) F S rfl rfl ?_; clear F a; intro a F
    refine wl_ev (wg F rfl rfl rfl rfl hc3) (ev_loadA tu24 rfl (cs := [v1]) ts24 rfl (box_ptr (cells := [v1]) 4 rfl 0 rfl (lb rfl))) F S rfl rfl ?_; clear F a; intro a F
    obtain ⟨y5, hy5, hm⟩ := bind_some hm
    refine wl_call0 (wg F rfl rfl rfl rfl hc3) rfl F rfl (changeforgeequal_Syntax_ok (fr := (fl [[bx b5 #[.i6 y4.2.Code, .i6 y4.2.Index] 26], [bx b4 #[v2] 24], [bx b3 #[.i6 y3.2.Code, .i6 y3.2.Index] 26], [bx b2 #[.i6 y1.2.Code, .i6 y1.2.Index] 26], [bx b1 #[v1] 24]] fr)) y4.1 v2 h4 y1.1 v1 (h2.mono ((l4.trans l5).trans l6)) S hy5) rfl tc15 rfl rfl ?_; clear F a S
    rintro _ a w ⟨g8, l8, S, rfl⟩ F; replace S : St g8 [[bx b5 #[.i6 y4.2.Code, .i6 y4.2.Index] 26], [bx b4 #[v2] 24], [bx b3 #[.i6 y3.2.Code, .i6 y3.2.Index] 26], [bx b2 #[.i6 y1.2.Code, .i6 y1.2.Index] 26], [bx b1 #[v1] 24]] fr w := S
    refine wE (ev_pickT rfl hc3 rfl) F S rfl fun a F=>?_
    obtain rfl := sinj hm
    refine wpList_nil (then_n ?_); exact ⟨g8, F.sub ⟨rfl, rfl, rfl, trivial⟩, l8, S⟩
   ·refine wl_skip rfl rfl rfl rfl (ne_tf hc3) F rfl rfl ?_; clear F a; intro a F
    refine wl_skip rfl rfl rfl rfl (ne_tf hc3) F rfl rfl ?_; clear F a; intro a F
    refine wl_skip rfl rfl rfl rfl (ne_tf hc3) F rfl rfl ?_; clear F a; intro a F
    refine wE (ev_pickF rfl hc3 rfl) F S rfl fun a F=>?_
    obtain rfl := sinj hm
    refine wpList_nil (then_n ?_); exact ⟨g6, F.sub ⟨rfl, rfl, rfl, trivial⟩, (Le.refl _), S⟩
  clear F S; rintro a w ⟨g7, F, l7, S⟩
  refine wE (ev_move rfl) F S rfl fun a F=>?_
  obtain ⟨x3, hx3, hm⟩ := bind_some hm
  refine wl_cut 5 (fun a w => ∃ g9, Fr 50 a [(46, .bool x3), (2, .bool false)] ∧ Le g7 g9 ∧ St g9 [[bx b5 #[.i6 y4.2.Code, .i6 y4.2.Index] 26], [bx b4 #[v2] 24], [bx b3 #[.i6 y3.2.Code, .i6 y3.2.Index] 26], [bx b2 #[.i6 y1.2.Code, .i6 y1.2.Index] 26], [bx b1 #[v1] 24]] fr w) ?_ ?_
  ·clear hm; obtain ⟨hc4, hm⟩ | ⟨hc4, hm⟩ := ite_or hx3
   ·refine wl_ev (wg F rfl rfl rfl rfl hc4) (ev_loadA tu24 rfl (cs := [v1]) ts24 rfl (box_ptr (cells := [v1]) 4 rfl 0 rfl (lb rfl))) F S rfl rfl ?_; clear F a; intro a F
    obtain ⟨y6, hy6, hm⟩ := bind_some hm
    refine wl_call0 (wg F rfl rfl rfl rfl hc4) rfl F rfl (syntax_Validate_ok (fr := (fl [[bx b5 #[.i6 y4.2.Code, .i6 y4.2.Index] 26], [bx b4 #[v2] 24], [bx b3 #[.i6 y3.2.Code, .i6 y3.2.Index] 26], [bx b2 #[.i6 y1.2.Code, .i6 y1.2.Index] 26], [bx b1 #[v1] 24]] fr)) y1.1 v1 (h2.mono (((l4.trans l5).trans l6).trans l7)) S hy6) rfl tc14 rfl rfl ?_; clear F a S
    rintro _ a w ⟨g10, l10, S, rfl⟩ F; replace S : St g10 [[bx b5 #[.i6 y4.2.Code, .i6 y4.2.Index] 26], [bx b4 #[v2] 24], [bx b3 #[.i6 y3.2.Code, .i6 y3.2.Index] 26], [bx b2 #[.i6 y1.2.Code, .i6 y1.2.Index] 26], [bx b1 #[v1] 24]] fr w := S
    refine wl_ev (wg F rfl rfl rfl rfl hc4) (ev_field1 tu26 tf26_0 tu3 rfl (cs := [.i6 y6.Code, .i6 y6.Index]) rfl rfl) F S rfl rfl ?_; clear F a; intro a F
    refine wl_ev (wg F rfl rfl rfl rfl hc4) (ev_int rfl rfl (bo_eql _ _ _ _)) F S rfl rfl ?_; clear F a; intro a F
    refine wE (ev_pickT rfl hc4 rfl) F S rfl fun a F=>?_
    obtain rfl := sinj hm
    refine wpList_nil (then_n ?_); exact ⟨g10, F.sub ⟨rfl, rfl, trivial⟩, l10, S⟩
   ·refine wl_skip rfl rfl rfl rfl (ne_tf hc4) F rfl rfl ?_; clear F a; intro a F
    refine wl_skip rfl rfl rfl rfl (ne_tf hc4) F rfl rfl ?_; clear F a; intro a F
    refine wl_skip rfl rfl rfl rfl (ne_tf hc4) F rfl rfl ?_; clear F a; intro a F
    refine wl_skip rfl rfl rfl rfl (ne_tf hc4) F rfl rfl ?_; clear F a; intro a F
    refine wE (ev_pickF rfl hc4 rfl) F S rfl fun a F=>?_
    obtain rfl := sinj hm
    refine wpList_nil (then_n ?_); exact ⟨g7, F.sub ⟨rfl, rfl, trivial⟩, (Le.refl _), S⟩
  clear F S; rintro a w ⟨g9, F, l9, S⟩
  refine wE (ev_move rfl) F S rfl fun a F=>?_
  obtain ⟨x4, hx4, hm⟩ := bind_some hm
  refine wl_cut 2 (fun a w => ∃ g11, Fr 50 a [(49, .bool x4), (2, .bool false)] ∧ Le g9 g11 ∧ St g11 [[bx b5 #[.i6 y4.2.Code, .i6 y4.2.Index] 26], [bx b4 #[v2] 24], [bx b3 #[.i6 y3.2.Code, .i6 y3.2.Index] 26], [bx b2 #[.i6 y1.2.Code, .i6 y1.2.Index] 26], [bx b1 #[v1] 24]] fr w) ?_ ?_
  ·clear hm; obtain ⟨hc5, hm⟩ | ⟨hc5, hm⟩ := ite_or hx4
   ·obtain ⟨y7, hy7, hm⟩ := bind_some hm
    refine wl_call0 (wg F rfl rfl rfl rfl hc5) rfl F rfl (changeforgelaw2_parsed_ok (fr := (fl [[bx b5 #[.i6 y4.2.Code, .i6 y4.2.Index] 26], [bx b4 #[v2] 24], [bx b3 #[.i6 y3.2.Code, .i6 y3.2.Index] 26], [bx b2 #[.i6 y1.2.Code, .i6 y1.2.Index] 26], [bx b1 #[v1] 24]] fr))  S hy7) rfl tc16 rfl rfl ?_; clear F a S
    rintro _ a w ⟨g12, l12, S, rfl⟩ F; replace S : St g12 [[bx b5 #[.i6 y4.2.Code, .i6 y4.2.Index] 26], [bx b4 #[v2] 24], [bx b3 #[.i6 y3.2.Code, .i6 y3.2.Index] 26], [bx b2 #[.i6 y1.2.Code, .i6 y1.2.Index] 26], [bx b1 #[v1] 24]] fr w := S
    refine wE (ev_pickT rfl hc5 rfl) F S rfl fun a F=>?_
    obtain rfl := sinj hm
    refine wpList_nil (then_n ?_); exact ⟨g12, F.sub ⟨rfl, rfl, trivial⟩, l12, S⟩
   ·refine wl_skip rfl rfl rfl rfl (ne_tf hc5) F rfl rfl ?_; clear F a; intro a F
    refine wE (ev_pickF rfl hc5 rfl) F S rfl fun a F=>?_
    obtain rfl := sinj hm
    refine wpList_nil (then_n ?_); exact ⟨g9, F.sub ⟨rfl, rfl, trivial⟩, (Le.refl _), S⟩
  clear F S; rintro a w ⟨g11, F, l11, S⟩
  refine wE (ev_assign rfl) F S rfl fun a F=>?_
  refine wpList_nil ?_
  refine then_n ?_
  refine wp_ret ?_
  obtain rfl := sinj hm
  refine post_r _ F rfl (ar_cons (resT rfl) ar_nil) ?_
  replace S : St g11 [] fr w := St.tail [] _ S
  exact ⟨_, rfl, g11, (((((((l1.trans l3).trans l4).trans l5).trans l6).trans l7).trans l9).trans l11), S, rfl⟩
end Go.Dc
