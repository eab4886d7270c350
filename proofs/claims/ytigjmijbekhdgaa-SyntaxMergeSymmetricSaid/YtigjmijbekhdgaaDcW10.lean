/- Walks: each function comes to what its model says. -/
import Derived.Test.YtigjmijbekhdgaaDcTab
import Derived.Test.YtigjmijbekhdgaaDcM
import Derived.Test.YtigjmijbekhdgaaDcW3
import Derived.Test.YtigjmijbekhdgaaDcW7
namespace Go.Dc
open Go Go.Proofs
set_option maxRecDepth 100000
set_option maxHeartbeats 4000000
set_option linter.unusedVariables false
theorem changeforgelaw2_SyntaxMergeSymmetric_ok {g : Gh} {fr : Hl} {w : World} {r : Bool} (base : SyntaxTree) (vbase1 : Value) (hbase1 : RepSl g base.Nodes vbase1) (left : SyntaxTree) (vleft1 : Value) (hleft1 : RepSl g left.Nodes vleft1) (right : SyntaxTree) (vright1 : Value) (hright1 : RepSl g right.Nodes vright1) (S : St g [] fr w) (hm : changeforgelaw2_SyntaxMergeSymmetric base left right = some r) :
  Calls Try.prog 8 [.agg #[vbase1], .agg #[vleft1], .agg #[vright1]].toArray w (fun en w' => ∃ v, en = .returned v ∧ ∃ (g' : Gh), Le g g' ∧ St g' [] fr w' ∧ .bool r = v) := by
 unfold changeforgelaw2_SyntaxMergeSymmetric at hm
 refine calls_enter (fn := Try.f8) Try.func8 rfl Try.ntmps8 (lb rfl) ?_
 intro a F
 replace F : Fr 56 a [(0, .agg #[vbase1]), (1, .agg #[vleft1]), (2, .agg #[vright1])] := F
 refine wp_seq ?_
 refine wp_region_lit ?_
 refine wl_boxC (wn rfl) rfl rfl rfl F S rfl rfl ?_; clear F a S; rintro b1 a w F S
 refine wl_boxC (wn rfl) rfl rfl rfl F S rfl rfl ?_; clear F a S; rintro b2 a w F S
 refine wl_boxC (wn rfl) rfl rfl rfl F S rfl rfl ?_; clear F a S; rintro b3 a w F S
 refine wE (ev_assign rfl) F S rfl fun a F=>?_
 refine wpList_nil ?_
 refine then_n ?_
 refine wp_seq ?_
 refine wp_region_lit ?_
 refine wE (ev_loadA tu24 rfl (cs := [vbase1]) ts24 rfl (box_ptr (cells := [vbase1]) 2 rfl 0 rfl (lb rfl))) F S rfl fun a F=>?_
 refine wE (ev_loadA tu24 rfl (cs := [vleft1]) ts24 rfl (box_ptr (cells := [vleft1]) 1 rfl 0 rfl (lb rfl))) F S rfl fun a F=>?_
 refine wE (ev_loadA tu24 rfl (cs := [vright1]) ts24 rfl (box_ptr (cells := [vright1]) 0 rfl 0 rfl (lb rfl))) F S rfl fun a F=>?_
 obtain ⟨y1, hy1, hm⟩ := bind_some hm
 refine wl_call0 (wn rfl) rfl F rfl (syntax_Merge_ok (fr := (fl [[bx b3 #[vright1] 24], [bx b2 #[vleft1] 24], [bx b1 #[vbase1] 24]] fr)) base vbase1 hbase1 left vleft1 hleft1 right vright1 hright1 S hy1) rfl tc18 rfl rfl ?_; clear F a S
 rintro _ a w ⟨g1, v1, v2, c1, c2, l1, S, h1, h2, rfl⟩ F; replace S : St g1 [c1, c2, [bx b3 #[vright1] 24], [bx b2 #[vleft1] 24], [bx b1 #[vbase1] 24]] fr w := S
 refine wE (ev_move rfl) F S rfl fun a F=>?_
 refine wE (ev_extract rfl rfl) F S rfl fun a F=>?_
 refine wE (ev_extract rfl rfl) F S rfl fun a F=>?_
 refine wE (ev_extract rfl rfl) F S rfl fun a F=>?_
 refine wl_alloc (wn rfl) rfl tz24 (cs := [nilS]) rfl F S rfl rfl ?_; clear F a S; rintro b4 a w F S
 refine wl_alloc (wn rfl) rfl tz26 (cs := [.i6 0, .i6 0]) rfl F S rfl rfl ?_; clear F a S; rintro b5 a w F S
 refine wl_storeC (wn rfl) rfl F S rfl rfl (vs := [v1]) rfl ts24 (one_cons (OwnS.one h1) one_nil) (k := 1) rfl (lb rfl) (c' := #[v1]) rfl rfl ?_; clear S; intro w S
 refine wE (ev_assign rfl) F S rfl fun a F=>?_
 refine wl_storeC (wn rfl) rfl F S rfl rfl (vs := [.i6 y1.2.2.Code, .i6 y1.2.2.Index]) rfl ts26 (one_cons rfl (one_cons rfl one_nil)) (k := 0) rfl (lb rfl) (c' := #[.i6 y1.2.2.Code, .i6 y1.2.2.Index]) rfl rfl ?_; clear S; intro w S
 refine wpList_nil ?_
 refine then_n ?_
 refine wp_seq ?_
 refine wp_region_lit ?_
 refine wE (ev_loadA tu24 rfl (cs := [vbase1]) ts24 rfl (box_ptr (cells := [vbase1]) 6 rfl 0 rfl (lb rfl))) F S rfl fun a F=>?_
 refine wE (ev_loadA tu24 rfl (cs := [vright1]) ts24 rfl (box_ptr (cells := [vright1]) 4 rfl 0 rfl (lb rfl))) F S rfl fun a F=>?_
 refine wE (ev_loadA tu24 rfl (cs := [vleft1]) ts24 rfl (box_ptr (cells := [vleft1]) 5 rfl 0 rfl (lb rfl))) F S rfl fun a F=>?_
 obtain ⟨y2, hy2, hm⟩ := bind_some hm
 refine wl_call0 (wn rfl) rfl F rfl (syntax_Merge_ok (fr := (fl [[bx b5 #[.i6 y1.2.2.Code, .i6 y1.2.2.Index] 26], [bx b4 #[v1] 24], c1, c2, [bx b3 #[vright1] 24], [bx b2 #[vleft1] 24], [bx b1 #[vbase1] 24]] fr)) base vbase1 (hbase1.mono l1) right vright1 (hright1.mono l1) left vleft1 (hleft1.mono l1) S hy2) rfl tc18 rfl rfl ?_; clear F a S
 rintro _ a w ⟨g2, v3, v4, c3, c4, l2, S, h3, h4, rfl⟩ F; replace S : St g2 [c3, c4, [bx b5 #[.i6 y1.2.2.Code, .i6 y1.2.2.Index] 26], [bx b4 #[v1] 24], c1, c2, [bx b3 #[vright1] 24], [bx b2 #[vleft1] 24], [bx b1 #[vbase1] 24]] fr w := S
 refine wE (ev_move rfl) F S rfl fun a F=>?_
 refine wE (ev_extract rfl rfl) F S rfl fun a F=>?_
 refine wE (ev_extract rfl rfl) F S rfl fun a F=>?_
 refine wE (ev_extract rfl rfl) F S rfl fun a F=>?_
 refine wl_alloc (wn rfl) rfl tz24 (cs := [nilS]) rfl F S rfl rfl ?_; clear F a S; rintro b6 a w F S
 refine wl_alloc (wn rfl) rfl tz26 (cs := [.i6 0, .i6 0]) rfl F S rfl rfl ?_; clear F a S; rintro b7 a w F S
 refine wl_storeC (wn rfl) rfl F S rfl rfl (vs := [v3]) rfl ts24 (one_cons (OwnS.one h3) one_nil) (k := 1) rfl (lb rfl) (c' := #[v3]) rfl rfl ?_; clear S; intro w S
 refine wE (ev_assign rfl) F S rfl fun a F=>?_
 refine wl_storeC (wn rfl) rfl F S rfl rfl (vs := [.i6 y2.2.2.Code, .i6 y2.2.2.Index]) rfl ts26 (one_cons rfl (one_cons rfl one_nil)) (k := 0) rfl (lb rfl) (c' := #[.i6 y2.2.2.Code, .i6 y2.2.2.Index]) rfl rfl ?_; clear S; intro w S
 refine wpList_nil ?_
 refine then_n ?_
 refine wp_seq ?_
 refine wp_seq ?_
 refine wp_region_lit ?_
 refine wE (ev_fieldAddr' tu26 tf26_0 (z := 0) ts3 rfl ⟨_, rfl⟩ rfl) F S rfl fun a F=>?_
 refine wE (ev_load1 tu3 rfl rfl (box_ptr (cells := [.i6 y1.2.2.Code]) 4 rfl 0 rfl (lb rfl))) F S rfl fun a F=>?_
 refine wE (ev_int rfl rfl (bo_neq _ _ _ _)) F S rfl fun a F=>?_
 refine wE (ev_move rfl) F S rfl fun a F=>?_
 obtain ⟨x1, hx1, hm⟩ := bind_some hm
 refine wl_cut 4 (fun a w' => w = w' ∧ Fr 56 a [(36, .bool x1), (11, v4), (10, bp b6 0), (8, v2), (7, bp b4 0)]) ?_ ?_
 ·clear hm; obtain ⟨hc1, hm⟩ | ⟨hc1, hm⟩ := ite_or hx1
  ·refine wl_skip rfl rfl rfl rfl (ne_ft hc1) F rfl rfl ?_; clear F a; intro a F
   refine wl_skip rfl rfl rfl rfl (ne_ft hc1) F rfl rfl ?_; clear F a; intro a F
   refine wl_skip rfl rfl rfl rfl (ne_ft hc1) F rfl rfl ?_; clear F a; intro a F
   refine wE (ev_pickT rfl hc1 rfl) F S rfl fun a F=>?_
   obtain rfl := sinj hm
   refine wpList_nil (then_n ?_); exact ⟨rfl, F.sub ⟨rfl, rfl, rfl, rfl, rfl, trivial⟩⟩
  ·refine wl_ev (wg F rfl rfl rfl rfl hc1) (ev_fieldAddr' tu26 tf26_0 (z := 0) ts3 rfl ⟨_, rfl⟩ rfl) F S rfl rfl ?_; clear F a; intro a F
   refine wl_ev (wg F rfl rfl rfl rfl hc1) (ev_load1 tu3 rfl rfl (box_ptr (cells := [.i6 y2.2.2.Code]) 0 rfl 0 rfl (lb rfl))) F S rfl rfl ?_; clear F a; intro a F
   refine wl_ev (wg F rfl rfl rfl rfl hc1) (ev_int rfl rfl (bo_neq _ _ _ _)) F S rfl rfl ?_; clear F a; intro a F
   refine wE (ev_pickF rfl hc1 rfl) F S rfl fun a F=>?_
   obtain rfl := sinj hm
   refine wpList_nil (then_n ?_); exact ⟨rfl, F.sub ⟨rfl, rfl, rfl, rfl, rfl, trivial⟩⟩
 clear F; rintro a w' ⟨rfl, F⟩
 refine wpList_nil ?_
 refine then_n ?_
 obtain ⟨hc2, hm⟩ | ⟨hc2, hm⟩ := ite_or hm
 ·refine wp_condT F rfl hc2 ?_
  refine wp_seq ?_
  refine wp_region_lit ?_
  obtain ⟨y3, hy3, hm⟩ := bind_some hm
  refine wl_call0 (wn rfl) rfl F rfl (changeforgelaw2_parsed_ok (fr := (fl [[bx b7 #[.i6 y2.2.2.Code, .i6 y2.2.2.Index] 26], [bx b6 #[v3] 24], c3, c4, [bx b5 #[.i6 y1.2.2.Code, .i6 y1.2.2.Index] 26], [bx b4 #[v1] 24], c1, c2, [bx b3 #[vright1] 24], [bx b2 #[vleft1] 24], [bx b1 #[vbase1] 24]] fr))  S hy3) rfl tc16 rfl rfl ?_; clear F a S
  rintro _ a w ⟨g3, l3, S, rfl⟩ F; replace S : St g3 [[bx b7 #[.i6 y2.2.2.Code, .i6 y2.2.2.Index] 26], [bx b6 #[v3] 24], c3, c4, [bx b5 #[.i6 y1.2.2.Code, .i6 y1.2.2.Index] 26], [bx b4 #[v1] 24], c1, c2, [bx b3 #[vright1] 24], [bx b2 #[vleft1] 24], [bx b1 #[vbase1] 24]] fr w := S
  refine wE (ev_assign rfl) F S rfl fun a F=>?_
  refine wpList_nil ?_
  refine then_n ?_
  refine wp_ret ?_
  refine then_r ?_
  obtain rfl := sinj hm
  refine post_r _ F rfl (ar_cons (resT rfl) ar_nil) ?_
  replace S : St g3 [] fr w := St.tail [] _ S
  exact ⟨_, rfl, g3, ((l1.trans l2).trans l3), S, rfl⟩
 ·refine wp_condF F rfl hc2 ?_
  refine wp_skip ?_
  refine then_n ?_
  refine wp_seq ?_
  refine wp_region_lit ?_
  refine wE (ev_move rfl) F S rfl fun a F=>?_
  refine wE (ev_lenOw h2 rfl tu38) F S rfl fun a F=>?_
  refine wE (ev_move rfl) F S rfl fun a F=>?_
  refine wE (ev_lenOw h4 rfl tu38) F S rfl fun a F=>?_
  refine wE (ev_int rfl rfl (bo_eql _ _ _ _)) F S rfl fun a F=>?_
  refine wE (ev_move rfl) F S rfl fun a F=>?_
  obtain ⟨g4, l4, S, h5⟩ : ∃ gz, Le g2 gz ∧ St gz [[bx b7 #[.i6 y2.2.2.Code, .i6 y2.2.2.Index] 26], [bx b6 #[v3] 24], c4, [bx b5 #[.i6 y1.2.2.Code, .i6 y1.2.2.Index] 26], [bx b4 #[v1] 24], c1, c2, [bx b3 #[vright1] 24], [bx b2 #[vleft1] 24], [bx b1 #[vbase1] 24]] fr w ∧ RepSl gz y2.1.Nodes v3 := ⟨_, Le.add _ _, S.freeze 2 rfl, OwnS.freeze (S.front 2 rfl) h3⟩
  obtain ⟨g5, l5, S, h6⟩ : ∃ gz, Le g4 gz ∧ St gz [[bx b7 #[.i6 y2.2.2.Code, .i6 y2.2.2.Index] 26], [bx b6 #[v3] 24], c4, [bx b5 #[.i6 y1.2.2.Code, .i6 y1.2.2.Index] 26], [bx b4 #[v1] 24], c2, [bx b3 #[vright1] 24], [bx b2 #[vleft1] 24], [bx b1 #[vbase1] 24]] fr w ∧ RepSl gz y1.1.Nodes v1 := ⟨_, Le.add _ _, S.freeze 5 rfl, OwnS.freeze (S.front 5 rfl) (h1.mono (l2.trans l4))⟩
  obtain ⟨x2, hx2, hm⟩ := bind_some hm
  refine wl_cut 9 (fun a w => ∃ g6, Fr 56 a [(52, .bool x2)] ∧ Le g5 g6 ∧ St g6 [[bx b7 #[.i6 y2.2.2.Code, .i6 y2.2.2.Index] 26], [bx b6 #[v3] 24], c4, [bx b5 #[.i6 y1.2.2.Code, .i6 y1.2.2.Index] 26], [bx b4 #[v1] 24], c2, [bx b3 #[vright1] 24], [bx b2 #[vleft1] 24], [bx b1 #[vbase1] 24]] fr w) ?_ ?_
  ·clear hm; obtain ⟨hc3, hm⟩ | ⟨hc3, hm⟩ := ite_or hx2
   ·refine wl_ev (wg F rfl rfl rfl rfl hc3) (ev_move rfl) F S rfl rfl ?_; clear F a; intro a F
    refine wl_ev (wg F rfl rfl rfl rfl hc3) (ev_lenOw h2 rfl tu38) F S rfl rfl ?_; clear F a; intro a F
    refine wl_ev (wg F rfl rfl rfl rfl hc3) (ev_int rfl rfl (bo_gtr _ _ _ _)) F S rfl rfl ?_; clear F a; intro a F
    refine wl_ev (wg F rfl rfl rfl rfl hc3) (ev_move rfl) F S rfl rfl ?_; clear F a; intro a F
    obtain ⟨x3, hx3, hm⟩ := bind_some hm
    refine wl_cut 4 (fun a w => ∃ g7, Fr 56 a [(51, .bool x3), (43, .bool (decide ((y1.2.1.length : Int) = (y2.2.1.length : Int))))] ∧ Le g5 g7 ∧ St g7 [[bx b7 #[.i6 y2.2.2.Code, .i6 y2.2.2.Index] 26], [bx b6 #[v3] 24], c4, [bx b5 #[.i6 y1.2.2.Code, .i6 y1.2.2.Index] 26], [bx b4 #[v1] 24], c2, [bx b3 #[vright1] 24], [bx b2 #[vleft1] 24], [bx b1 #[vbase1] 24]] fr w) ?_ ?_
    ·clear hm; obtain ⟨hc4, hm⟩ | ⟨hc4, hm⟩ := ite_or hx3
     ·refine wl_skip rfl rfl rfl rfl (ne_ft hc4) F rfl rfl ?_; clear F a; intro a F
      refine wl_skip rfl rfl rfl rfl (ne_ft hc4) F rfl rfl ?_; clear F a; intro a F
      refine wl_skip rfl rfl rfl rfl (ne_ft hc4) F rfl rfl ?_; clear F a; intro a F
      refine wl_ev (wg F rfl rfl rfl rfl hc3) (ev_pickT rfl hc4 rfl) F S rfl rfl ?_; clear F a; intro a F
      obtain rfl := sinj hm
      refine wpList_nil (then_n ?_); exact ⟨g5, F.sub ⟨rfl, rfl, trivial⟩, (Le.refl _), S⟩
     ·refine wl_ev (wg F rfl rfl rfl rfl hc4) (ev_loadA tu24 rfl (cs := [v1]) ts24 rfl (box_ptr (cells := [v1]) 4 rfl 0 rfl (lb rfl))) F S rfl rfl ?_; clear F a; intro a F
      refine wl_ev (wg F rfl rfl rfl rfl hc4) (ev_loadA tu24 rfl (cs := [v3]) ts24 rfl (box_ptr (cells := [v3]) 1 rfl 0 rfl (lb rfl))) F S rfl rfl ?_; clear F a; intro a F
      obtain ⟨y4, hy4, hm⟩ := bind_some hm
      refine wl_call0 (wg F rfl rfl rfl rfl hc4) rfl F rfl (changeforgeequal_Syntax_ok (fr := (fl [[bx b7 #[.i6 y2.2.2.Code, .i6 y2.2.2.Index] 26], [bx b6 #[v3] 24], c4, [bx b5 #[.i6 y1.2.2.Code, .i6 y1.2.2.Index] 26], [bx b4 #[v1] 24], c2, [bx b3 #[vright1] 24], [bx b2 #[vleft1] 24], [bx b1 #[vbase1] 24]] fr)) y1.1 v1 h6 y2.1 v3 (h5.mono l5) S hy4) rfl tc15 rfl rfl ?_; clear F a S
      rintro _ a w ⟨g8, l8, S, rfl⟩ F; replace S : St g8 [[bx b7 #[.i6 y2.2.2.Code, .i6 y2.2.2.Index] 26], [bx b6 #[v3] 24], c4, [bx b5 #[.i6 y1.2.2.Code, .i6 y1.2.2.Index] 26], [bx b4 #[v1] 24], c2, [bx b3 #[vright1] 24], [bx b2 #[vleft1] 24], [bx b1 #[vbase1] 24]] fr w := S
      refine wl_ev (wg F rfl rfl rfl rfl hc3) (ev_pickF rfl hc4 rfl) F S rfl rfl ?_; clear F a; intro a F
      obtain rfl := sinj hm
      refine wpList_nil (then_n ?_); exact ⟨g8, F.sub ⟨rfl, rfl, trivial⟩, l8, S⟩
    clear F S; rintro a w ⟨g7, F, l7, S⟩
    refine wE (ev_pickT rfl hc3 rfl) F S rfl fun a F=>?_
    obtain rfl := sinj hm
    refine wpList_nil (then_n ?_); exact ⟨g7, F.sub ⟨rfl, trivial⟩, l7, S⟩
   ·refine wl_skip rfl rfl rfl rfl (ne_tf hc3) F rfl rfl ?_; clear F a; intro a F
    refine wl_skip rfl rfl rfl rfl (ne_tf hc3) F rfl rfl ?_; clear F a; intro a F
    refine wl_skip rfl rfl rfl rfl (ne_tf hc3) F rfl rfl ?_; clear F a; intro a F
    refine wl_skip rfl rfl rfl rfl (ne_tf hc3) F rfl rfl ?_; clear F a; intro a F
    refine wl_skipu rfl rfl rfl rfl F rfl rfl ?_; clear F a; intro a F
    refine wl_skipu rfl rfl rfl rfl F rfl rfl ?_; clear F a; intro a F
    refine wl_skipu rfl rfl rfl rfl F rfl rfl ?_; clear F a; intro a F
    refine wl_skip rfl rfl rfl rfl (ne_tf hc3) F rfl rfl ?_; clear F a; intro a F
    refine wE (ev_pickF rfl hc3 rfl) F S rfl fun a F=>?_
    obtain rfl := sinj hm
    refine wpList_nil (then_n ?_); exact ⟨g5, F.sub ⟨rfl, trivial⟩, (Le.refl _), S⟩
  clear F S; rintro a w ⟨g6, F, l6, S⟩
  refine wE (ev_move rfl) F S rfl fun a F=>?_
  obtain ⟨x4, hx4, hm⟩ := bind_some hm
  refine wl_cut 2 (fun a w => ∃ g9, Fr 56 a [(55, .bool x4)] ∧ Le g6 g9 ∧ St g9 [[bx b7 #[.i6 y2.2.2.Code, .i6 y2.2.2.Index] 26], [bx b6 #[v3] 24], c4, [bx b5 #[.i6 y1.2.2.Code, .i6 y1.2.2.Index] 26], [bx b4 #[v1] 24], c2, [bx b3 #[vright1] 24], [bx b2 #[vleft1] 24], [bx b1 #[vbase1] 24]] fr w) ?_ ?_
  ·clear hm; obtain ⟨hc5, hm⟩ | ⟨hc5, hm⟩ := ite_or hx4
   ·obtain ⟨y5, hy5, hm⟩ := bind_some hm
    refine wl_call0 (wg F rfl rfl rfl rfl hc5) rfl F rfl (changeforgelaw2_parsed_ok (fr := (fl [[bx b7 #[.i6 y2.2.2.Code, .i6 y2.2.2.Index] 26], [bx b6 #[v3] 24], c4, [bx b5 #[.i6 y1.2.2.Code, .i6 y1.2.2.Index] 26], [bx b4 #[v1] 24], c2, [bx b3 #[vright1] 24], [bx b2 #[vleft1] 24], [bx b1 #[vbase1] 24]] fr))  S hy5) rfl tc16 rfl rfl ?_; clear F a S
    rintro _ a w ⟨g10, l10, S, rfl⟩ F; replace S : St g10 [[bx b7 #[.i6 y2.2.2.Code, .i6 y2.2.2.Index] 26], [bx b6 #[v3] 24], c4, [bx b5 #[.i6 y1.2.2.Code, .i6 y1.2.2.Index] 26], [bx b4 #[v1] 24], c2, [bx b3 #[vright1] 24], [bx b2 #[vleft1] 24], [bx b1 #[vbase1] 24]] fr w := S
    refine wE (ev_pickT rfl hc5 rfl) F S rfl fun a F=>?_
    obtain rfl := sinj hm
    refine wpList_nil (then_n ?_); exact ⟨g10, F.sub ⟨rfl, trivial⟩, l10, S⟩
   ·refine wl_skip rfl rfl rfl rfl (ne_tf hc5) F rfl rfl ?_; clear F a; intro a F
    refine wE (ev_pickF rfl hc5 rfl) F S rfl fun a F=>?_
    obtain rfl := sinj hm
    refine wpList_nil (then_n ?_); exact ⟨g6, F.sub ⟨rfl, trivial⟩, (Le.refl _), S⟩
  clear F S; rintro a w ⟨g9, F, l9, S⟩
  refine wE (ev_assign rfl) F S rfl fun a F=>?_
  refine wpList_nil ?_
  refine then_n ?_
  refine wp_ret ?_
  obtain rfl := sinj hm
  refine post_r _ F rfl (ar_cons (resT rfl) ar_nil) ?_
  replace S : St g9 [] fr w := St.tail [] _ S
  exact ⟨_, rfl, g9, (((((l1.trans l2).trans l4).trans l5).trans l6).trans l9), S, rfl⟩
end Go.Dc
