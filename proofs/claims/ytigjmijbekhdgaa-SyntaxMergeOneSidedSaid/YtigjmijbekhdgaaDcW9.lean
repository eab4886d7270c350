/- Walks: each function comes to what its model says. -/
import Derived.Test.YtigjmijbekhdgaaDcTab
import Derived.Test.YtigjmijbekhdgaaDcM
import Derived.Test.YtigjmijbekhdgaaDcW3
import Derived.Test.YtigjmijbekhdgaaDcW7
namespace Go.Dc
open Go Go.Proofs
set_option maxRecDepth 100000
set_option maxHeartbeats 4000000
set_option linter.unusedVariables false
theorem changeforgelaw2_SyntaxMergeOneSided_ok {g : Gh} {fr : Hl} {w : World} {r : Bool} (base : SyntaxTree) (vbase1 : Value) (hbase1 : RepSl g base.Nodes vbase1) (other : SyntaxTree) (vother1 : Value) (hother1 : RepSl g other.Nodes vother1) (S : St g [] fr w) (hm : changeforgelaw2_SyntaxMergeOneSided base other = some r) :
  Calls Try.prog 7 [.agg #[vbase1], .agg #[vother1]].toArray w (fun en w' => ∃ v, en = .returned v ∧ ∃ (g' : Gh), Le g g' ∧ St g' [] fr w' ∧ .bool r = v) := by
 unfold changeforgelaw2_SyntaxMergeOneSided at hm
 refine calls_enter (fn := Try.f7) Try.func7 rfl Try.ntmps7 (lb rfl) ?_
 intro a F
 replace F : Fr 106 a [(0, .agg #[vbase1]), (1, .agg #[vother1])] := F
 refine wp_seq ?_
 refine wp_region_lit ?_
 refine wl_boxC (wn rfl) rfl rfl rfl F S rfl rfl ?_; clear F a S; rintro b1 a w F S
 refine wl_boxC (wn rfl) rfl rfl rfl F S rfl rfl ?_; clear F a S; rintro b2 a w F S
 refine wE (ev_assign rfl) F S rfl fun a F=>?_
 refine wpList_nil ?_
 refine then_n ?_
 refine wp_seq ?_
 refine wp_region_lit ?_
 refine wE (ev_loadA tu24 rfl (cs := [vbase1]) ts24 rfl (box_ptr (cells := [vbase1]) 1 rfl 0 rfl (lb rfl))) F S rfl fun a F=>?_
 refine wE (ev_loadA tu24 rfl (cs := [vbase1]) ts24 rfl (box_ptr (cells := [vbase1]) 1 rfl 0 rfl (lb rfl))) F S rfl fun a F=>?_
 refine wE (ev_loadA tu24 rfl (cs := [vother1]) ts24 rfl (box_ptr (cells := [vother1]) 0 rfl 0 rfl (lb rfl))) F S rfl fun a F=>?_
 obtain ⟨y1, hy1, hm⟩ := bind_some hm
 refine wl_call0 (wn rfl) rfl F rfl (syntax_Merge_ok (fr := (fl [[bx b2 #[vother1] 24], [bx b1 #[vbase1] 24]] fr)) base vbase1 hbase1 base vbase1 hbase1 other vother1 hother1 S hy1) rfl tc18 rfl rfl ?_; clear F a S
 rintro _ a w ⟨g1, v1, v2, c1, c2, l1, S, h1, h2, rfl⟩ F; replace S : St g1 [c1, c2, [bx b2 #[vother1] 24], [bx b1 #[vbase1] 24]] fr w := S
 refine wE (ev_move rfl) F S rfl fun a F=>?_
 refine wE (ev_extract rfl rfl) F S rfl fun a F=>?_
 refine wE (ev_extract rfl rfl) F S rfl fun a F=>?_
 refine wE (ev_extract rfl rfl) F S rfl fun a F=>?_
 refine wl_alloc (wn rfl) rfl tz24 (cs := [nilS]) rfl F S rfl rfl ?_; clear F a S; rintro b3 a w F S
 refine wl_alloc (wn rfl) rfl tz26 (cs := [.i6 0, .i6 0]) rfl F S rfl rfl ?_; clear F a S; rintro b4 a w F S
 refine wl_storeC (wn rfl) rfl F S rfl rfl (vs := [v1]) rfl ts24 (one_cons (OwnS.one h1) one_nil) (k := 1) rfl (lb rfl) (c' := #[v1]) rfl rfl ?_; clear S; intro w S
 refine wE (ev_assign rfl) F S rfl fun a F=>?_
 refine wl_storeC (wn rfl) rfl F S rfl rfl (vs := [.i6 y1.2.2.Code, .i6 y1.2.2.Index]) rfl ts26 (one_cons rfl (one_cons rfl one_nil)) (k := 0) rfl (lb rfl) (c' := #[.i6 y1.2.2.Code, .i6 y1.2.2.Index]) rfl rfl ?_; clear S; intro w S
 refine wpList_nil ?_
 refine then_n ?_
 refine wp_seq ?_
 refine wp_region_lit ?_
 refine wE (ev_loadA tu24 rfl (cs := [vbase1]) ts24 rfl (box_ptr (cells := [vbase1]) 5 rfl 0 rfl (lb rfl))) F S rfl fun a F=>?_
 refine wE (ev_loadA tu24 rfl (cs := [vother1]) ts24 rfl (box_ptr (cells := [vother1]) 4 rfl 0 rfl (lb rfl))) F S rfl fun a F=>?_
 refine wE (ev_loadA tu24 rfl (cs := [vbase1]) ts24 rfl (box_ptr (cells := [vbase1]) 5 rfl 0 rfl (lb rfl))) F S rfl fun a F=>?_
 obtain ⟨y2, hy2, hm⟩ := bind_some hm
 refine wl_call0 (wn rfl) rfl F rfl (syntax_Merge_ok (fr := (fl [[bx b4 #[.i6 y1.2.2.Code, .i6 y1.2.2.Index] 26], [bx b3 #[v1] 24], c1, c2, [bx b2 #[vother1] 24], [bx b1 #[vbase1] 24]] fr)) base vbase1 (hbase1.mono l1) other vother1 (hother1.mono l1) base vbase1 (hbase1.mono l1) S hy2) rfl tc18 rfl rfl ?_; clear F a S
 rintro _ a w ⟨g2, v3, v4, c3, c4, l2, S, h3, h4, rfl⟩ F; replace S : St g2 [c3, c4, [bx b4 #[.i6 y1.2.2.Code, .i6 y1.2.2.Index] 26], [bx b3 #[v1] 24], c1, c2, [bx b2 #[vother1] 24], [bx b1 #[vbase1] 24]] fr w := S
 refine wE (ev_move rfl) F S rfl fun a F=>?_
 refine wE (ev_extract rfl rfl) F S rfl fun a F=>?_
 refine wE (ev_extract rfl rfl) F S rfl fun a F=>?_
 refine wE (ev_extract rfl rfl) F S rfl fun a F=>?_
 refine wl_alloc (wn rfl) rfl tz24 (cs := [nilS]) rfl F S rfl rfl ?_; clear F a S; rintro b5 a w F S
 refine wl_alloc (wn rfl) rfl tz26 (cs := [.i6 0, .i6 0]) rfl F S rfl rfl ?_; clear F a S; rintro b6 a w F S
 refine wl_storeC (wn rfl) rfl F S rfl rfl (vs := [v3]) rfl ts24 (one_cons (OwnS.one h3) one_nil) (k := 1) rfl (lb rfl) (c' := #[v3]) rfl rfl ?_; clear S; intro w S
 refine wE (ev_assign rfl) F S rfl fun a F=>?_
 refine wl_storeC (wn rfl) rfl F S rfl rfl (vs := [.i6 y2.2.2.Code, .i6 y2.2.2.Index]) rfl ts26 (one_cons rfl (one_cons rfl one_nil)) (k := 0) rfl (lb rfl) (c' := #[.i6 y2.2.2.Code, .i6 y2.2.2.Index]) rfl rfl ?_; clear S; intro w S
 refine wpList_nil ?_
 refine then_n ?_
 refine wp_seq ?_
 refine wp_region_lit ?_
 refine wE (ev_loadA tu24 rfl (cs := [vbase1]) ts24 rfl (box_ptr (cells := [vbase1]) 9 rfl 0 rfl (lb rfl))) F S rfl fun a F=>?_
 refine wE (ev_loadA tu24 rfl (cs := [vother1]) ts24 rfl (box_ptr (cells := [vother1]) 8 rfl 0 rfl (lb rfl))) F S rfl fun a F=>?_
 refine wE (ev_loadA tu24 rfl (cs := [vother1]) ts24 rfl (box_ptr (cells := [vother1]) 8 rfl 0 rfl (lb rfl))) F S rfl fun a F=>?_
 obtain ⟨y3, hy3, hm⟩ := bind_some hm
 refine wl_call0 (wn rfl) rfl F rfl (syntax_Merge_ok (fr := (fl [[bx b6 #[.i6 y2.2.2.Code, .i6 y2.2.2.Index] 26], [bx b5 #[v3] 24], c3, c4, [bx b4 #[.i6 y1.2.2.Code, .i6 y1.2.2.Index] 26], [bx b3 #[v1] 24], c1, c2, [bx b2 #[vother1] 24], [bx b1 #[vbase1] 24]] fr)) base vbase1 (hbase1.mono (l1.trans l2)) other vother1 (hother1.mono (l1.trans l2)) other vother1 (hother1.mono (l1.trans l2)) S hy3) rfl tc18 rfl rfl ?_; clear F a S
 rintro _ a w ⟨g3, v5, v6, c5, c6, l3, S, h5, h6, rfl⟩ F; replace S : St g3 [c5, c6, [bx b6 #[.i6 y2.2.2.Code, .i6 y2.2.2.Index] 26], [bx b5 #[v3] 24], c3, c4, [bx b4 #[.i6 y1.2.2.Code, .i6 y1.2.2.Index] 26], [bx b3 #[v1] 24], c1, c2, [bx b2 #[vother1] 24], [bx b1 #[vbase1] 24]] fr w := S
 refine wE (ev_move rfl) F S rfl fun a F=>?_
 refine wE (ev_extract rfl rfl) F S rfl fun a F=>?_
 refine wE (ev_extract rfl rfl) F S rfl fun a F=>?_
 refine wE (ev_extract rfl rfl) F S rfl fun a F=>?_
 refine wl_alloc (wn rfl) rfl tz24 (cs := [nilS]) rfl F S rfl rfl ?_; clear F a S; rintro b7 a w F S
 refine wl_alloc (wn rfl) rfl tz26 (cs := [.i6 0, .i6 0]) rfl F S rfl rfl ?_; clear F a S; rintro b8 a w F S
 refine wl_storeC (wn rfl) rfl F S rfl rfl (vs := [v5]) rfl ts24 (one_cons (OwnS.one h5) one_nil) (k := 1) rfl (lb rfl) (c' := #[v5]) rfl rfl ?_; clear S; intro w S
 refine wE (ev_assign rfl) F S rfl fun a F=>?_
 refine wl_storeC (wn rfl) rfl F S rfl rfl (vs := [.i6 y3.2.2.Code, .i6 y3.2.2.Index]) rfl ts26 (one_cons rfl (one_cons rfl one_nil)) (k := 0) rfl (lb rfl) (c' := #[.i6 y3.2.2.Code, .i6 y3.2.2.Index]) rfl rfl ?_; clear S; intro w S
 refine wpList_nil ?_
 refine then_n ?_
 refine wp_seq ?_
 refine wp_seq ?_
 refine wp_region_lit ?_
 refine wE (ev_loadA tu24 rfl (cs := [vbase1]) ts24 rfl (box_ptr (cells := [vbase1]) 13 rfl 0 rfl (lb rfl))) F S rfl fun a F=>?_
 obtain ⟨y4, hy4, hm⟩ := bind_some hm
 refine wl_call0 (wn rfl) rfl F rfl (syntax_Validate_ok (fr := (fl [[bx b8 #[.i6 y3.2.2.Code, .i6 y3.2.2.Index] 26], [bx b7 #[v5] 24], c5, c6, [bx b6 #[.i6 y2.2.2.Code, .i6 y2.2.2.Index] 26], [bx b5 #[v3] 24], c3, c4, [bx b4 #[.i6 y1.2.2.Code, .i6 y1.2.2.Index] 26], [bx b3 #[v1] 24], c1, c2, [bx b2 #[vother1] 24], [bx b1 #[vbase1] 24]] fr)) base vbase1 (hbase1.mono ((l1.trans l2).trans l3)) S hy4) rfl tc14 rfl rfl ?_; clear F a S
 rintro _ a w ⟨g4, l4, S, rfl⟩ F; replace S : St g4 [[bx b8 #[.i6 y3.2.2.Code, .i6 y3.2.2.Index] 26], [bx b7 #[v5] 24], c5, c6, [bx b6 #[.i6 y2.2.2.Code, .i6 y2.2.2.Index] 26], [bx b5 #[v3] 24], c3, c4, [bx b4 #[.i6 y1.2.2.Code, .i6 y1.2.2.Index] 26], [bx b3 #[v1] 24], c1, c2, [bx b2 #[vother1] 24], [bx b1 #[vbase1] 24]] fr w := S
 refine wE (ev_field1 tu26 tf26_0 tu3 rfl (cs := [.i6 y4.Code, .i6 y4.Index]) rfl rfl) F S rfl fun a F=>?_
 refine wE (ev_int rfl rfl (bo_neq _ _ _ _)) F S rfl fun a F=>?_
 refine wE (ev_move rfl) F S rfl fun a F=>?_
 obtain ⟨x1, hx1, hm⟩ := bind_some hm
 refine wl_cut 5 (fun a w => ∃ g5, Fr 106 a [(47, .bool x1), (12, v6), (13, bp b8 0), (11, bp b7 0), (9, v4), (10, bp b6 0), (8, bp b5 0), (6, v2), (7, bp b4 0), (5, bp b3 0), (3, bp b2 0)] ∧ Le g4 g5 ∧ St g5 [[bx b8 #[.i6 y3.2.2.Code, .i6 y3.2.2.Index] 26], [bx b7 #[v5] 24], c5, c6, [bx b6 #[.i6 y2.2.2.Code, .i6 y2.2.2.Index] 26], [bx b5 #[v3] 24], c3, c4, [bx b4 #[.i6 y1.2.2.Code, .i6 y1.2.2.Index] 26], [bx b3 #[v1] 24], c1, c2, [bx b2 #[vother1] 24], [bx b1 #[vbase1] 24]] fr w) ?_ ?_
 ·clear hm; obtain ⟨hc1, hm⟩ | ⟨hc1, hm⟩ := ite_or hx1
  ·refine wl_skip rfl rfl rfl rfl (ne_ft hc1) F rfl rfl ?_; clear F a; intro a F
   refine wl_skip rfl rfl rfl rfl (ne_ft hc1) F rfl rfl ?_; clear F a; intro a F
   refine wl_skip rfl rfl rfl rfl (ne_ft hc1) F rfl rfl ?_; clear F a; intro a F
   refine wl_skip rfl rfl rfl rfl (ne_ft hc1) F rfl rfl ?_; clear F a; intro a F
   refine wE (ev_pickT rfl hc1 rfl) F S rfl fun a F=>?_
   obtain rfl := sinj hm
   refine wpList_nil (then_n ?_); exact ⟨g4, F.sub ⟨rfl, rfl, rfl, rfl, rfl, rfl, rfl, rfl, rfl, rfl, rfl, trivial⟩, (Le.refl _), S⟩
  ·refine wl_ev (wg F rfl rfl rfl rfl hc1) (ev_loadA tu24 rfl (cs := [vother1]) ts24 rfl (box_ptr (cells := [vother1]) 12 rfl 0 rfl (lb rfl))) F S rfl rfl ?_; clear F a; intro a F
   obtain ⟨y5, hy5, hm⟩ := bind_some hm
   refine wl_call0 (wg F rfl rfl rfl rfl hc1) rfl F rfl (syntax_Validate_ok (fr := (fl [[bx b8 #[.i6 y3.2.2.Code, .i6 y3.2.2.Index] 26], [bx b7 #[v5] 24], c5, c6, [bx b6 #[.i6 y2.2.2.Code, .i6 y2.2.2.Index] 26], [bx b5 #[v3] 24], c3, c4, [bx b4 #[.i6 y1.2.2.Code, .i6 y1.2.2.Index] 26], [bx b3 #[v1] 24], c1, c2, [bx b2 #[vother1] 24], [bx b1 #[vbase1] 24]] fr)) other vother1 (hother1.mono (((l1.trans l2).trans l3).trans l4)) S hy5) rfl tc14 rfl rfl ?_; clear F a S
   rintro _ a w ⟨g6, l6, S, rfl⟩ F; replace S : St g6 [[bx b8 #[.i6 y3.2.2.Code, .i6 y3.2.2.Index] 26], [bx b7 #[v5] 24], c5, c6, [bx b6 #[.i6 y2.2.2.Code, .i6 y2.2.2.Index] 26], [bx b5 #[v3] 24], c3, c4, [bx b4 #[.i6 y1.2.2.Code, .i6 y1.2.2.Index] 26], [bx b3 #[v1] 24], c1, c2, [bx b2 #[vother1] 24], [bx b1 #[vbase1] 24]] fr w := S
   refine wl_ev (wg F rfl rfl rfl rfl hc1) (ev_field1 tu26 tf26_0 tu3 rfl (cs := [.i6 y5.Code, .i6 y5.Index]) rfl rfl) F S rfl rfl ?_; clear F a; intro a F
   refine wl_ev (wg F rfl rfl rfl rfl hc1) (ev_int rfl rfl (bo_neq _ _ _ _)) F S rfl rfl ?_; clear F a; intro a F
   refine wE (ev_pickF rfl hc1 rfl) F S rfl fun a F=>?_
   obtain rfl := sinj hm
   refine wpList_nil (then_n ?_); exact ⟨g6, F.sub ⟨rfl, rfl, rfl, rfl, rfl, rfl, rfl, rfl, rfl, rfl, rfl, trivial⟩, l6, S⟩
 clear F S; rintro a w ⟨g5, F, l5, S⟩
 refine wpList_nil ?_
 refine then_n ?_
 obtain ⟨hc2, hm⟩ | ⟨hc2, hm⟩ := ite_or hm
 ·refine wp_condT F rfl hc2 ?_
  refine wp_seq ?_
  refine wp_region_lit ?_
  refine wE (ev_fieldAddr' tu26 tf26_0 (z := 0) ts3 rfl ⟨_, rfl⟩ rfl) F S rfl fun a F=>?_
  refine wE (ev_load1 tu3 rfl rfl (box_ptr (cells := [.i6 y1.2.2.Code]) 8 rfl 0 rfl (lb rfl))) F S rfl fun a F=>?_
  refine wE (ev_int rfl rfl (bo_neq _ _ _ _)) F S rfl fun a F=>?_
  refine wE (ev_move rfl) F S rfl fun a F=>?_
  obtain ⟨x2, hx2, hm⟩ := bind_some hm
  refine wl_cut 4 (fun a w' => w = w' ∧ Fr 106 a [(55, .bool x2), (13, bp b8 0)]) ?_ ?_
  ·clear hm; obtain ⟨hc3, hm⟩ | ⟨hc3, hm⟩ := ite_or hx2
   ·refine wl_ev (wg F rfl rfl rfl rfl hc3) (ev_fieldAddr' tu26 tf26_0 (z := 0) ts3 rfl ⟨_, rfl⟩ rfl) F S rfl rfl ?_; clear F a; intro a F
    refine wl_ev (wg F rfl rfl rfl rfl hc3) (ev_load1 tu3 rfl rfl (box_ptr (cells := [.i6 y2.2.2.Code]) 4 rfl 0 rfl (lb rfl))) F S rfl rfl ?_; clear F a; intro a F
    refine wl_ev (wg F rfl rfl rfl rfl hc3) (ev_int rfl rfl (bo_neq _ _ _ _)) F S rfl rfl ?_; clear F a; intro a F
    refine wE (ev_pickT rfl hc3 rfl) F S rfl fun a F=>?_
    obtain rfl := sinj hm
    refine wpList_nil (then_n ?_); exact ⟨rfl, F.sub ⟨rfl, rfl, trivial⟩⟩
   ·refine wl_skip rfl rfl rfl rfl (ne_tf hc3) F rfl rfl ?_; clear F a; intro a F
    refine wl_skip rfl rfl rfl rfl (ne_tf hc3) F rfl rfl ?_; clear F a; intro a F
    refine wl_skip rfl rfl rfl rfl (ne_tf hc3) F rfl rfl ?_; clear F a; intro a F
    refine wE (ev_pickF rfl hc3 rfl) F S rfl fun a F=>?_
    obtain rfl := sinj hm
    refine wpList_nil (then_n ?_); exact ⟨rfl, F.sub ⟨rfl, rfl, trivial⟩⟩
  clear F; rintro a w' ⟨rfl, F⟩
  refine wE (ev_move rfl) F S rfl fun a F=>?_
  obtain ⟨x3, hx3, hm⟩ := bind_some hm
  refine wl_cut 4 (fun a w' => w = w' ∧ Fr 106 a [(60, .bool x3)]) ?_ ?_
  ·clear hm; obtain ⟨hc4, hm⟩ | ⟨hc4, hm⟩ := ite_or hx3
   ·refine wl_ev (wg F rfl rfl rfl rfl hc4) (ev_fieldAddr' tu26 tf26_0 (z := 0) ts3 rfl ⟨_, rfl⟩ rfl) F S rfl rfl ?_; clear F a; intro a F
    refine wl_ev (wg F rfl rfl rfl rfl hc4) (ev_load1 tu3 rfl rfl (box_ptr (cells := [.i6 y3.2.2.Code]) 0 rfl 0 rfl (lb rfl))) F S rfl rfl ?_; clear F a; intro a F
    refine wl_ev (wg F rfl rfl rfl rfl hc4) (ev_int rfl rfl (bo_neq _ _ _ _)) F S rfl rfl ?_; clear F a; intro a F
    refine wE (ev_pickT rfl hc4 rfl) F S rfl fun a F=>?_
    obtain rfl := sinj hm
    refine wpList_nil (then_n ?_); exact ⟨rfl, F.sub ⟨rfl, trivial⟩⟩
   ·refine wl_skip rfl rfl rfl rfl (ne_tf hc4) F rfl rfl ?_; clear F a; intro a F
    refine wl_skip rfl rfl rfl rfl (ne_tf hc4) F rfl rfl ?_; clear F a; intro a F
    refine wl_skip rfl rfl rfl rfl (ne_tf hc4) F rfl rfl ?_; clear F a; intro a F
    refine wE (ev_pickF rfl hc4 rfl) F S rfl fun a F=>?_
    obtain rfl := sinj hm
    refine wpList_nil (then_n ?_); exact ⟨rfl, F.sub ⟨rfl, trivial⟩⟩
  clear F; rintro a w' ⟨rfl, F⟩
  refine wE (ev_move rfl) F S rfl fun a F=>?_
  obtain ⟨x4, hx4, hm⟩ := bind_some hm
  refine wl_cut 2 (fun a w => ∃ g7, Fr 106 a [(63, .bool x4)] ∧ Le g5 g7 ∧ St g7 [[bx b8 #[.i6 y3.2.2.Code, .i6 y3.2.2.Index] 26], [bx b7 #[v5] 24], c5, c6, [bx b6 #[.i6 y2.2.2.Code, .i6 y2.2.2.Index] 26], [bx b5 #[v3] 24], c3, c4, [bx b4 #[.i6 y1.2.2.Code, .i6 y1.2.2.Index] 26], [bx b3 #[v1] 24], c1, c2, [bx b2 #[vother1] 24], [bx b1 #[vbase1] 24]] fr w) ?_ ?_
  ·clear hm; obtain ⟨hc5, hm⟩ | ⟨hc5, hm⟩ := ite_or hx4
   ·obtain ⟨y6, hy6, hm⟩ := bind_some hm
    refine wl_call0 (wg F rfl rfl rfl rfl hc5) rfl F rfl (changeforgelaw2_parsed_ok (fr := (fl [[bx b8 #[.i6 y3.2.2.Code, .i6 y3.2.2.Index] 26], [bx b7 #[v5] 24], c5, c6, [bx b6 #[.i6 y2.2.2.Code, .i6 y2.2.2.Index] 26], [bx b5 #[v3] 24], c3, c4, [bx b4 #[.i6 y1.2.2.Code, .i6 y1.2.2.Index] 26], [bx b3 #[v1] 24], c1, c2, [bx b2 #[vother1] 24], [bx b1 #[vbase1] 24]] fr))  S hy6) rfl tc16 rfl rfl ?_; clear F a S
    rintro _ a w ⟨g8, l8, S, rfl⟩ F; replace S : St g8 [[bx b8 #[.i6 y3.2.2.Code, .i6 y3.2.2.Index] 26], [bx b7 #[v5] 24], c5, c6, [bx b6 #[.i6 y2.2.2.Code, .i6 y2.2.2.Index] 26], [bx b5 #[v3] 24], c3, c4, [bx b4 #[.i6 y1.2.2.Code, .i6 y1.2.2.Index] 26], [bx b3 #[v1] 24], c1, c2, [bx b2 #[vother1] 24], [bx b1 #[vbase1] 24]] fr w := S
    refine wE (ev_pickT rfl hc5 rfl) F S rfl fun a F=>?_
    obtain rfl := sinj hm
    refine wpList_nil (then_n ?_); exact ⟨g8, F.sub ⟨rfl, trivial⟩, l8, S⟩
   ·refine wl_skip rfl rfl rfl rfl (ne_tf hc5) F rfl rfl ?_; clear F a; intro a F
    refine wE (ev_pickF rfl hc5 rfl) F S rfl fun a F=>?_
    obtain rfl := sinj hm
    refine wpList_nil (then_n ?_); exact ⟨g5, F.sub ⟨rfl, trivial⟩, (Le.refl _), S⟩
  clear F S; rintro a w ⟨g7, F, l7, S⟩
  refine wE (ev_assign rfl) F S rfl fun a F=>?_
  refine wpList_nil ?_
  refine then_n ?_
  refine wp_ret ?_
  refine then_r ?_
  obtain rfl := sinj hm
  refine post_r _ F rfl (ar_cons (resT rfl) ar_nil) ?_
  replace S : St g7 [] fr w := St.tail [] _ S
  exact ⟨_, rfl, g7, (((((l1.trans l2).trans l3).trans l4).trans l5).trans l7), S, rfl⟩
 ·refine wp_condF F rfl hc2 ?_
  refine wp_skip ?_
  refine then_n ?_
  refine wp_seq ?_
  refine wp_region_lit ?_
  refine wE (ev_fieldAddr' tu26 tf26_0 (z := 0) ts3 rfl ⟨_, rfl⟩ rfl) F S rfl fun a F=>?_
  refine wE (ev_load1 tu3 rfl rfl (box_ptr (cells := [.i6 y1.2.2.Code]) 8 rfl 0 rfl (lb rfl))) F S rfl fun a F=>?_
  refine wE (ev_int rfl rfl (bo_eql _ _ _ _)) F S rfl fun a F=>?_
  refine wE (ev_move rfl) F S rfl fun a F=>?_
  obtain ⟨x5, hx5, hm⟩ := bind_some hm
  refine wl_cut 4 (fun a w' => w = w' ∧ Fr 106 a [(71, .bool x5), (12, v6), (13, bp b8 0), (11, bp b7 0), (9, v4), (8, bp b5 0), (6, v2), (5, bp b3 0), (3, bp b2 0)]) ?_ ?_
  ·clear hm; obtain ⟨hc6, hm⟩ | ⟨hc6, hm⟩ := ite_or hx5
   ·refine wl_ev (wg F rfl rfl rfl rfl hc6) (ev_fieldAddr' tu26 tf26_0 (z := 0) ts3 rfl ⟨_, rfl⟩ rfl) F S rfl rfl ?_; clear F a; intro a F
    refine wl_ev (wg F rfl rfl rfl rfl hc6) (ev_load1 tu3 rfl rfl (box_ptr (cells := [.i6 y2.2.2.Code]) 4 rfl 0 rfl (lb rfl))) F S rfl rfl ?_; clear F a; intro a F
    refine wl_ev (wg F rfl rfl rfl rfl hc6) (ev_int rfl rfl (bo_eql _ _ _ _)) F S rfl rfl ?_; clear F a; intro a F
    refine wE (ev_pickT rfl hc6 rfl) F S rfl fun a F=>?_
    obtain rfl := sinj hm
    refine wpList_nil (then_n ?_); exact ⟨rfl, F.sub ⟨rfl, rfl, rfl, rfl, rfl, rfl, rfl, rfl, rfl, trivial⟩⟩
   ·refine wl_skip rfl rfl rfl rfl (ne_tf hc6) F rfl rfl ?_; clear F a; intro a F
    refine wl_skip rfl rfl rfl rfl (ne_tf hc6) F rfl rfl ?_; clear F a; intro a F
    refine wl_skip rfl rfl rfl rfl (ne_tf hc6) F rfl rfl ?_; clear F a; intro a F
    refine wE (ev_pickF rfl hc6 rfl) F S rfl fun a F=>?_
    obtain rfl := sinj hm
    refine wpList_nil (then_n ?_); exact ⟨rfl, F.sub ⟨rfl, rfl, rfl, rfl, rfl, rfl, rfl, rfl, rfl, trivial⟩⟩
  clear F; rintro a w' ⟨rfl, F⟩
  refine wE (ev_move rfl) F S rfl fun a F=>?_
  obtain ⟨x6, hx6, hm⟩ := bind_some hm
  refine wl_cut 4 (fun a w' => w = w' ∧ Fr 106 a [(76, .bool x6), (12, v6), (11, bp b7 0), (9, v4), (8, bp b5 0), (6, v2), (5, bp b3 0), (3, bp b2 0)]) ?_ ?_
  ·clear hm; obtain ⟨hc7, hm⟩ | ⟨hc7, hm⟩ := ite_or hx6
   ·refine wl_ev (wg F rfl rfl rfl rfl hc7) (ev_fieldAddr' tu26 tf26_0 (z := 0) ts3 rfl ⟨_, rfl⟩ rfl) F S rfl rfl ?_; clear F a; intro a F
    refine wl_ev (wg F rfl rfl rfl rfl hc7) (ev_load1 tu3 rfl rfl (box_ptr (cells := [.i6 y3.2.2.Code]) 0 rfl 0 rfl (lb rfl))) F S rfl rfl ?_; clear F a; intro a F
    refine wl_ev (wg F rfl rfl rfl rfl hc7) (ev_int rfl rfl (bo_eql _ _ _ _)) F S rfl rfl ?_; clear F a; intro a F
    refine wE (ev_pickT rfl hc7 rfl) F S rfl fun a F=>?_
    obtain rfl := sinj hm
    refine wpList_nil (then_n ?_); exact ⟨rfl, F.sub ⟨rfl, rfl, rfl, rfl, rfl, rfl, rfl, rfl, trivial⟩⟩
   ·refine wl_skip rfl rfl rfl rfl (ne_tf hc7) F rfl rfl ?_; clear F a; intro a F
    refine wl_skip rfl rfl rfl rfl (ne_tf hc7) F rfl rfl ?_; clear F a; intro a F
    refine wl_skip rfl rfl rfl rfl (ne_tf hc7) F rfl rfl ?_; clear F a; intro a F
    refine wE (ev_pickF rfl hc7 rfl) F S rfl fun a F=>?_
    obtain rfl := sinj hm
    refine wpList_nil (then_n ?_); exact ⟨rfl, F.sub ⟨rfl, rfl, rfl, rfl, rfl, rfl, rfl, rfl, trivial⟩⟩
  clear F; rintro a w' ⟨rfl, F⟩
  refine wE (ev_move rfl) F S rfl fun a F=>?_
  obtain ⟨g9, l9, S, h7⟩ : ∃ gz, Le g5 gz ∧ St gz [[bx b8 #[.i6 y3.2.2.Code, .i6 y3.2.2.Index] 26], [bx b7 #[v5] 24], c5, c6, [bx b6 #[.i6 y2.2.2.Code, .i6 y2.2.2.Index] 26], [bx b5 #[v3] 24], c3, c4, [bx b4 #[.i6 y1.2.2.Code, .i6 y1.2.2.Index] 26], [bx b3 #[v1] 24], c2, [bx b2 #[vother1] 24], [bx b1 #[vbase1] 24]] fr w ∧ RepSl gz y1.1.Nodes v1 := ⟨_, Le.add _ _, S.freeze 10 rfl, OwnS.freeze (S.front 10 rfl) (h1.mono (((l2.trans l3).trans l4).trans l5))⟩
  obtain ⟨x7, hx7, hm⟩ := bind_some hm
  refine wl_cut 4 (fun a w => ∃ g10, Fr 106 a [(81, .bool x7), (12, v6), (11, bp b7 0), (9, v4), (8, bp b5 0), (6, v2), (3, bp b2 0)] ∧ Le g9 g10 ∧ St g10 [[bx b8 #[.i6 y3.2.2.Code, .i6 y3.2.2.Index] 26], [bx b7 #[v5] 24], c5, c6, [bx b6 #[.i6 y2.2.2.Code, .i6 y2.2.2.Index] 26], [bx b5 #[v3] 24], c3, c4, [bx b4 #[.i6 y1.2.2.Code, .i6 y1.2.2.Index] 26], [bx b3 #[v1] 24], c2, [bx b2 #[vother1] 24], [bx b1 #[vbase1] 24]] fr w) ?_ ?_
  ·clear hm; obtain ⟨hc8, hm⟩ | ⟨hc8, hm⟩ := ite_or hx7
   ·refine wl_ev (wg F rfl rfl rfl rfl hc8) (ev_loadA tu24 rfl (cs := [v1]) ts24 rfl (box_ptr (cells := [v1]) 9 rfl 0 rfl (lb rfl))) F S rfl rfl ?_; clear F a; intro a F
    refine wl_ev (wg F rfl rfl rfl rfl hc8) (ev_loadA tu24 rfl (cs := [vother1]) ts24 rfl (box_ptr (cells := [vother1]) 11 rfl 0 rfl (lb rfl))) F S rfl rfl ?_; clear F a; intro a F
    obtain ⟨y7, hy7, hm⟩ := bind_some hm
    refine wl_call0 (wg F rfl rfl rfl rfl hc8) rfl F rfl (changeforgeequal_Syntax_ok (fr := (fl [[bx b8 #[.i6 y3.2.2.Code, .i6 y3.2.2.Index] 26], [bx b7 #[v5] 24], c5, c6, [bx b6 #[.i6 y2.2.2.Code, .i6 y2.2.2.Index] 26], [bx b5 #[v3] 24], c3, c4, [bx b4 #[.i6 y1.2.2.Code, .i6 y1.2.2.Index] 26], [bx b3 #[v1] 24], c2, [bx b2 #[vother1] 24], [bx b1 #[vbase1] 24]] fr)) y1.1 v1 h7 other vother1 (hother1.mono (((((l1.trans l2).trans l3).trans l4).trans l5).trans l9)) S hy7) rfl tc15 rfl rfl ?_; clear F a S
    rintro _ a w ⟨g11, l11, S, rfl⟩ F; replace S : St g11 [[bx b8 #[.i6 y3.2.2.Code, .i6 y3.2.2.Index] 26], [bx b7 #[v5] 24], c5, c6, [bx b6 #[.i6 y2.2.2.Code, .i6 y2.2.2.Index] 26], [bx b5 #[v3] 24], c3, c4, [bx b4 #[.i6 y1.2.2.Code, .i6 y1.2.2.Index] 26], [bx b3 #[v1] 24], c2, [bx b2 #[vother1] 24], [bx b1 #[vbase1] 24]] fr w := S
    refine wE (ev_pickT rfl hc8 rfl) F S rfl fun a F=>?_
    obtain rfl := sinj hm
    refine wpList_nil (then_n ?_); exact ⟨g11, F.sub ⟨rfl, rfl, rfl, rfl, rfl, rfl, rfl, trivial⟩, l11, S⟩
   ·refine wl_skip rfl rfl rfl rfl (ne_tf hc8) F rfl rfl ?_; clear F a; intro a F
    refine wl_skip rfl rfl rfl rfl (ne_tf hc8) F rfl rfl ?_; clear F a; intro a F
    refine wl_skip rfl rfl rfl rfl (ne_tf hc8) F rfl rfl ?_; clear F a; intro a F
    refine wE (ev_pickF rfl hc8 rfl) F S rfl fun a F=>?_
    obtain rfl := sinj hm
    refine wpList_nil (then_n ?_); exact ⟨g9, F.sub ⟨rfl, rfl, rfl, rfl, rfl, rfl, rfl, trivial⟩, (Le.refl _), S⟩
  clear F S; rintro a w ⟨g10, F, l10, S⟩
  refine wE (ev_move rfl) F S rfl fun a F=>?_
  obtain ⟨g12, l12, S, h8⟩ : ∃ gz, Le g10 gz ∧ St gz [[bx b8 #[.i6 y3.2.2.Code, .i6 y3.2.2.Index] 26], [bx b7 #[v5] 24], c5, c6, [bx b6 #[.i6 y2.2.2.Code, .i6 y2.2.2.Index] 26], [bx b5 #[v3] 24], c4, [bx b4 #[.i6 y1.2.2.Code, .i6 y1.2.2.Index] 26], [bx b3 #[v1] 24], c2, [bx b2 #[vother1] 24], [bx b1 #[vbase1] 24]] fr w ∧ RepSl gz y2.1.Nodes v3 := ⟨_, Le.add _ _, S.freeze 6 rfl, OwnS.freeze (S.front 6 rfl) (h3.mono ((((l3.trans l4).trans l5).trans l9).trans l10))⟩
  obtain ⟨x8, hx8, hm⟩ := bind_some hm
  refine wl_cut 4 (fun a w => ∃ g13, Fr 106 a [(86, .bool x8), (12, v6), (11, bp b7 0), (9, v4), (6, v2), (3, bp b2 0)] ∧ Le g12 g13 ∧ St g13 [[bx b8 #[.i6 y3.2.2.Code, .i6 y3.2.2.Index] 26], [bx b7 #[v5] 24], c5, c6, [bx b6 #[.i6 y2.2.2.Code, .i6 y2.2.2.Index] 26], [bx b5 #[v3] 24], c4, [bx b4 #[.i6 y1.2.2.Code, .i6 y1.2.2.Index] 26], [bx b3 #[v1] 24], c2, [bx b2 #[vother1] 24], [bx b1 #[vbase1] 24]] fr w) ?_ ?_
  ·clear hm; obtain ⟨hc9, hm⟩ | ⟨hc9, hm⟩ := ite_or hx8
   ·refine wl_ev (wg F rfl rfl rfl rfl hc9) (ev_loadA tu24 rfl (cs := [v3]) ts24 rfl (box_ptr (cells := [v3]) 5 rfl 0 rfl (lb rfl))) F S rfl rfl ?_; clear F a; intro a F
    refine wl_ev (wg F rfl rfl rfl rfl hc9) (ev_loadA tu24 rfl (cs := [vother1]) ts24 rfl (box_ptr (cells := [vother1]) 10 rfl 0 rfl (lb rfl))) F S rfl rfl ?_; clear F a; intro a F
    obtain ⟨y8, hy8, hm⟩ := bind_some hm
    refine wl_call0 (wg F rfl rfl rfl rfl hc9) rfl F rfl (changeforgeequal_Syntax_ok (fr := (fl [[bx b8 #[.i6 y3.2.2.Code, .i6 y3.2.2.Index] 26], [bx b7 #[v5] 24], c5, c6, [bx b6 #[.i6 y2.2.2.Code, .i6 y2.2.2.Index] 26], [bx b5 #[v3] 24], c4, [bx b4 #[.i6 y1.2.2.Code, .i6 y1.2.2.Index] 26], [bx b3 #[v1] 24], c2, [bx b2 #[vother1] 24], [bx b1 #[vbase1] 24]] fr)) y2.1 v3 h8 other vother1 (hother1.mono (((((((l1.trans l2).trans l3).trans l4).trans l5).trans l9).trans l10).trans l12)) S hy8) rfl tc15 rfl rfl ?_; clear F a S
    rintro _ a w ⟨g14, l14, S, rfl⟩ F; replace S : St g14 [[bx b8 #[.i6 y3.2.2.Code, .i6 y3.2.2.Index] 26], [bx b7 #[v5] 24], c5, c6, [bx b6 #[.i6 y2.2.2.Code, .i6 y2.2.2.Index] 26], [bx b5 #[v3] 24], c4, [bx b4 #[.i6 y1.2.2.Code, .i6 y1.2.2.Index] 26], [bx b3 #[v1] 24], c2, [bx b2 #[vother1] 24], [bx b1 #[vbase1] 24]] fr w := S
    refine wE (ev_pickT rfl hc9 rfl) F S rfl fun a F=>?_
    obtain rfl := sinj hm
    refine wpList_nil (then_n ?_); exact ⟨g14, F.sub ⟨rfl, rfl, rfl, rfl, rfl, rfl, trivial⟩, l14, S⟩
   ·refine wl_skip rfl rfl rfl rfl (ne_tf hc9) F rfl rfl ?_; clear F a; intro a F
    refine wl_skip rfl rfl rfl rfl (ne_tf hc9) F rfl rfl ?_; clear F a; intro a F
    refine wl_skip rfl rfl rfl rfl (ne_tf hc9) F rfl rfl ?_; clear F a; intro a F
    refine wE (ev_pickF rfl hc9 rfl) F S rfl fun a F=>?_
    obtain rfl := sinj hm
    refine wpList_nil (then_n ?_); exact ⟨g12, F.sub ⟨rfl, rfl, rfl, rfl, rfl, rfl, trivial⟩, (Le.refl _), S⟩
  clear F S; rintro a w ⟨g13, F, l13, S⟩
  refine wE (ev_move rfl) F S rfl fun a F=>?_
  obtain ⟨g15, l15, S, h9⟩ : ∃ gz, Le g13 gz ∧ St gz [[bx b8 #[.i6 y3.2.2.Code, .i6 y3.2.2.Index] 26], [bx b7 #[v5] 24], c6, [bx b6 #[.i6 y2.2.2.Code, .i6 y2.2.2.Index] 26], [bx b5 #[v3] 24], c4, [bx b4 #[.i6 y1.2.2.Code, .i6 y1.2.2.Index] 26], [bx b3 #[v1] 24], c2, [bx b2 #[vother1] 24], [bx b1 #[vbase1] 24]] fr w ∧ RepSl gz y3.1.Nodes v5 := ⟨_, Le.add _ _, S.freeze 2 rfl, OwnS.freeze (S.front 2 rfl) (h5.mono (((((l4.trans l5).trans l9).trans l10).trans l12).trans l13))⟩
  obtain ⟨x9, hx9, hm⟩ := bind_some hm
  refine wl_cut 4 (fun a w => ∃ g16, Fr 106 a [(91, .bool x9), (12, v6), (9, v4), (6, v2)] ∧ Le g15 g16 ∧ St g16 [[bx b8 #[.i6 y3.2.2.Code, .i6 y3.2.2.Index] 26], [bx b7 #[v5] 24], c6, [bx b6 #[.i6 y2.2.2.Code, .i6 y2.2.2.Index] 26], [bx b5 #[v3] 24], c4, [bx b4 #[.i6 y1.2.2.Code, .i6 y1.2.2.Index] 26], [bx b3 #[v1] 24], c2, [bx b2 #[vother1] 24], [bx b1 #[vbase1] 24]] fr w) ?_ ?_
  ·clear hm; obtain ⟨hc10, hm⟩ | ⟨hc10, hm⟩ := ite_or hx9
   ·refine wl_ev (wg F rfl rfl rfl rfl hc10) (ev_loadA tu24 rfl (cs := [v5]) ts24 rfl (box_ptr (cells := [v5]) 1 rfl 0 rfl (lb rfl))) F S rfl rfl ?_; clear F a; intro a F
    refine wl_ev (wg F rfl rfl rfl rfl hc10) (ev_loadA tu24 rfl (cs := [vother1]) ts24 rfl (box_ptr (cells := [vother1]) 9 rfl 0 rfl (lb rfl))) F S rfl rfl ?_; clear F a; intro a F
    obtain ⟨y9, hy9, hm⟩ := bind_some hm
    refine wl_call0 (wg F rfl rfl rfl rfl hc10) rfl F rfl (changeforgeequal_Syntax_ok (fr := (fl [[bx b8 #[.i6 y3.2.2.Code, .i6 y3.2.2.Index] 26], [bx b7 #[v5] 24], c6, [bx b6 #[.i6 y2.2.2.Code, .i6 y2.2.2.Index] 26], [bx b5 #[v3] 24], c4, [bx b4 #[.i6 y1.2.2.Code, .i6 y1.2.2.Index] 26], [bx b3 #[v1] 24], c2, [bx b2 #[vother1] 24], [bx b1 #[vbase1] 24]] fr)) y3.1 v5 h9 other vother1 (hother1.mono (((((((((l1.trans l2).trans l3).trans l4).trans l5).trans l9).trans l10).trans l12).trans l13).trans l15)) S hy9) rfl tc15 rfl rfl ?_; clear F a S
    rintro _ a w ⟨g17, l17, S, rfl⟩ F; replace S : St g17 [[bx b8 #[.i6 y3.2.2.Code, .i6 y3.2.2.Index] 26], [bx b7 #[v5] 24], c6, [bx b6 #[.i6 y2.2.2.Code, .i6 y2.2.2.Index] 26], [bx b5 #[v3] 24], c4, [bx b4 #[.i6 y1.2.2.Code, .i6 y1.2.2.Index] 26], [bx b3 #[v1] 24], c2, [bx b2 #[vother1] 24], [bx b1 #[vbase1] 24]] fr w := S
    refine wE (ev_pickT rfl hc10 rfl) F S rfl fun a F=>?_
    obtain rfl := sinj hm
    refine wpList_nil (then_n ?_); exact ⟨g17, F.sub ⟨rfl, rfl, rfl, rfl, trivial⟩, l17, S⟩
   ·refine wl_skip rfl rfl rfl rfl (ne_tf hc10) F rfl rfl ?_; clear F a; intro a F
    refine wl_skip rfl rfl rfl rfl (ne_tf hc10) F rfl rfl ?_; clear F a; intro a F
    refine wl_skip rfl rfl rfl rfl (ne_tf hc10) F rfl rfl ?_; clear F a; intro a F
    refine wE (ev_pickF rfl hc10 rfl) F S rfl fun a F=>?_
    obtain rfl := sinj hm
    refine wpList_nil (then_n ?_); exact ⟨g15, F.sub ⟨rfl, rfl, rfl, rfl, trivial⟩, (Le.refl _), S⟩
  clear F S; rintro a w ⟨g16, F, l16, S⟩
  refine wE (ev_move rfl) F S rfl fun a F=>?_
  obtain ⟨x10, hx10, hm⟩ := bind_some hm
  refine wl_cut 10 (fun a w' => w = w' ∧ Fr 106 a [(102, .bool x10)]) ?_ ?_
  ·clear hm; obtain ⟨hc11, hm⟩ | ⟨hc11, hm⟩ := ite_or hx10
   ·refine wl_ev (wg F rfl rfl rfl rfl hc11) (ev_move rfl) F S rfl rfl ?_; clear F a; intro a F
    refine wl_ev (wg F rfl rfl rfl rfl hc11) (ev_lenOw h2 rfl tu38) F S rfl rfl ?_; clear F a; intro a F
    refine wl_ev (wg F rfl rfl rfl rfl hc11) (ev_move rfl) F S rfl rfl ?_; clear F a; intro a F
    refine wl_ev (wg F rfl rfl rfl rfl hc11) (ev_lenOw h4 rfl tu38) F S rfl rfl ?_; clear F a; intro a F
    obtain ⟨z1, hz1, hm⟩ := bind_some hm
    refine wl_ev (wg F rfl rfl rfl rfl hc11) (ev_int rfl rfl (bo_add hz1)) F S rfl rfl ?_; clear F a; intro a F
    refine wl_ev (wg F rfl rfl rfl rfl hc11) (ev_move rfl) F S rfl rfl ?_; clear F a; intro a F
    refine wl_ev (wg F rfl rfl rfl rfl hc11) (ev_lenOw h6 rfl tu38) F S rfl rfl ?_; clear F a; intro a F
    obtain ⟨z2, hz2, hm⟩ := bind_some hm
    refine wl_ev (wg F rfl rfl rfl rfl hc11) (ev_int rfl rfl (bo_add hz2)) F S rfl rfl ?_; clear F a; intro a F
    refine wl_ev (wg F rfl rfl rfl rfl hc11) (ev_int rfl rfl (bo_eql _ _ _ _)) F S rfl rfl ?_; clear F a; intro a F
    refine wE (ev_pickT rfl hc11 rfl) F S rfl fun a F=>?_
    obtain rfl := sinj hm
    refine wpList_nil (then_n ?_); exact ⟨rfl, F.sub ⟨rfl, trivial⟩⟩
   ·refine wl_skip rfl rfl rfl rfl (ne_tf hc11) F rfl rfl ?_; clear F a; intro a F
    refine wl_skip rfl rfl rfl rfl (ne_tf hc11) F rfl rfl ?_; clear F a; intro a F
    refine wl_skip rfl rfl rfl rfl (ne_tf hc11) F rfl rfl ?_; clear F a; intro a F
    refine wl_skip rfl rfl rfl rfl (ne_tf hc11) F rfl rfl ?_; clear F a; intro a F
    refine wl_skip rfl rfl rfl rfl (ne_tf hc11) F rfl rfl ?_; clear F a; intro a F
    refine wl_skip rfl rfl rfl rfl (ne_tf hc11) F rfl rfl ?_; clear F a; intro a F
    refine wl_skip rfl rfl rfl rfl (ne_tf hc11) F rfl rfl ?_; clear F a; intro a F
    refine wl_skip rfl rfl rfl rfl (ne_tf hc11) F rfl rfl ?_; clear F a; intro a F
    refine wl_skip rfl rfl rfl rfl (ne_tf hc11) F rfl rfl ?_; clear F a; intro a F
    refine wE (ev_pickF rfl hc11 rfl) F S rfl fun a F=>?_
    obtain rfl := sinj hm
    refine wpList_nil (then_n ?_); exact ⟨rfl, F.sub ⟨rfl, trivial⟩⟩
  clear F; rintro a w' ⟨rfl, F⟩
  refine wE (ev_move rfl) F S rfl fun a F=>?_
  obtain ⟨x11, hx11, hm⟩ := bind_some hm
  refine wl_cut 2 (fun a w => ∃ g18, Fr 106 a [(105, .bool x11)] ∧ Le g16 g18 ∧ St g18 [[bx b8 #[.i6 y3.2.2.Code, .i6 y3.2.2.Index] 26], [bx b7 #[v5] 24], c6, [bx b6 #[.i6 y2.2.2.Code, .i6 y2.2.2.Index] 26], [bx b5 #[v3] 24], c4, [bx b4 #[.i6 y1.2.2.Code, .i6 y1.2.2.Index] 26], [bx b3 #[v1] 24], c2, [bx b2 #[vother1] 24], [bx b1 #[vbase1] 24]] fr w) ?_ ?_
  ·clear hm; obtain ⟨hc12, hm⟩ | ⟨hc12, hm⟩ := ite_or hx11
   ·obtain ⟨y10, hy10, hm⟩ := bind_some hm
    refine wl_call0 (wg F rfl rfl rfl rfl hc12) rfl F rfl (changeforgelaw2_parsed_ok (fr := (fl [[bx b8 #[.i6 y3.2.2.Code, .i6 y3.2.2.Index] 26], [bx b7 #[v5] 24], c6, [bx b6 #[.i6 y2.2.2.Code, .i6 y2.2.2.Index] 26], [bx b5 #[v3] 24], c4, [bx b4 #[.i6 y1.2.2.Code, .i6 y1.2.2.Index] 26], [bx b3 #[v1] 24], c2, [bx b2 #[vother1] 24], [bx b1 #[vbase1] 24]] fr))  S hy10) rfl tc16 rfl rfl ?_; clear F a S
    rintro _ a w ⟨g19, l19, S, rfl⟩ F; replace S : St g19 [[bx b8 #[.i6 y3.2.2.Code, .i6 y3.2.2.Index] 26], [bx b7 #[v5] 24], c6, [bx b6 #[.i6 y2.2.2.Code, .i6 y2.2.2.Index] 26], [bx b5 #[v3] 24], c4, [bx b4 #[.i6 y1.2.2.Code, .i6 y1.2.2.Index] 26], [bx b3 #[v1] 24], c2, [bx b2 #[vother1] 24], [bx b1 #[vbase1] 24]] fr w := S
    refine wE (ev_pickT rfl hc12 rfl) F S rfl fun a F=>?_
    obtain rfl := sinj hm
    refine wpList_nil (then_n ?_); exact ⟨g19, F.sub ⟨rfl, trivial⟩, l19, S⟩
   ·refine wl_skip rfl rfl rfl rfl (ne_tf hc12) F rfl rfl ?_; clear F a; intro a F
    refine wE (ev_pickF rfl hc12 rfl) F S rfl fun a F=>?_
    obtain rfl := sinj hm
    refine wpList_nil (then_n ?_); exact ⟨g16, F.sub ⟨rfl, trivial⟩, (Le.refl _), S⟩
  clear F S; rintro a w ⟨g18, F, l18, S⟩
  refine wE (ev_assign rfl) F S rfl fun a F=>?_
  refine wpList_nil ?_
  refine then_n ?_
  refine wp_ret ?_
  obtain rfl := sinj hm
  refine post_r _ F rfl (ar_cons (resT rfl) ar_nil) ?_
  replace S : St g18 [] fr w := St.tail [] _ S
  exact ⟨_, rfl, g18, (((((((((((l1.trans l2).trans l3).trans l4).trans l5).trans l9).trans l10).trans l12).trans l13).trans l15).trans l16).trans l18), S, rfl⟩
end Go.Dc
