/- Walks: each function comes to what its model says. -/
import Derived.Test.YthknfnjdnclphaaDcTab
import Derived.Test.YthknfnjdnclphaaDcM
import Derived.Test.YthknfnjdnclphaaDcW3
import Derived.Test.YthknfnjdnclphaaDcW5
import Derived.Test.YthknfnjdnclphaaDcW6
namespace Go.Dc
open Go Go.Proofs
set_option maxRecDepth 100000
set_option maxHeartbeats 4000000
set_option linter.unusedVariables false
theorem changeforgelaw2_TablepatchMergeMatchesSpec_ok {g : Gh} {fr : Hl} {w : World} {r : Bool} (base : Table) (vbase1 : Value) (hbase1 : RepSl g base.Columns vbase1) (vbase2 : Value) (hbase2 : RepSl g base.Rows vbase2) (left : Table) (vleft1 : Value) (hleft1 : RepSl g left.Columns vleft1) (vleft2 : Value) (hleft2 : RepSl g left.Rows vleft2) (right : Table) (vright1 : Value) (hright1 : RepSl g right.Columns vright1) (vright2 : Value) (hright2 : RepSl g right.Rows vright2) (S : St g [] fr w) (hm : changeforgelaw2_TablepatchMergeMatchesSpec base left right = some r) :
  Calls Try.prog 3 [.agg #[vbase1, vbase2], .agg #[vleft1, vleft2], .agg #[vright1, vright2]].toArray w (fun en w' => ∃ v, en = .returned v ∧ ∃ (g' : Gh), Le g g' ∧ St g' [] fr w' ∧ .bool r = v) := by
 unfold changeforgelaw2_TablepatchMergeMatchesSpec at hm
 refine calls_enter (fn := Try.f3) Try.func3 rfl Try.ntmps3 (lb rfl) ?_
 intro a F
 replace F : Fr 45 a [(0, .agg #[vbase1, vbase2]), (1, .agg #[vleft1, vleft2]), (2, .agg #[vright1, vright2])] := F
 refine wp_seq ?_
 refine wp_region_lit ?_
 refine wl_boxC (wn rfl) rfl rfl rfl F S rfl rfl ?_; clear F a S; rintro b1 a w F S
 refine wl_boxC (wn rfl) rfl rfl rfl F S rfl rfl ?_; clear F a S; rintro b2 a w F S
 refine wl_boxC (wn rfl) rfl rfl rfl F S rfl rfl ?_; clear F a S; rintro b3 a w F S
 refine wE (ev_assign rfl) F S rfl fun a F=>?_
 refine wpList_nil ?_
 refine then_n ?_
 refine wp_seq ?_
 refine wp_region_lit ?_
 refine wE (ev_loadA tu25 rfl (cs := [vbase1, vbase2]) ts25 rfl (box_ptr (cells := [vbase1, vbase2]) 2 rfl 0 rfl (lb rfl))) F S rfl fun a F=>?_
 refine wE (ev_loadA tu25 rfl (cs := [vleft1, vleft2]) ts25 rfl (box_ptr (cells := [vleft1, vleft2]) 1 rfl 0 rfl (lb rfl))) F S rfl fun a F=>?_
 refine wE (ev_loadA tu25 rfl (cs := [vright1, vright2]) ts25 rfl (box_ptr (cells := [vright1, vright2]) 0 rfl 0 rfl (lb rfl))) F S rfl fun a F=>?_
 obtain ⟨y1, hy1, hm⟩ := bind_some hm
 refine wl_call0 (wn rfl) rfl F rfl (tablepatch_Merge_ok (fr := (fl [[bx b3 #[vright1, vright2] 25], [bx b2 #[vleft1, vleft2] 25], [bx b1 #[vbase1, vbase2] 25]] fr)) base vbase1 hbase1 vbase2 hbase2 left vleft1 hleft1 vleft2 hleft2 right vright1 hright1 vright2 hright2 S hy1) rfl tc10 rfl rfl ?_; clear F a S
 rintro _ a w ⟨g1, v1, v2, v3, c1, c2, c3, l1, S, h1, h2, h3, rfl⟩ F; replace S : St g1 [c1, c2, c3, [bx b3 #[vright1, vright2] 25], [bx b2 #[vleft1, vleft2] 25], [bx b1 #[vbase1, vbase2] 25]] fr w := S
 refine wE (ev_move rfl) F S rfl fun a F=>?_
 refine wE (ev_extract rfl rfl) F S rfl fun a F=>?_
 refine wE (ev_extract rfl rfl) F S rfl fun a F=>?_
 refine wE (ev_extract rfl rfl) F S rfl fun a F=>?_
 refine wl_alloc (wn rfl) rfl tz25 (cs := [nilS, nilS]) rfl F S rfl rfl ?_; clear F a S; rintro b4 a w F S
 refine wl_alloc (wn rfl) rfl tz28 (cs := [.i6 0, .i6 0]) rfl F S rfl rfl ?_; clear F a S; rintro b5 a w F S
 refine wl_storeC (wn rfl) rfl F S rfl rfl (vs := [v1, v2]) rfl ts25 (one_cons (OwnS.one h1) (one_cons (OwnS.one h2) one_nil)) (k := 1) rfl (lb rfl) (c' := #[v1, v2]) rfl rfl ?_; clear S; intro w S
 refine wE (ev_assign rfl) F S rfl fun a F=>?_
 refine wl_storeC (wn rfl) rfl F S rfl rfl (vs := [.i6 y1.2.2.Code, .i6 y1.2.2.Index]) rfl ts28 (one_cons rfl (one_cons rfl one_nil)) (k := 0) rfl (lb rfl) (c' := #[.i6 y1.2.2.Code, .i6 y1.2.2.Index]) rfl rfl ?_; clear S; intro w S
 refine wpList_nil ?_
 refine then_n ?_
 refine wp_seq ?_
 refine wp_region_lit ?_
 refine wE (ev_loadA tu25 rfl (cs := [vbase1, vbase2]) ts25 rfl (box_ptr (cells := [vbase1, vbase2]) 7 rfl 0 rfl (lb rfl))) F S rfl fun a F=>?_
 refine wE (ev_loadA tu25 rfl (cs := [vleft1, vleft2]) ts25 rfl (box_ptr (cells := [vleft1, vleft2]) 6 rfl 0 rfl (lb rfl))) F S rfl fun a F=>?_
 refine wE (ev_loadA tu25 rfl (cs := [vright1, vright2]) ts25 rfl (box_ptr (cells := [vright1, vright2]) 5 rfl 0 rfl (lb rfl))) F S rfl fun a F=>?_
 obtain ⟨y2, hy2, hm⟩ := bind_some hm
 refine wl_call0 (wn rfl) rfl F rfl (changeforgeref2_MergeTables_ok (fr := (fl [[bx b5 #[.i6 y1.2.2.Code, .i6 y1.2.2.Index] 28], [bx b4 #[v1, v2] 25], c1, c2, c3, [bx b3 #[vright1, vright2] 25], [bx b2 #[vleft1, vleft2] 25], [bx b1 #[vbase1, vbase2] 25]] fr)) base vbase1 (hbase1.mono l1) vbase2 (hbase2.mono l1) left vleft1 (hleft1.mono l1) vleft2 (hleft2.mono l1) right vright1 (hright1.mono l1) vright2 (hright2.mono l1) S hy2) rfl tc11 rfl rfl ?_; clear F a S
 rintro _ a w ⟨g2, v4, v5, v6, c4, c5, l2, S, h4, h5, h6, rfl⟩ F; replace S : St g2 [c4, c5, [bx b5 #[.i6 y1.2.2.Code, .i6 y1.2.2.Index] 28], [bx b4 #[v1, v2] 25], c1, c2, c3, [bx b3 #[vright1, vright2] 25], [bx b2 #[vleft1, vleft2] 25], [bx b1 #[vbase1, vbase2] 25]] fr w := S
 refine wE (ev_move rfl) F S rfl fun a F=>?_
 refine wE (ev_extract rfl rfl) F S rfl fun a F=>?_
 refine wE (ev_extract rfl rfl) F S rfl fun a F=>?_
 refine wE (ev_extract rfl rfl) F S rfl fun a F=>?_
 refine wl_alloc (wn rfl) rfl tz25 (cs := [nilS, nilS]) rfl F S rfl rfl ?_; clear F a S; rintro b6 a w F S
 refine wl_alloc (wn rfl) rfl tz28 (cs := [.i6 0, .i6 0]) rfl F S rfl rfl ?_; clear F a S; rintro b7 a w F S
 refine wl_storeC (wn rfl) rfl F S rfl rfl (vs := [v4, v5]) rfl ts25 (one_cons h4.one (one_cons (OwnS.one h5) one_nil)) (k := 1) rfl (lb rfl) (c' := #[v4, v5]) rfl rfl ?_; clear S; intro w S
 refine wE (ev_assign rfl) F S rfl fun a F=>?_
 refine wl_storeC (wn rfl) rfl F S rfl rfl (vs := [.i6 y2.2.2.Code, .i6 y2.2.2.Index]) rfl ts28 (one_cons rfl (one_cons rfl one_nil)) (k := 0) rfl (lb rfl) (c' := #[.i6 y2.2.2.Code, .i6 y2.2.2.Index]) rfl rfl ?_; clear S; intro w S
 refine wpList_nil ?_
 refine then_n ?_
 refine wp_seq ?_
 refine wp_region_lit ?_
 refine wE (ev_loadA tu25 rfl (cs := [v1, v2]) ts25 rfl (box_ptr (cells := [v1, v2]) 5 rfl 0 rfl (lb rfl))) F S rfl fun a F=>?_
 refine wE (ev_loadA tu25 rfl (cs := [v4, v5]) ts25 rfl (box_ptr (cells := [v4, v5]) 1 rfl 0 rfl (lb rfl))) F S rfl fun a F=>?_
 obtain ⟨g3, l3, S, h7⟩ : ∃ gz, Le g2 gz ∧ St gz [[bx b7 #[.i6 y2.2.2.Code, .i6 y2.2.2.Index] 28], [bx b6 #[v4, v5] 25], c4, c5, [bx b5 #[.i6 y1.2.2.Code, .i6 y1.2.2.Index] 28], [bx b4 #[v1, v2] 25], c2, c3, [bx b3 #[vright1, vright2] 25], [bx b2 #[vleft1, vleft2] 25], [bx b1 #[vbase1, vbase2] 25]] fr w ∧ RepSl gz y1.1.Columns v1 := ⟨_, Le.add _ _, S.freeze 6 rfl, OwnS.freeze (S.front 6 rfl) (h1.mono l2)⟩
 obtain ⟨g4, l4, S, h8⟩ : ∃ gz, Le g3 gz ∧ St gz [[bx b7 #[.i6 y2.2.2.Code, .i6 y2.2.2.Index] 28], [bx b6 #[v4, v5] 25], c4, c5, [bx b5 #[.i6 y1.2.2.Code, .i6 y1.2.2.Index] 28], [bx b4 #[v1, v2] 25], c3, [bx b3 #[vright1, vright2] 25], [bx b2 #[vleft1, vleft2] 25], [bx b1 #[vbase1, vbase2] 25]] fr w ∧ RepSl gz y1.1.Rows v2 := ⟨_, Le.add _ _, S.freeze 6 rfl, OwnS.freeze (S.front 6 rfl) (h2.mono (l2.trans l3))⟩
 obtain ⟨g5, l5, S, h9⟩ : ∃ gz, Le g4 gz ∧ St gz [[bx b7 #[.i6 y2.2.2.Code, .i6 y2.2.2.Index] 28], [bx b6 #[v4, v5] 25], c5, [bx b5 #[.i6 y1.2.2.Code, .i6 y1.2.2.Index] 28], [bx b4 #[v1, v2] 25], c3, [bx b3 #[vright1, vright2] 25], [bx b2 #[vleft1, vleft2] 25], [bx b1 #[vbase1, vbase2] 25]] fr w ∧ RepSl gz y2.1.Rows v5 := ⟨_, Le.add _ _, S.freeze 2 rfl, OwnS.freeze (S.front 2 rfl) (h5.mono (l3.trans l4))⟩
 obtain ⟨y3, hy3, hm⟩ := bind_some hm
 refine wl_call0 (wn rfl) rfl F rfl (changeforgeequal_Table_ok (fr := (fl [[bx b7 #[.i6 y2.2.2.Code, .i6 y2.2.2.Index] 28], [bx b6 #[v4, v5] 25], c5, [bx b5 #[.i6 y1.2.2.Code, .i6 y1.2.2.Index] 28], [bx b4 #[v1, v2] 25], c3, [bx b3 #[vright1, vright2] 25], [bx b2 #[vleft1, vleft2] 25], [bx b1 #[vbase1, vbase2] 25]] fr)) y1.1 v1 (h7.mono (l4.trans l5)) v2 (h8.mono l5) y2.1 v4 (h4.mono ((l3.trans l4).trans l5)) v5 h9 S hy3) rfl tc12 rfl rfl ?_; clear F a S
 rintro _ a w ⟨g6, l6, S, rfl⟩ F; replace S : St g6 [[bx b7 #[.i6 y2.2.2.Code, .i6 y2.2.2.Index] 28], [bx b6 #[v4, v5] 25], c5, [bx b5 #[.i6 y1.2.2.Code, .i6 y1.2.2.Index] 28], [bx b4 #[v1, v2] 25], c3, [bx b3 #[vright1, vright2] 25], [bx b2 #[vleft1, vleft2] 25], [bx b1 #[vbase1, vbase2] 25]] fr w := S
 refine wE (ev_move rfl) F S rfl fun a F=>?_
 obtain ⟨g7, l7, S, h10⟩ : ∃ gz, Le g6 gz ∧ St gz [[bx b7 #[.i6 y2.2.2.Code, .i6 y2.2.2.Index] 28], [bx b6 #[v4, v5] 25], [bx b5 #[.i6 y1.2.2.Code, .i6 y1.2.2.Index] 28], [bx b4 #[v1, v2] 25], c3, [bx b3 #[vright1, vright2] 25], [bx b2 #[vleft1, vleft2] 25], [bx b1 #[vbase1, vbase2] 25]] fr w ∧ RepSl gz y2.2.1 v6 := ⟨_, Le.add _ _, S.freeze 2 rfl, OwnS.freeze (S.front 2 rfl) (h6.mono (((l3.trans l4).trans l5).trans l6))⟩
 obtain ⟨g8, l8, S, h11⟩ : ∃ gz, Le g7 gz ∧ St gz [[bx b7 #[.i6 y2.2.2.Code, .i6 y2.2.2.Index] 28], [bx b6 #[v4, v5] 25], [bx b5 #[.i6 y1.2.2.Code, .i6 y1.2.2.Index] 28], [bx b4 #[v1, v2] 25], [bx b3 #[vright1, vright2] 25], [bx b2 #[vleft1, vleft2] 25], [bx b1 #[vbase1, vbase2] 25]] fr w ∧ RepSl gz y1.2.1 v3 := ⟨_, Le.add _ _, S.freeze 4 rfl, OwnS.freeze (S.front 4 rfl) (h3.mono (((((l2.trans l3).trans l4).trans l5).trans l6).trans l7))⟩
 obtain ⟨x1, hx1, hm⟩ := bind_some hm
 refine wl_cut 4 (fun a w => ∃ g9, Fr 45 a [(36, .bool x1), (12, bp b7 0), (9, bp b5 0), (6, .bool false)] ∧ Le g8 g9 ∧ St g9 [[bx b7 #[.i6 y2.2.2.Code, .i6 y2.2.2.Index] 28], [bx b6 #[v4, v5] 25], [bx b5 #[.i6 y1.2.2.Code, .i6 y1.2.2.Index] 28], [bx b4 #[v1, v2] 25], [bx b3 #[vright1, vright2] 25], [bx b2 #[vleft1, vleft2] 25], [bx b1 #[vbase1, vbase2] 25]] fr w) ?_ ?_
 ·clear hm; obtain ⟨hc1, hm⟩ | ⟨hc1, hm⟩ := ite_or hx1
  ·refine wl_ev (wg F rfl rfl rfl rfl hc1) (ev_move rfl) F S rfl rfl ?_; clear F a; intro a F
   refine wl_ev (wg F rfl rfl rfl rfl hc1) (ev_move rfl) F S rfl rfl ?_; clear F a; intro a F
   obtain ⟨y4, hy4, hm⟩ := bind_some hm
   refine wl_call0 (wg F rfl rfl rfl rfl hc1) rfl F rfl (changeforgeequal_Cells_ok (fr := (fl [[bx b7 #[.i6 y2.2.2.Code, .i6 y2.2.2.Index] 28], [bx b6 #[v4, v5] 25], [bx b5 #[.i6 y1.2.2.Code, .i6 y1.2.2.Index] 28], [bx b4 #[v1, v2] 25], [bx b3 #[vright1, vright2] 25], [bx b2 #[vleft1, vleft2] 25], [bx b1 #[vbase1, vbase2] 25]] fr)) y1.2.1 v3 h11 y2.2.1 v6 (h10.mono l8) S hy4) rfl tc13 rfl rfl ?_; clear F a S
   rintro _ a w ⟨g10, l10, S, rfl⟩ F; replace S : St g10 [[bx b7 #[.i6 y2.2.2.Code, .i6 y2.2.2.Index] 28], [bx b6 #[v4, v5] 25], [bx b5 #[.i6 y1.2.2.Code, .i6 y1.2.2.Index] 28], [bx b4 #[v1, v2] 25], [bx b3 #[vright1, vright2] 25], [bx b2 #[vleft1, vleft2] 25], [bx b1 #[vbase1, vbase2] 25]] fr w := S
   refine wE (ev_pickT rfl hc1 rfl) F S rfl fun a F=>?_
   obtain rfl := sinj hm
   refine wpList_nil (then_n ?_); exact ⟨g10, F.sub ⟨rfl, rfl, rfl, rfl, trivial⟩, l10, S⟩
  ·refine wl_skip rfl rfl rfl rfl (ne_tf hc1) F rfl rfl ?_; clear F a; intro a F
   refine wl_skip rfl rfl rfl rfl (ne_tf hc1) F rfl rfl ?_; clear F a; intro a F
   refine wl_skip rfl rfl rfl rfl (ne_tf hc1) F rfl rfl ?_; clear F a; intro a F
   refine wE (ev_pickF rfl hc1 rfl) F S rfl fun a F=>?_
   obtain rfl := sinj hm
   refine wpList_nil (then_n ?_); exact ⟨g8, F.sub ⟨rfl, rfl, rfl, rfl, trivial⟩, (Le.refl _), S⟩
 clear F S; rintro a w ⟨g9, F, l9, S⟩
 refine wE (ev_move rfl) F S rfl fun a F=>?_
 obtain ⟨x2, hx2, hm⟩ := bind_some hm
 refine wl_cut 4 (fun a w' => w = w' ∧ Fr 45 a [(41, .bool x2), (6, .bool false)]) ?_ ?_
 ·clear hm; obtain ⟨hc2, hm⟩ | ⟨hc2, hm⟩ := ite_or hx2
  ·refine wl_ev (wg F rfl rfl rfl rfl hc2) (ev_loadA tu28 rfl (cs := [.i6 y1.2.2.Code, .i6 y1.2.2.Index]) ts28 rfl (box_ptr (cells := [.i6 y1.2.2.Code, .i6 y1.2.2.Index]) 2 rfl 0 rfl (lb rfl))) F S rfl rfl ?_; clear F a; intro a F
   refine wl_ev (wg F rfl rfl rfl rfl hc2) (ev_loadA tu28 rfl (cs := [.i6 y2.2.2.Code, .i6 y2.2.2.Index]) ts28 rfl (box_ptr (cells := [.i6 y2.2.2.Code, .i6 y2.2.2.Index]) 0 rfl 0 rfl (lb rfl))) F S rfl rfl ?_; clear F a; intro a F
   refine wl_ev (wg F rfl rfl rfl rfl hc2) (ev_eqS tu28 tqa28 tqb28 tqc28 (xs := [.i6 y1.2.2.Code, .i6 y1.2.2.Index]) (ys := [.i6 y2.2.2.Code, .i6 y2.2.2.Index]) rfl rfl ⟨_, _, rfl, by decide, ⟨_, _, rfl, rfl, leaf_int tu3⟩, ⟨_, _, rfl, by decide, ⟨_, _, rfl, rfl, leaf_int tu3⟩, rfl⟩⟩) F S rfl rfl ?_; clear F a; intro a F
   refine wE (ev_pickT rfl hc2 rfl) F S rfl fun a F=>?_
   obtain rfl := sinj hm
   refine wpList_nil (then_n ?_); exact ⟨rfl, F.sub ⟨rfl, rfl, trivial⟩⟩
  ·refine wl_skip rfl rfl rfl rfl (ne_tf hc2) F rfl rfl ?_; clear F a; intro a F
   refine wl_skip rfl rfl rfl rfl (ne_tf hc2) F rfl rfl ?_; clear F a; intro a F
   refine wl_skip rfl rfl rfl rfl (ne_tf hc2) F rfl rfl ?_; clear F a; intro a F
   refine wE (ev_pickF rfl hc2 rfl) F S rfl fun a F=>?_
   obtain rfl := sinj hm
   refine wpList_nil (then_n ?_); exact ⟨rfl, F.sub ⟨rfl, rfl, trivial⟩⟩
 clear F; rintro a w' ⟨rfl, F⟩
 refine wE (ev_move rfl) F S rfl fun a F=>?_
 obtain ⟨x3, hx3, hm⟩ := bind_some hm
 refine wl_cut 2 (fun a w => ∃ g11, Fr 45 a [(44, .bool x3), (6, .bool false)] ∧ Le g9 g11 ∧ St g11 [[bx b7 #[.i6 y2.2.2.Code, .i6 y2.2.2.Index] 28], [bx b6 #[v4, v5] 25], [bx b5 #[.i6 y1.2.2.Code, .i6 y1.2.2.Index] 28], [bx b4 #[v1, v2] 25], [bx b3 #[vright1, vright2] 25], [bx b2 #[vleft1, vleft2] 25], [bx b1 #[vbase1, vbase2] 25]] fr w) ?_ ?_
 ·clear hm; obtain ⟨hc3, hm⟩ | ⟨hc3, hm⟩ := ite_or hx3
  ·obtain ⟨y5, hy5, hm⟩ := bind_some hm
   refine wl_call0 (wg F rfl rfl rfl rfl hc3) rfl F rfl (changeforgelaw2_both_ok (fr := (fl [[bx b7 #[.i6 y2.2.2.Code, .i6 y2.2.2.Index] 28], [bx b6 #[v4, v5] 25], [bx b5 #[.i6 y1.2.2.Code, .i6 y1.2.2.Index] 28], [bx b4 #[v1, v2] 25], [bx b3 #[vright1, vright2] 25], [bx b2 #[vleft1, vleft2] 25], [bx b1 #[vbase1, vbase2] 25]] fr))  S hy5) rfl tc14 rfl rfl ?_; clear F a S
   rintro _ a w ⟨g12, l12, S, rfl⟩ F; replace S : St g12 [[bx b7 #[.i6 y2.2.2.Code, .i6 y2.2.2.Index] 28], [bx b6 #[v4, v5] 25], [bx b5 #[.i6 y1.2.2.Code, .i6 y1.2.2.Index] 28], [bx b4 #[v1, v2] 25], [bx b3 #[vright1, vright2] 25], [bx b2 #[vleft1, vleft2] 25], [bx b1 #[vbase1, vbase2] 25]] fr w := S
   refine wE (ev_pickT rfl hc3 rfl) F S rfl fun a F=>?_
   obtain rfl := sinj hm
   refine wpList_nil (then_n ?_); exact ⟨g12, F.sub ⟨rfl, rfl, trivial⟩, l12, S⟩
  ·refine wl_skip rfl rfl rfl rfl (ne_tf hc3) F rfl rfl ?_; clear F a; intro a F
   refine wE (ev_pickF rfl hc3 rfl) F S rfl fun a F=>?_
   obtain rfl := sinj hm
   refine wpList_nil (then_n ?_); exact ⟨g9, F.sub ⟨rfl, rfl, trivial⟩, (Le.refl _), S⟩
 clear F S; rintro a w ⟨g11, F, l11, S⟩
 refine wE (ev_assign rfl) F S rfl fun a F=>?_
 refine wpList_nil ?_
 refine then_n ?_
 refine wp_ret ?_
 obtain rfl := sinj hm
 refine post_r _ F rfl (ar_cons (resT rfl) ar_nil) ?_
 replace S : St g11 [] fr w := St.tail [] _ S
 exact ⟨_, rfl, g11, (((((((((l1.trans l2).trans l3).trans l4).trans l5).trans l6).trans l7).trans l8).trans l9).trans l11), S, rfl⟩
end Go.Dc
