/- Walks: each function comes to what its model says. -/
import Derived.Test.YthknfnjdnclphaaDcTab
import Derived.Test.YthknfnjdnclphaaDcM
import Derived.Test.YthknfnjdnclphaaDcW3
import Derived.Test.YthknfnjdnclphaaDcW6
namespace Go.Dc
open Go Go.Proofs
set_option maxRecDepth 100000
set_option maxHeartbeats 4000000
set_option linter.unusedVariables false
theorem changeforgelaw2_TablepatchMergeOneSided_ok {g : Gh} {fr : Hl} {w : World} {r : Bool} (base : Table) (vbase1 : Value) (hbase1 : RepSl g base.Columns vbase1) (vbase2 : Value) (hbase2 : RepSl g base.Rows vbase2) (other : Table) (vother1 : Value) (hother1 : RepSl g other.Columns vother1) (vother2 : Value) (hother2 : RepSl g other.Rows vother2) (S : St g [] fr w) (hm : changeforgelaw2_TablepatchMergeOneSided base other = some r) :
  Calls Try.prog 5 [.agg #[vbase1, vbase2], .agg #[vother1, vother2]].toArray w (fun en w' => ∃ v, en = .returned v ∧ ∃ (g' : Gh), Le g g' ∧ St g' [] fr w' ∧ .bool r = v) := by
 unfold changeforgelaw2_TablepatchMergeOneSided at hm
 refine calls_enter (fn := Try.f5) Try.func5 rfl Try.ntmps5 (lb rfl) ?_
 intro a F
 replace F : Fr 94 a [(0, .agg #[vbase1, vbase2]), (1, .agg #[vother1, vother2])] := F
 refine wp_seq ?_
 refine wp_region_lit ?_
 refine wl_boxC (wn rfl) rfl rfl rfl F S rfl rfl ?_; clear F a S; rintro b1 a w F S
 refine wl_boxC (wn rfl) rfl rfl rfl F S rfl rfl ?_; clear F a S; rintro b2 a w F S
 refine wE (ev_assign rfl) F S rfl fun a F=>?_
 refine wpList_nil ?_
 refine then_n ?_
 refine wp_seq ?_
 refine wp_region_lit ?_
 refine wE (ev_loadA tu25 rfl (cs := [vbase1, vbase2]) ts25 rfl (box_ptr (cells := [vbase1, vbase2]) 1 rfl 0 rfl (lb rfl))) F S rfl fun a F=>?_
 refine wE (ev_loadA tu25 rfl (cs := [vbase1, vbase2]) ts25 rfl (box_ptr (cells := [vbase1, vbase2]) 1 rfl 0 rfl (lb rfl))) F S rfl fun a F=>?_
 refine wE (ev_loadA tu25 rfl (cs := [vother1, vother2]) ts25 rfl (box_ptr (cells := [vother1, vother2]) 0 rfl 0 rfl (lb rfl))) F S rfl fun a F=>?_
 obtain ⟨y1, hy1, hm⟩ := bind_some hm
 refine wl_call0 (wn rfl) rfl F rfl (tablepatch_Merge_ok (fr := (fl [[bx b2 #[vother1, vother2] 25], [bx b1 #[vbase1, vbase2] 25]] fr)) base vbase1 hbase1 vbase2 hbase2 base vbase1 hbase1 vbase2 hbase2 other vother1 hother1 vother2 hother2 S hy1) rfl tc10 rfl rfl ?_; clear F a S
 rintro _ a w ⟨g1, v1, v2, v3, c1, c2, c3, l1, S, h1, h2, h3, rfl⟩ F; replace S : St g1 [c1, c2, c3, [bx b2 #[vother1, vother2] 25], [bx b1 #[vbase1, vbase2] 25]] fr w := S
 refine wE (ev_move rfl) F S rfl fun a F=>?_
 refine wE (ev_extract rfl rfl) F S rfl fun a F=>?_
 refine wE (ev_extract rfl rfl) F S rfl fun a F=>?_
 refine wE (ev_extract rfl rfl) F S rfl fun a F=>?_
 refine wl_alloc (wn rfl) rfl tz25 (cs := [nilS, nilS]) rfl F S rfl rfl ?_; clear F a S; rintro b3 a w F S
 refine wl_alloc (wn rfl) rfl tz28 (cs := [.i6 0, .i6 0]) rfl F S rfl rfl ?_; clear F a S; rintro b4 a w F S
 refine wl_storeC (wn rfl) rfl F S rfl rfl (vs := [v1, v2]) rfl ts25 (one_cons (OwnS.one h1) (one_cons (OwnS.one h2) one_nil)) (k := 1) rfl (lb rfl) (c' := #[v1, v2]) rfl rfl ?_; clear S; intro w S
 refine wE (ev_assign rfl) F S rfl fun a F=>?_
 refine wl_storeC (wn rfl) rfl F S rfl rfl (vs := [.i6 y1.2.2.Code, .i6 y1.2.2.Index]) rfl ts28 (one_cons rfl (one_cons rfl one_nil)) (k := 0) rfl (lb rfl) (c' := #[.i6 y1.2.2.Code, .i6 y1.2.2.Index]) rfl rfl ?_; clear S; intro w S
 refine wpList_nil ?_
 refine then_n ?_
 refine wp_seq ?_
 refine wp_region_lit ?_
 refine wE (ev_loadA tu25 rfl (cs := [vbase1, vbase2]) ts25 rfl (box_ptr (cells := [vbase1, vbase2]) 6 rfl 0 rfl (lb rfl))) F S rfl fun a F=>?_
 refine wE (ev_loadA tu25 rfl (cs := [vother1, vother2]) ts25 rfl (box_ptr (cells := [vother1, vother2]) 5 rfl 0 rfl (lb rfl))) F S rfl fun a F=>?_
 refine wE (ev_loadA tu25 rfl (cs := [vbase1, vbase2]) ts25 rfl (box_ptr (cells := [vbase1, vbase2]) 6 rfl 0 rfl (lb rfl))) F S rfl fun a F=>?_
 obtain ⟨y2, hy2, hm⟩ := bind_some hm
 refine wl_call0 (wn rfl) rfl F rfl (tablepatch_Merge_ok (fr := (fl [[bx b4 #[.i6 y1.2.2.Code, .i6 y1.2.2.Index] 28], [bx b3 #[v1, v2] 25], c1, c2, c3, [bx b2 #[vother1, vother2] 25], [bx b1 #[vbase1, vbase2] 25]] fr)) base vbase1 (hbase1.mono l1) vbase2 (hbase2.mono l1) other vother1 (hother1.mono l1) vother2 (hother2.mono l1) base vbase1 (hbase1.mono l1) vbase2 (hbase2.mono l1) S hy2) rfl tc10 rfl rfl ?_; clear F a S
 rintro _ a w ⟨g2, v4, v5, v6, c4, c5, c6, l2, S, h4, h5, h6, rfl⟩ F; replace S : St g2 [c4, c5, c6, [bx b4 #[.i6 y1.2.2.Code, .i6 y1.2.2.Index] 28], [bx b3 #[v1, v2] 25], c1, c2, c3, [bx b2 #[vother1, vother2] 25], [bx b1 #[vbase1, vbase2] 25]] fr w := S
 refine wE (ev_move rfl) F S rfl fun a F=>?_
 refine wE (ev_extract rfl rfl) F S rfl fun a F=>?_
 refine wE (ev_extract rfl rfl) F S rfl fun a F=>?_
 refine wE (ev_extract rfl rfl) F S rfl fun a F=>?_
 refine wl_alloc (wn rfl) rfl tz25 (cs := [nilS, nilS]) rfl F S rfl rfl ?_; clear F a S; rintro b5 a w F S
 refine wl_alloc (wn rfl) rfl tz28 (cs := [.i6 0, .i6 0]) rfl F S rfl rfl ?_; clear F a S; rintro b6 a w F S
 refine wl_storeC (wn rfl) rfl F S rfl rfl (vs := [v4, v5]) rfl ts25 (one_cons (OwnS.one h4) (one_cons (OwnS.one h5) one_nil)) (k := 1) rfl (lb rfl) (c' := #[v4, v5]) rfl rfl ?_; clear S; intro w S
 refine wE (ev_assign rfl) F S rfl fun a F=>?_
 refine wl_storeC (wn rfl) rfl F S rfl rfl (vs := [.i6 y2.2.2.Code, .i6 y2.2.2.Index]) rfl ts28 (one_cons rfl (one_cons rfl one_nil)) (k := 0) rfl (lb rfl) (c' := #[.i6 y2.2.2.Code, .i6 y2.2.2.Index]) rfl rfl ?_; clear S; intro w S
 refine wpList_nil ?_
 refine then_n ?_
 refine wp_seq ?_
 refine wp_region_lit ?_
 refine wE (ev_loadA tu25 rfl (cs := [vbase1, vbase2]) ts25 rfl (box_ptr (cells := [vbase1, vbase2]) 11 rfl 0 rfl (lb rfl))) F S rfl fun a F=>?_
 refine wE (ev_loadA tu25 rfl (cs := [vother1, vother2]) ts25 rfl (box_ptr (cells := [vother1, vother2]) 10 rfl 0 rfl (lb rfl))) F S rfl fun a F=>?_
 refine wE (ev_loadA tu25 rfl (cs := [vother1, vother2]) ts25 rfl (box_ptr (cells := [vother1, vother2]) 10 rfl 0 rfl (lb rfl))) F S rfl fun a F=>?_
 obtain ⟨y3, hy3, hm⟩ := bind_some hm
 refine wl_call0 (wn rfl) rfl F rfl (tablepatch_Merge_ok (fr := (fl [[bx b6 #[.i6 y2.2.2.Code, .i6 y2.2.2.Index] 28], [bx b5 #[v4, v5] 25], c4, c5, c6, [bx b4 #[.i6 y1.2.2.Code, .i6 y1.2.2.Index] 28], [bx b3 #[v1, v2] 25], c1, c2, c3, [bx b2 #[vother1, vother2] 25], [bx b1 #[vbase1, vbase2] 25]] fr)) base vbase1 (hbase1.mono (l1.trans l2)) vbase2 (hbase2.mono (l1.trans l2)) other vother1 (hother1.mono (l1.trans l2)) vother2 (hother2.mono (l1.trans l2)) other vother1 (hother1.mono (l1.trans l2)) vother2 (hother2.mono (l1.trans l2)) S hy3) rfl tc10 rfl rfl ?_; clear F a S
 rintro _ a w ⟨g3, v7, v8, v9, c7, c8, c9, l3, S, h7, h8, h9, rfl⟩ F; replace S : St g3 [c7, c8, c9, [bx b6 #[.i6 y2.2.2.Code, .i6 y2.2.2.Index] 28], [bx b5 #[v4, v5] 25], c4, c5, c6, [bx b4 #[.i6 y1.2.2.Code, .i6 y1.2.2.Index] 28], [bx b3 #[v1, v2] 25], c1, c2, c3, [bx b2 #[vother1, vother2] 25], [bx b1 #[vbase1, vbase2] 25]] fr w := S
 refine wE (ev_move rfl) F S rfl fun a F=>?_
 refine wE (ev_extract rfl rfl) F S rfl fun a F=>?_
 refine wE (ev_extract rfl rfl) F S rfl fun a F=>?_
 refine wE (ev_extract rfl rfl) F S rfl fun a F=>?_
 refine wl_alloc (wn rfl) rfl tz25 (cs := [nilS, nilS]) rfl F S rfl rfl ?_; clear F a S; rintro b7 a w F S
 refine wl_alloc (wn rfl) rfl tz28 (cs := [.i6 0, .i6 0]) rfl F S rfl rfl ?_; clear F a S; rintro b8 a w F S
 refine wl_storeC (wn rfl) rfl F S rfl rfl (vs := [v7, v8]) rfl ts25 (one_cons (OwnS.one h7) (one_cons (OwnS.one h8) one_nil)) (k := 1) rfl (lb rfl) (c' := #[v7, v8]) rfl rfl ?_; clear S; intro w S
 refine wE (ev_assign rfl) F S rfl fun a F=>?_
 refine wl_storeC (wn rfl) rfl F S rfl rfl (vs := [.i6 y3.2.2.Code, .i6 y3.2.2.Index]) rfl ts28 (one_cons rfl (one_cons rfl one_nil)) (k := 0) rfl (lb rfl) (c' := #[.i6 y3.2.2.Code, .i6 y3.2.2.Index]) rfl rfl ?_; clear S; intro w S
 refine wpList_nil ?_
 refine then_n ?_
 refine wp_seq ?_
 refine wp_seq ?_
 refine wp_region_lit ?_
 refine wE (ev_fieldAddr' tu28 tf28_0 (z := 0) ts3 rfl ⟨_, rfl⟩ rfl) F S rfl fun a F=>?_
 refine wE (ev_load1 tu3 rfl rfl (box_ptr (cells := [.i6 y1.2.2.Code]) 10 rfl 0 rfl (lb rfl))) F S rfl fun a F=>?_
 refine wE (ev_int rfl rfl (bo_neq _ _ _ _)) F S rfl fun a F=>?_
 refine wE (ev_move rfl) F S rfl fun a F=>?_
 obtain ⟨x1, hx1, hm⟩ := bind_some hm
 refine wl_cut 4 (fun a w' => w = w' ∧ Fr 94 a [(45, .bool x1), (12, v9), (13, bp b8 0), (11, bp b7 0), (9, v6), (10, bp b6 0), (8, bp b5 0), (6, v3), (7, bp b4 0), (5, bp b3 0), (3, bp b2 0)]) ?_ ?_
 ·clear hm; obtain ⟨hc1, hm⟩ | ⟨hc1, hm⟩ := ite_or hx1
  ·refine wl_skip rfl rfl rfl rfl (ne_ft hc1) F rfl rfl ?_; clear F a; intro a F
   refine wl_skip rfl rfl rfl rfl (ne_ft hc1) F rfl rfl ?_; clear F a; intro a F
   refine wl_skip rfl rfl rfl rfl (ne_ft hc1) F rfl rfl ?_; clear F a; intro a F
   refine wE (ev_pickT rfl hc1 rfl) F S rfl fun a F=>?_
   obtain rfl := sinj hm
   refine wpList_nil (then_n ?_); exact ⟨rfl, F.sub ⟨rfl, rfl, rfl, rfl, rfl, rfl, rfl, rfl, rfl, rfl, rfl, trivial⟩⟩
  ·refine wl_ev (wg F rfl rfl rfl rfl hc1) (ev_fieldAddr' tu28 tf28_0 (z := 0) ts3 rfl ⟨_, rfl⟩ rfl) F S rfl rfl ?_; clear F a; intro a F
   refine wl_ev (wg F rfl rfl rfl rfl hc1) (ev_load1 tu3 rfl rfl (box_ptr (cells := [.i6 y2.2.2.Code]) 5 rfl 0 rfl (lb rfl))) F S rfl rfl ?_; clear F a; intro a F
   refine wl_ev (wg F rfl rfl rfl rfl hc1) (ev_int rfl rfl (bo_neq _ _ _ _)) F S rfl rfl ?_; clear F a; intro a F
   refine wE (ev_pickF rfl hc1 rfl) F S rfl fun a F=>?_
   obtain rfl := sinj hm
   refine wpList_nil (then_n ?_); exact ⟨rfl, F.sub ⟨rfl, rfl, rfl, rfl, rfl, rfl, rfl, rfl, rfl, rfl, rfl, trivial⟩⟩
 clear F; rintro a w' ⟨rfl, F⟩
 refine wE (ev_move rfl) F S rfl fun a F=>?_
 obtain ⟨x2, hx2, hm⟩ := bind_some hm
 refine wl_cut 4 (fun a w' => w = w' ∧ Fr 94 a [(50, .bool x2), (12, v9), (13, bp b8 0), (11, bp b7 0), (9, v6), (10, bp b6 0), (8, bp b5 0), (6, v3), (7, bp b4 0), (5, bp b3 0), (3, bp b2 0)]) ?_ ?_
 ·clear hm; obtain ⟨hc2, hm⟩ | ⟨hc2, hm⟩ := ite_or hx2
  ·refine wl_skip rfl rfl rfl rfl (ne_ft hc2) F rfl rfl ?_; clear F a; intro a F
   refine wl_skip rfl rfl rfl rfl (ne_ft hc2) F rfl rfl ?_; clear F a; intro a F
   refine wl_skip rfl rfl rfl rfl (ne_ft hc2) F rfl rfl ?_; clear F a; intro a F
   refine wE (ev_pickT rfl hc2 rfl) F S rfl fun a F=>?_
   obtain rfl := sinj hm
   refine wpList_nil (then_n ?_); exact ⟨rfl, F.sub ⟨rfl, rfl, rfl, rfl, rfl, rfl, rfl, rfl, rfl, rfl, rfl, trivial⟩⟩
  ·refine wl_ev (wg F rfl rfl rfl rfl hc2) (ev_fieldAddr' tu28 tf28_0 (z := 0) ts3 rfl ⟨_, rfl⟩ rfl) F S rfl rfl ?_; clear F a; intro a F
   refine wl_ev (wg F rfl rfl rfl rfl hc2) (ev_load1 tu3 rfl rfl (box_ptr (cells := [.i6 y3.2.2.Code]) 0 rfl 0 rfl (lb rfl))) F S rfl rfl ?_; clear F a; intro a F
   refine wl_ev (wg F rfl rfl rfl rfl hc2) (ev_int rfl rfl (bo_neq _ _ _ _)) F S rfl rfl ?_; clear F a; intro a F
   refine wE (ev_pickF rfl hc2 rfl) F S rfl fun a F=>?_
   obtain rfl := sinj hm
   refine wpList_nil (then_n ?_); exact ⟨rfl, F.sub ⟨rfl, rfl, rfl, rfl, rfl, rfl, rfl, rfl, rfl, rfl, rfl, trivial⟩⟩
 clear F; rintro a w' ⟨rfl, F⟩
 refine wpList_nil ?_
 refine then_n ?_
 obtain ⟨hc3, hm⟩ | ⟨hc3, hm⟩ := ite_or hm
 ·refine wp_condT F rfl hc3 ?_
  refine wp_seq ?_
  refine wp_region_lit ?_
  refine wE (ev_fieldAddr' tu28 tf28_0 (z := 0) ts3 rfl ⟨_, rfl⟩ rfl) F S rfl fun a F=>?_
  refine wE (ev_load1 tu3 rfl rfl (box_ptr (cells := [.i6 y1.2.2.Code]) 10 rfl 0 rfl (lb rfl))) F S rfl fun a F=>?_
  refine wE (ev_int rfl rfl (bo_neq _ _ _ _)) F S rfl fun a F=>?_
  refine wE (ev_move rfl) F S rfl fun a F=>?_
  obtain ⟨x3, hx3, hm⟩ := bind_some hm
  refine wl_cut 4 (fun a w' => w = w' ∧ Fr 94 a [(58, .bool x3), (13, bp b8 0)]) ?_ ?_
  ·clear hm; obtain ⟨hc4, hm⟩ | ⟨hc4, hm⟩ := ite_or hx3
   ·refine wl_ev (wg F rfl rfl rfl rfl hc4) (ev_fieldAddr' tu28 tf28_0 (z := 0) ts3 rfl ⟨_, rfl⟩ rfl) F S rfl rfl ?_; clear F a; intro a F
    refine wl_ev (wg F rfl rfl rfl rfl hc4) (ev_load1 tu3 rfl rfl (box_ptr (cells := [.i6 y2.2.2.Code]) 5 rfl 0 rfl (lb rfl))) F S rfl rfl ?_; clear F a; intro a F
    refine wl_ev (wg F rfl rfl rfl rfl hc4) (ev_int rfl rfl (bo_neq _ _ _ _)) F S rfl rfl ?_; clear F a; intro a F
    refine wE (ev_pickT rfl hc4 rfl) F S rfl fun a F=>?_
    obtain rfl := sinj hm
    refine wpList_nil (then_n ?_); exact ⟨rfl, F.sub ⟨rfl, rfl, trivial⟩⟩
   ·refine wl_skip rfl rfl rfl rfl (ne_tf hc4) F rfl rfl ?_; clear F a; intro a F
    refine wl_skip rfl rfl rfl rfl (ne_tf hc4) F rfl rfl ?_; clear F a; intro a F
    refine wl_skip rfl rfl rfl rfl (ne_tf hc4) F rfl rfl ?_; clear F a; intro a F
    refine wE (ev_pickF rfl hc4 rfl) F S rfl fun a F=>?_
    obtain rfl := sinj hm
    refine wpList_nil (then_n ?_); exact ⟨rfl, F.sub ⟨rfl, rfl, trivial⟩⟩
  clear F; rintro a w' ⟨rfl, F⟩
  refine wE (ev_move rfl) F S rfl fun a F=>?_
  obtain ⟨x4, hx4, hm⟩ := bind_some hm
  refine wl_cut 4 (fun a w' => w = w' ∧ Fr 94 a [(63, .bool x4)]) ?_ ?_
  ·clear hm; obtain ⟨hc5, hm⟩ | ⟨hc5, hm⟩ := ite_or hx4
   ·refine wl_ev (wg F rfl rfl rfl rfl hc5) (ev_fieldAddr' tu28 tf28_0 (z := 0) ts3 rfl ⟨_, rfl⟩ rfl) F S rfl rfl ?_; clear F a; intro a F
    refine wl_ev (wg F rfl rfl rfl rfl hc5) (ev_load1 tu3 rfl rfl (box_ptr (cells := [.i6 y3.2.2.Code]) 0 rfl 0 rfl (lb rfl))) F S rfl rfl ?_; clear F a; intro a F
    refine wl_ev (wg F rfl rfl rfl rfl hc5) (ev_int rfl rfl (bo_neq _ _ _ _)) F S rfl rfl ?_; clear F a; intro a F
    refine wE (ev_pickT rfl hc5 rfl) F S rfl fun a F=>?_
    obtain rfl := sinj hm
    refine wpList_nil (then_n ?_); exact ⟨rfl, F.sub ⟨rfl, trivial⟩⟩
   ·refine wl_skip rfl rfl rfl rfl (ne_tf hc5) F rfl rfl ?_; clear F a; intro a F
    refine wl_skip rfl rfl rfl rfl (ne_tf hc5) F rfl rfl ?_; clear F a; intro a F
    refine wl_skip rfl rfl rfl rfl (ne_tf hc5) F rfl rfl ?_; clear F a; intro a F
    refine wE (ev_pickF rfl hc5 rfl) F S rfl fun a F=>?_
    obtain rfl := sinj hm
    refine wpList_nil (then_n ?_); exact ⟨rfl, F.sub ⟨rfl, trivial⟩⟩
  clear F; rintro a w' ⟨rfl, F⟩
  refine wE (ev_move rfl) F S rfl fun a F=>?_
  obtain ⟨x5, hx5, hm⟩ := bind_some hm
  refine wl_cut 2 (fun a w => ∃ g4, Fr 94 a [(66, .bool x5)] ∧ Le g3 g4 ∧ St g4 [[bx b8 #[.i6 y3.2.2.Code, .i6 y3.2.2.Index] 28], [bx b7 #[v7, v8] 25], c7, c8, c9, [bx b6 #[.i6 y2.2.2.Code, .i6 y2.2.2.Index] 28], [bx b5 #[v4, v5] 25], c4, c5, c6, [bx b4 #[.i6 y1.2.2.Code, .i6 y1.2.2.Index] 28], [bx b3 #[v1, v2] 25], c1, c2, c3, [bx b2 #[vother1, vother2] 25], [bx b1 #[vbase1, vbase2] 25]] fr w) ?_ ?_
  ·clear hm; obtain ⟨hc6, hm⟩ | ⟨hc6, hm⟩ := ite_or hx5
   ·obtain ⟨y4, hy4, hm⟩ := bind_some hm
    refine wl_call0 (wg F rfl rfl rfl rfl hc6) rfl F rfl (changeforgelaw2_both_ok (fr := (fl [[bx b8 #[.i6 y3.2.2.Code, .i6 y3.2.2.Index] 28], [bx b7 #[v7, v8] 25], c7, c8, c9, [bx b6 #[.i6 y2.2.2.Code, .i6 y2.2.2.Index] 28], [bx b5 #[v4, v5] 25], c4, c5, c6, [bx b4 #[.i6 y1.2.2.Code, .i6 y1.2.2.Index] 28], [bx b3 #[v1, v2] 25], c1, c2, c3, [bx b2 #[vother1, vother2] 25], [bx b1 #[vbase1, vbase2] 25]] fr))  S hy4) rfl tc14 rfl rfl ?_; clear F a S
    rintro _ a w ⟨g5, l5, S, rfl⟩ F; replace S : St g5 [[bx b8 #[.i6 y3.2.2.Code, .i6 y3.2.2.Index] 28], [bx b7 #[v7, v8] 25], c7, c8, c9, [bx b6 #[.i6 y2.2.2.Code, .i6 y2.2.2.Index] 28], [bx b5 #[v4, v5] 25], c4, c5, c6, [bx b4 #[.i6 y1.2.2.Code, .i6 y1.2.2.Index] 28], [bx b3 #[v1, v2] 25], c1, c2, c3, [bx b2 #[vother1, vother2] 25], [bx b1 #[vbase1, vbase2] 25]] fr w := S
    refine wE (ev_pickT rfl hc6 rfl) F S rfl fun a F=>?_
    obtain rfl := sinj hm
    refine wpList_nil (then_n ?_); exact ⟨g5, F.sub ⟨rfl, trivial⟩, l5, S⟩
   ·refine wl_skip rfl rfl rfl rfl (ne_tf hc6) F rfl rfl ?_; clear F a; intro a F
    refine wE (ev_pickF rfl hc6 rfl) F S rfl fun a F=>?_
    obtain rfl := sinj hm
    refine wpList_nil (then_n ?_); exact ⟨g3, F.sub ⟨rfl, trivial⟩, (Le.refl _), S⟩
  clear F S; rintro a w ⟨g4, F, l4, S⟩
  refine wE (ev_assign rfl) F S rfl fun a F=>?_
  refine wpList_nil ?_
  refine then_n ?_
  refine wp_ret ?_
  refine then_r ?_
  obtain rfl := sinj hm
  refine post_r _ F rfl (ar_cons (resT rfl) ar_nil) ?_
  replace S : St g4 [] fr w := St.tail [] _ S
  exact ⟨_, rfl, g4, (((l1.trans l2).trans l3).trans l4), S, rfl⟩
 ·refine wp_condF F rfl hc3 ?_
  refine wp_skip ?_
  refine then_n ?_
  refine wp_seq ?_
  refine wp_region_lit ?_
  refine wE (ev_loadA tu25 rfl (cs := [v1, v2]) ts25 rfl (box_ptr (cells := [v1, v2]) 11 rfl 0 rfl (lb rfl))) F S rfl fun a F=>?_
  refine wE (ev_loadA tu25 rfl (cs := [vother1, vother2]) ts25 rfl (box_ptr (cells := [vother1, vother2]) 15 rfl 0 rfl (lb rfl))) F S rfl fun a F=>?_
  obtain ⟨g6, l6, S, h10⟩ : ∃ gz, Le g3 gz ∧ St gz [[bx b8 #[.i6 y3.2.2.Code, .i6 y3.2.2.Index] 28], [bx b7 #[v7, v8] 25], c7, c8, c9, [bx b6 #[.i6 y2.2.2.Code, .i6 y2.2.2.Index] 28], [bx b5 #[v4, v5] 25], c4, c5, c6, [bx b4 #[.i6 y1.2.2.Code, .i6 y1.2.2.Index] 28], [bx b3 #[v1, v2] 25], c2, c3, [bx b2 #[vother1, vother2] 25], [bx b1 #[vbase1, vbase2] 25]] fr w ∧ RepSl gz y1.1.Columns v1 := ⟨_, Le.add _ _, S.freeze 12 rfl, OwnS.freeze (S.front 12 rfl) (h1.mono (l2.trans l3))⟩
  obtain ⟨g7, l7, S, h11⟩ : ∃ gz, Le g6 gz ∧ St gz [[bx b8 #[.i6 y3.2.2.Code, .i6 y3.2.2.Index] 28], [bx b7 #[v7, v8] 25], c7, c8, c9, [bx b6 #[.i6 y2.2.2.Code, .i6 y2.2.2.Index] 28], [bx b5 #[v4, v5] 25], c4, c5, c6, [bx b4 #[.i6 y1.2.2.Code, .i6 y1.2.2.Index] 28], [bx b3 #[v1, v2] 25], c3, [bx b2 #[vother1, vother2] 25], [bx b1 #[vbase1, vbase2] 25]] fr w ∧ RepSl gz y1.1.Rows v2 := ⟨_, Le.add _ _, S.freeze 12 rfl, OwnS.freeze (S.front 12 rfl) (h2.mono ((l2.trans l3).trans l6))⟩
  obtain ⟨y5, hy5, hm⟩ := bind_some hm
  refine wl_call0 (wn rfl) rfl F rfl (changeforgeequal_Table_ok (fr := (fl [[bx b8 #[.i6 y3.2.2.Code, .i6 y3.2.2.Index] 28], [bx b7 #[v7, v8] 25], c7, c8, c9, [bx b6 #[.i6 y2.2.2.Code, .i6 y2.2.2.Index] 28], [bx b5 #[v4, v5] 25], c4, c5, c6, [bx b4 #[.i6 y1.2.2.Code, .i6 y1.2.2.Index] 28], [bx b3 #[v1, v2] 25], c3, [bx b2 #[vother1, vother2] 25], [bx b1 #[vbase1, vbase2] 25]] fr)) y1.1 v1 (h10.mono l7) v2 h11 other vother1 (hother1.mono ((((l1.trans l2).trans l3).trans l6).trans l7)) vother2 (hother2.mono ((((l1.trans l2).trans l3).trans l6).trans l7)) S hy5) rfl tc12 rfl rfl ?_; clear F a S
  rintro _ a w ⟨g8, l8, S, rfl⟩ F; replace S : St g8 [[bx b8 #[.i6 y3.2.2.Code, .i6 y3.2.2.Index] 28], [bx b7 #[v7, v8] 25], c7, c8, c9, [bx b6 #[.i6 y2.2.2.Code, .i6 y2.2.2.Index] 28], [bx b5 #[v4, v5] 25], c4, c5, c6, [bx b4 #[.i6 y1.2.2.Code, .i6 y1.2.2.Index] 28], [bx b3 #[v1, v2] 25], c3, [bx b2 #[vother1, vother2] 25], [bx b1 #[vbase1, vbase2] 25]] fr w := S
  refine wE (ev_move rfl) F S rfl fun a F=>?_
  obtain ⟨g9, l9, S, h12⟩ : ∃ gz, Le g8 gz ∧ St gz [[bx b8 #[.i6 y3.2.2.Code, .i6 y3.2.2.Index] 28], [bx b7 #[v7, v8] 25], c7, c8, c9, [bx b6 #[.i6 y2.2.2.Code, .i6 y2.2.2.Index] 28], [bx b5 #[v4, v5] 25], c5, c6, [bx b4 #[.i6 y1.2.2.Code, .i6 y1.2.2.Index] 28], [bx b3 #[v1, v2] 25], c3, [bx b2 #[vother1, vother2] 25], [bx b1 #[vbase1, vbase2] 25]] fr w ∧ RepSl gz y2.1.Columns v4 := ⟨_, Le.add _ _, S.freeze 7 rfl, OwnS.freeze (S.front 7 rfl) (h4.mono (((l3.trans l6).trans l7).trans l8))⟩
  obtain ⟨g10, l10, S, h13⟩ : ∃ gz, Le g9 gz ∧ St gz [[bx b8 #[.i6 y3.2.2.Code, .i6 y3.2.2.Index] 28], [bx b7 #[v7, v8] 25], c7, c8, c9, [bx b6 #[.i6 y2.2.2.Code, .i6 y2.2.2.Index] 28], [bx b5 #[v4, v5] 25], c6, [bx b4 #[.i6 y1.2.2.Code, .i6 y1.2.2.Index] 28], [bx b3 #[v1, v2] 25], c3, [bx b2 #[vother1, vother2] 25], [bx b1 #[vbase1, vbase2] 25]] fr w ∧ RepSl gz y2.1.Rows v5 := ⟨_, Le.add _ _, S.freeze 7 rfl, OwnS.freeze (S.front 7 rfl) (h5.mono ((((l3.trans l6).trans l7).trans l8).trans l9))⟩
  obtain ⟨x6, hx6, hm⟩ := bind_some hm
  refine wl_cut 4 (fun a w => ∃ g11, Fr 94 a [(74, .bool x6), (12, v9), (11, bp b7 0), (9, v6), (6, v3), (3, bp b2 0)] ∧ Le g10 g11 ∧ St g11 [[bx b8 #[.i6 y3.2.2.Code, .i6 y3.2.2.Index] 28], [bx b7 #[v7, v8] 25], c7, c8, c9, [bx b6 #[.i6 y2.2.2.Code, .i6 y2.2.2.Index] 28], [bx b5 #[v4, v5] 25], c6, [bx b4 #[.i6 y1.2.2.Code, .i6 y1.2.2.Index] 28], [bx b3 #[v1, v2] 25], c3, [bx b2 #[vother1, vother2] 25], [bx b1 #[vbase1, vbase2] 25]] fr w) ?_ ?_
  ·clear hm; obtain ⟨hc7, hm⟩ | ⟨hc7, hm⟩ := ite_or hx6
   ·refine wl_ev (wg F rfl rfl rfl rfl hc7) (ev_loadA tu25 rfl (cs := [v4, v5]) ts25 rfl (box_ptr (cells := [v4, v5]) 6 rfl 0 rfl (lb rfl))) F S rfl rfl ?_; clear F a; intro a F
    refine wl_ev (wg F rfl rfl rfl rfl hc7) (ev_loadA tu25 rfl (cs := [vother1, vother2]) ts25 rfl (box_ptr (cells := [vother1, vother2]) 11 rfl 0 rfl (lb rfl))) F S rfl rfl ?_; clear F a; intro a F
    obtain ⟨y6, hy6, hm⟩ := bind_some hm
    refine wl_call0 (wg F rfl rfl rfl rfl hc7) rfl F rfl (changeforgeequal_Table_ok (fr := (fl [[bx b8 #[.i6 y3.2.2.Code, .i6 y3.2.2.Index] 28], [bx b7 #[v7, v8] 25], c7, c8, c9, [bx b6 #[.i6 y2.2.2.Code, .i6 y2.2.2.Index] 28], [bx b5 #[v4, v5] 25], c6, [bx b4 #[.i6 y1.2.2.Code, .i6 y1.2.2.Index] 28], [bx b3 #[v1, v2] 25], c3, [bx b2 #[vother1, vother2] 25], [bx b1 #[vbase1, vbase2] 25]] fr)) y2.1 v4 (h12.mono l10) v5 h13 other vother1 (hother1.mono (((((((l1.trans l2).trans l3).trans l6).trans l7).trans l8).trans l9).trans l10)) vother2 (hother2.mono (((((((l1.trans l2).trans l3).trans l6).trans l7).trans l8).trans l9).trans l10)) S hy6) rfl tc12 rfl rfl ?_; clear F a S
    rintro _ a w ⟨g12, l12, S, rfl⟩ F; replace S : St g12 [[bx b8 #[.i6 y3.2.2.Code, .i6 y3.2.2.Index] 28], [bx b7 #[v7, v8] 25], c7, c8, c9, [bx b6 #[.i6 y2.2.2.Code, .i6 y2.2.2.Index] 28], [bx b5 #[v4, v5] 25], c6, [bx b4 #[.i6 y1.2.2.Code, .i6 y1.2.2.Index] 28], [bx b3 #[v1, v2] 25], c3, [bx b2 #[vother1, vother2] 25], [bx b1 #[vbase1, vbase2] 25]] fr w := S
    refine wE (ev_pickT rfl hc7 rfl) F S rfl fun a F=>?_
    obtain rfl := sinj hm
    refine wpList_nil (then_n ?_); exact ⟨g12, F.sub ⟨rfl, rfl, rfl, rfl, rfl, rfl, trivial⟩, l12, S⟩
   ·refine wl_skip rfl rfl rfl rfl (ne_tf hc7) F rfl rfl ?_; clear F a; intro a F
    refine wl_skip rfl rfl rfl rfl (ne_tf hc7) F rfl rfl ?_; clear F a; intro a F
    refine wl_skip rfl rfl rfl rfl (ne_tf hc7) F rfl rfl ?_; clear F a; intro a F
    refine wE (ev_pickF rfl hc7 rfl) F S rfl fun a F=>?_
    obtain rfl := sinj hm
    refine wpList_nil (then_n ?_); exact ⟨g10, F.sub ⟨rfl, rfl, rfl, rfl, rfl, rfl, trivial⟩, (Le.refl _), S⟩
  clear F S; rintro a w ⟨g11, F, l11, S⟩
  refine wE (ev_move rfl) F S rfl fun a F=>?_
  obtain ⟨g13, l13, S, h14⟩ : ∃ gz, Le g11 gz ∧ St gz [[bx b8 #[.i6 y3.2.2.Code, .i6 y3.2.2.Index] 28], [bx b7 #[v7, v8] 25], c8, c9, [bx b6 #[.i6 y2.2.2.Code, .i6 y2.2.2.Index] 28], [bx b5 #[v4, v5] 25], c6, [bx b4 #[.i6 y1.2.2.Code, .i6 y1.2.2.Index] 28], [bx b3 #[v1, v2] 25], c3, [bx b2 #[vother1, vother2] 25], [bx b1 #[vbase1, vbase2] 25]] fr w ∧ RepSl gz y3.1.Columns v7 := ⟨_, Le.add _ _, S.freeze 2 rfl, OwnS.freeze (S.front 2 rfl) (h7.mono (((((l6.trans l7).trans l8).trans l9).trans l10).trans l11))⟩
  obtain ⟨g14, l14, S, h15⟩ : ∃ gz, Le g13 gz ∧ St gz [[bx b8 #[.i6 y3.2.2.Code, .i6 y3.2.2.Index] 28], [bx b7 #[v7, v8] 25], c9, [bx b6 #[.i6 y2.2.2.Code, .i6 y2.2.2.Index] 28], [bx b5 #[v4, v5] 25], c6, [bx b4 #[.i6 y1.2.2.Code, .i6 y1.2.2.Index] 28], [bx b3 #[v1, v2] 25], c3, [bx b2 #[vother1, vother2] 25], [bx b1 #[vbase1, vbase2] 25]] fr w ∧ RepSl gz y3.1.Rows v8 := ⟨_, Le.add _ _, S.freeze 2 rfl, OwnS.freeze (S.front 2 rfl) (h8.mono ((((((l6.trans l7).trans l8).trans l9).trans l10).trans l11).trans l13))⟩
  obtain ⟨x7, hx7, hm⟩ := bind_some hm
  refine wl_cut 4 (fun a w => ∃ g15, Fr 94 a [(79, .bool x7), (12, v9), (9, v6), (6, v3)] ∧ Le g14 g15 ∧ St g15 [[bx b8 #[.i6 y3.2.2.Code, .i6 y3.2.2.Index] 28], [bx b7 #[v7, v8] 25], c9, [bx b6 #[.i6 y2.2.2.Code, .i6 y2.2.2.Index] 28], [bx b5 #[v4, v5] 25], c6, [bx b4 #[.i6 y1.2.2.Code, .i6 y1.2.2.Index] 28], [bx b3 #[v1, v2] 25], c3, [bx b2 #[vother1, vother2] 25], [bx b1 #[vbase1, vbase2] 25]] fr w) ?_ ?_
  ·clear hm; obtain ⟨hc8, hm⟩ | ⟨hc8, hm⟩ := ite_or hx7
   ·refine wl_ev (wg F rfl rfl rfl rfl hc8) (ev_loadA tu25 rfl (cs := [v7, v8]) ts25 rfl (box_ptr (cells := [v7, v8]) 1 rfl 0 rfl (lb rfl))) F S rfl rfl ?_; clear F a; intro a F
    refine wl_ev (wg F rfl rfl rfl rfl hc8) (ev_loadA tu25 rfl (cs := [vother1, vother2]) ts25 rfl (box_ptr (cells := [vother1, vother2]) 9 rfl 0 rfl (lb rfl))) F S rfl rfl ?_; clear F a; intro a F
    obtain ⟨y7, hy7, hm⟩ := bind_some hm
    refine wl_call0 (wg F rfl rfl rfl rfl hc8) rfl F rfl (changeforgeequal_Table_ok (fr := (fl [[bx b8 #[.i6 y3.2.2.Code, .i6 y3.2.2.Index] 28], [bx b7 #[v7, v8] 25], c9, [bx b6 #[.i6 y2.2.2.Code, .i6 y2.2.2.Index] 28], [bx b5 #[v4, v5] 25], c6, [bx b4 #[.i6 y1.2.2.Code, .i6 y1.2.2.Index] 28], [bx b3 #[v1, v2] 25], c3, [bx b2 #[vother1, vother2] 25], [bx b1 #[vbase1, vbase2] 25]] fr)) y3.1 v7 (h14.mono l14) v8 h15 other vother1 (hother1.mono ((((((((((l1.trans l2).trans l3).trans l6).trans l7).trans l8).trans l9).trans l10).trans l11).trans l13).trans l14)) vother2 (hother2.mono ((((((((((l1.trans l2).trans l3).trans l6).trans l7).trans l8).trans l9).trans l10).trans l11).trans l13).trans l14)) S hy7) rfl tc12 rfl rfl ?_; clear F a S
    rintro _ a w ⟨g16, l16, S, rfl⟩ F; replace S : St g16 [[bx b8 #[.i6 y3.2.2.Code, .i6 y3.2.2.Index] 28], [bx b7 #[v7, v8] 25], c9, [bx b6 #[.i6 y2.2.2.Code, .i6 y2.2.2.Index] 28], [bx b5 #[v4, v5] 25], c6, [bx b4 #[.i6 y1.2.2.Code, .i6 y1.2.2.Index] 28], [bx b3 #[v1, v2] 25], c3, [bx b2 #[vother1, vother2] 25], [bx b1 #[vbase1, vbase2] 25]] fr w := S
    refine wE (ev_pickT rfl hc8 rfl) F S rfl fun a F=>?_
    obtain rfl := sinj hm
    refine wpList_nil (then_n ?_); exact ⟨g16, F.sub ⟨rfl, rfl, rfl, rfl, trivial⟩, l16, S⟩
   ·refine wl_skip rfl rfl rfl rfl (ne_tf hc8) F rfl rfl ?_; clear F a; intro a F
    refine wl_skip rfl rfl rfl rfl (ne_tf hc8) F rfl rfl ?_; clear F a; intro a F
    refine wl_skip rfl rfl rfl rfl (ne_tf hc8) F rfl rfl ?_; clear F a; intro a F
    refine wE (ev_pickF rfl hc8 rfl) F S rfl fun a F=>?_
    obtain rfl := sinj hm
    refine wpList_nil (then_n ?_); exact ⟨g14, F.sub ⟨rfl, rfl, rfl, rfl, trivial⟩, (Le.refl _), S⟩
  clear F S; rintro a w ⟨g15, F, l15, S⟩
  refine wE (ev_move rfl) F S rfl fun a F=>?_
  obtain ⟨x8, hx8, hm⟩ := bind_some hm
  refine wl_cut 10 (fun a w' => w = w' ∧ Fr 94 a [(90, .bool x8)]) ?_ ?_
  ·clear hm; obtain ⟨hc9, hm⟩ | ⟨hc9, hm⟩ := ite_or hx8
   ·refine wl_ev (wg F rfl rfl rfl rfl hc9) (ev_move rfl) F S rfl rfl ?_; clear F a; intro a F
    refine wl_ev (wg F rfl rfl rfl rfl hc9) (ev_lenOw h3 rfl tu26) F S rfl rfl ?_; clear F a; intro a F
    refine wl_ev (wg F rfl rfl rfl rfl hc9) (ev_move rfl) F S rfl rfl ?_; clear F a; intro a F
    refine wl_ev (wg F rfl rfl rfl rfl hc9) (ev_lenOw h6 rfl tu26) F S rfl rfl ?_; clear F a; intro a F
    obtain ⟨z1, hz1, hm⟩ := bind_some hm
    refine wl_ev (wg F rfl rfl rfl rfl hc9) (ev_int rfl rfl (bo_add hz1)) F S rfl rfl ?_; clear F a; intro a F
    refine wl_ev (wg F rfl rfl rfl rfl hc9) (ev_move rfl) F S rfl rfl ?_; clear F a; intro a F
    refine wl_ev (wg F rfl rfl rfl rfl hc9) (ev_lenOw h9 rfl tu26) F S rfl rfl ?_; clear F a; intro a F
    obtain ⟨z2, hz2, hm⟩ := bind_some hm
    refine wl_ev (wg F rfl rfl rfl rfl hc9) (ev_int rfl rfl (bo_add hz2)) F S rfl rfl ?_; clear F a; intro a F
    refine wl_ev (wg F rfl rfl rfl rfl hc9) (ev_int rfl rfl (bo_eql _ _ _ _)) F S rfl rfl ?_; clear F a; intro a F
    refine wE (ev_pickT rfl hc9 rfl) F S rfl fun a F=>?_
    obtain rfl := sinj hm
    refine wpList_nil (then_n ?_); exact ⟨rfl, F.sub ⟨rfl, trivial⟩⟩
   ·refine wl_skip rfl rfl rfl rfl (ne_tf hc9) F rfl rfl ?_; clear F a; intro a F
    refine wl_skip rfl rfl rfl rfl (ne_tf hc9) F rfl rfl ?_; clear F a; intro a F
    refine wl_skip rfl rfl rfl rfl (ne_tf hc9) F rfl rfl ?_; clear F a; intro a F
    refine wl_skip rfl rfl rfl rfl (ne_tf hc9) F rfl rfl ?_; clear F a; intro a F
    refine wl_skip rfl rfl rfl rfl (ne_tf hc9) F rfl rfl ?_; clear F a; intro a F
    refine wl_skip rfl rfl rfl rfl (ne_tf hc9) F rfl rfl ?_; clear F a; intro a F
    refine wl_skip rfl rfl rfl rfl (ne_tf hc9) F rfl rfl ?_; clear F a; intro a F
    refine wl_skip rfl rfl rfl rfl (ne_tf hc9) F rfl rfl ?_; clear F a; intro a F
    refine wl_skip rfl rfl rfl rfl (ne_tf hc9) F rfl rfl ?_; clear F a; intro a F
    refine wE (ev_pickF rfl hc9 rfl) F S rfl fun a F=>?_
    obtain rfl := sinj hm
    refine wpList_nil (then_n ?_); exact ⟨rfl, F.sub ⟨rfl, trivial⟩⟩
  clear F; rintro a w' ⟨rfl, F⟩
  refine wE (ev_move rfl) F S rfl fun a F=>?_
  obtain ⟨x9, hx9, hm⟩ := bind_some hm
  refine wl_cut 2 (fun a w => ∃ g17, Fr 94 a [(93, .bool x9)] ∧ Le g15 g17 ∧ St g17 [[bx b8 #[.i6 y3.2.2.Code, .i6 y3.2.2.Index] 28], [bx b7 #[v7, v8] 25], c9, [bx b6 #[.i6 y2.2.2.Code, .i6 y2.2.2.Index] 28], [bx b5 #[v4, v5] 25], c6, [bx b4 #[.i6 y1.2.2.Code, .i6 y1.2.2.Index] 28], [bx b3 #[v1, v2] 25], c3, [bx b2 #[vother1, vother2] 25], [bx b1 #[vbase1, vbase2] 25]] fr w) ?_ ?_
  ·clear hm; obtain ⟨hc10, hm⟩ | ⟨hc10, hm⟩ := ite_or hx9
   ·obtain ⟨y8, hy8, hm⟩ := bind_some hm
    refine wl_call0 (wg F rfl rfl rfl rfl hc10) rfl F rfl (changeforgelaw2_both_ok (fr := (fl [[bx b8 #[.i6 y3.2.2.Code, .i6 y3.2.2.Index] 28], [bx b7 #[v7, v8] 25], c9, [bx b6 #[.i6 y2.2.2.Code, .i6 y2.2.2.Index] 28], [bx b5 #[v4, v5] 25], c6, [bx b4 #[.i6 y1.2.2.Code, .i6 y1.2.2.Index] 28], [bx b3 #[v1, v2] 25], c3, [bx b2 #[vother1, vother2] 25], [bx b1 #[vbase1, vbase2] 25]] fr))  S hy8) rfl tc14 rfl rfl ?_; clear F a S
    rintro _ a w ⟨g18, l18, S, rfl⟩ F; replace S : St g18 [[bx b8 #[.i6 y3.2.2.Code, .i6 y3.2.2.Index] 28], [bx b7 #[v7, v8] 25], c9, [bx b6 #[.i6 y2.2.2.Code, .i6 y2.2.2.Index] 28], [bx b5 #[v4, v5] 25], c6, [bx b4 #[.i6 y1.2.2.Code, .i6 y1.2.2.Index] 28], [bx b3 #[v1, v2] 25], c3, [bx b2 #[vother1, vother2] 25], [bx b1 #[vbase1, vbase2] 25]] fr w := S
    refine wE (ev_pickT rfl hc10 rfl) F S rfl fun a F=>?_
    obtain rfl := sinj hm
    refine wpList_nil (then_n ?_); exact ⟨g18, F.sub ⟨rfl, trivial⟩, l18, S⟩
   ·refine wl_skip rfl rfl rfl rfl (ne_tf hc10) F rfl rfl ?_; clear F a; intro a F
    refine wE (ev_pickF rfl hc10 rfl) F S rfl fun a F=>?_
    obtain rfl := sinj hm
    refine wpList_nil (then_n ?_); exact ⟨g15, F.sub ⟨rfl, trivial⟩, (Le.refl _), S⟩
  clear F S; rintro a w ⟨g17, F, l17, S⟩
  refine wE (ev_assign rfl) F S rfl fun a F=>?_
  refine wpList_nil ?_
  refine then_n ?_
  refine wp_ret ?_
  obtain rfl := sinj hm
  refine post_r _ F rfl (ar_cons (resT rfl) ar_nil) ?_
  replace S : St g17 [] fr w := St.tail [] _ S
  exact ⟨_, rfl, g17, ((((((((((((l1.trans l2).trans l3).trans l6).trans l7).trans l8).trans l9).trans l10).trans l11).trans l13).trans l14).trans l15).trans l17), S, rfl⟩
end Go.Dc
