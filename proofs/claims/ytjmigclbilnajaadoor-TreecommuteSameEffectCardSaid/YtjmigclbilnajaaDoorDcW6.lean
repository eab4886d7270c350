/- Walks: each function comes to what its model says. -/
import Derived.Test.YtjmigclbilnajaaDoorDcTab
import Derived.Test.YtjmigclbilnajaaDoorDcM
import Derived.Test.YtjmigclbilnajaaDoorDcW4
import Derived.Test.YtjmigclbilnajaaDoorDcW5
namespace Go.Dc
open Go Go.Proofs
set_option maxRecDepth 100000
set_option maxHeartbeats 4000000
set_option linter.unusedVariables false
theorem commute_Commute_ok {g : Gh} {fr : Hl} {w : World} {r : Patch × Patch × Bool × Fault} (p_ : Patch) (vp_1 : Value) (hp_1 : RepSl g p_.Hunks vp_1) (q_ : Patch) (vq_1 : Value) (hq_1 : RepSl g q_.Hunks vq_1) (S : St g [] fr w) (hm : commute_Commute p_ q_ = some r) :
  Calls Tryd.prog 33 [.agg #[vp_1], .agg #[vq_1]].toArray w (fun en w' => ∃ v, en = .returned v ∧ ∃ (g' : Gh) (v1 v2 : Value), Le g g' ∧ St g' [] fr w' ∧ RepSl g' r.1.Hunks v1 ∧ RepSl g' r.2.1.Hunks v2 ∧ .tuple #[.agg #[v1], .agg #[v2], .bool r.2.2.1, .agg #[.i6 r.2.2.2.Code, .i6 r.2.2.2.Index]] = v) := by
 unfold commute_Commute at hm
 refine calls_enter (fn := Tryd.f33) Tryd.func33 rfl Tryd.ntmps33 (lb rfl) ?_
 intro a F
 replace F : Fr 62 a [(0, .agg #[vp_1]), (1, .agg #[vq_1])] := F
 refine wp_seq ?_
 refine wp_region_lit ?_
 refine wl_boxC (wn rfl) rfl rfl rfl F S rfl rfl ?_; clear F a S; rintro b1 a w F S
 refine wl_boxC (wn rfl) rfl rfl rfl F S rfl rfl ?_; clear F a S; rintro b2 a w F S
 refine wl_alloc (wn rfl) rfl tz25 (cs := [nilS]) rfl F S rfl rfl ?_; clear F a S; rintro b3 a w F S
 refine wl_alloc (wn rfl) rfl tz25 (cs := [nilS]) rfl F S rfl rfl ?_; clear F a S; rintro b4 a w F S
 refine wE (ev_assign rfl) F S rfl fun a F=>?_
 refine wl_alloc (wn rfl) rfl tz29 (cs := [.i6 0, .i6 0]) rfl F S rfl rfl ?_; clear F a S; rintro b5 a w F S
 refine wpList_nil ?_
 refine then_n ?_
 refine wp_seq ?_
 refine wp_region_lit ?_
 refine wl_alloc (wn rfl) rfl tz25 (cs := [nilS]) rfl F S rfl rfl ?_; clear F a S; rintro b6 a w F S
 refine wpList_nil ?_
 refine then_n ?_
 refine wp_seq ?_
 refine wp_seq ?_
 refine wp_region_lit ?_
 refine wE (ev_loadA tu25 rfl (cs := [vp_1]) ts25 rfl (box_ptr (cells := [vp_1]) 5 rfl 0 rfl (lb rfl))) F S rfl fun a F=>?_
 refine wE (ev_loadA tu25 rfl (cs := [vq_1]) ts25 rfl (box_ptr (cells := [vq_1]) 4 rfl 0 rfl (lb rfl))) F S rfl fun a F=>?_
 obtain ⟨y1, hy1, hm⟩ := bind_some hm
 refine wl_call0 (wn rfl) rfl F rfl (commute_both_ok (fr := (fl [[bx b6 #[nilS] 25], [bx b5 #[.i6 0, .i6 0] 29], [bx b4 #[nilS] 25], [bx b3 #[nilS] 25], [bx b2 #[vq_1] 25], [bx b1 #[vp_1] 25]] fr)) p_ vp_1 hp_1 q_ vq_1 hq_1 S hy1) rfl tc71 rfl rfl ?_; clear F a S
 rintro _ a w ⟨g1, l1, S, rfl⟩ F; replace S : St g1 [[bx b6 #[nilS] 25], [bx b5 #[.i6 0, .i6 0] 29], [bx b4 #[nilS] 25], [bx b3 #[nilS] 25], [bx b2 #[vq_1] 25], [bx b1 #[vp_1] 25]] fr w := S
 refine wl_alloc (wn rfl) rfl tz29 (cs := [.i6 0, .i6 0]) rfl F S rfl rfl ?_; clear F a S; rintro b7 a w F S
 refine wl_storeC (wn rfl) rfl F S rfl rfl (vs := [.i6 y1.Code, .i6 y1.Index]) rfl ts29 (one_cons rfl (one_cons rfl one_nil)) (k := 0) rfl (lb rfl) (c' := #[.i6 y1.Code, .i6 y1.Index]) rfl rfl ?_; clear S; intro w S
 refine wpList_nil ?_
 refine then_n ?_
 refine wp_seq ?_
 refine wp_region_lit ?_
 refine wE (ev_loadA tu29 rfl (cs := [.i6 y1.Code, .i6 y1.Index]) ts29 rfl (box_ptr (cells := [.i6 y1.Code, .i6 y1.Index]) 0 rfl 0 rfl (lb rfl))) F S rfl fun a F=>?_
 refine wE (ev_build (parts := []) (vs := []) rfl (fun w => tb29_  w)) F S rfl fun a F=>?_
 refine wE (ev_neS tu29 tqa29 tqb29 tqc29 (xs := [.i6 y1.Code, .i6 y1.Index]) (ys := [.i6 0, .i6 0]) rfl rfl ⟨_, _, rfl, by decide, ⟨_, _, rfl, rfl, leaf_int tu3⟩, ⟨_, _, rfl, by decide, ⟨_, _, rfl, rfl, leaf_int tu3⟩, rfl⟩⟩) F S rfl fun a F=>?_
 refine wpList_nil ?_
 refine then_n ?_
 obtain ⟨hc1, hm⟩ | ⟨hc1, hm⟩ := ite_or hm
 ·refine wp_condT F rfl hc1 ?_
  refine wp_seq ?_
  refine wp_dv [] mo S ?_; clear S; intro ok1 w S
  refine dv_ev ok1 0 rfl (ev_loadA tu25 rfl (cs := [nilS]) ts25 rfl (box_ptr (cells := [nilS]) 1 rfl 0 rfl (lb rfl))) F S rfl fun a F=>?_
  refine dv_ev ok1 1 rfl (ev_loadA tu25 rfl (cs := [nilS]) ts25 rfl (box_ptr (cells := [nilS]) 1 rfl 0 rfl (lb rfl))) F S rfl fun a F=>?_
  refine dv_ev ok1 2 rfl (ev_loadA tu29 rfl (cs := [.i6 y1.Code, .i6 y1.Index]) ts29 rfl (box_ptr (cells := [.i6 y1.Code, .i6 y1.Index]) 0 rfl 0 rfl (lb rfl))) F S rfl fun a F=>?_
  refine dv_op ok1 3 rfl [(2, .agg #[.i6 y1.Code, .i6 y1.Index]), (1, .agg #[nilS])] ?_
  refine wl_storeC (wn rfl) rfl F S rfl rfl (vs := [nilS]) rfl ts25 (one_cons rfl one_nil) (k := 4) rfl (lb rfl) (c' := #[nilS]) rfl rfl ?_; clear S; intro w S
  refine dv_nx ⟨yl_ev rfl rfl (ev_loadA tu29 rfl (cs := [.i6 y1.Code, .i6 y1.Index]) ts29 rfl (box_ptr (cells := [.i6 y1.Code, .i6 y1.Index]) 0 rfl 0 rfl (lb rfl))) F S, yl_ev rfl rfl (ev_loadA tu25 rfl (cs := [nilS]) ts25 rfl (box_ptr (cells := [nilS]) 1 rfl 0 rfl (lb rfl))) F S, trivial⟩ ?_
  refine dv_op ok1 4 rfl [(2, .agg #[.i6 y1.Code, .i6 y1.Index])] ?_
  refine wl_storeC (wn rfl) rfl F S rfl rfl (vs := [nilS]) rfl ts25 (one_cons rfl one_nil) (k := 3) rfl (lb rfl) (c' := #[nilS]) rfl rfl ?_; clear S; intro w S
  refine dv_nx ⟨yl_ev rfl rfl (ev_loadA tu29 rfl (cs := [.i6 y1.Code, .i6 y1.Index]) ts29 rfl (box_ptr (cells := [.i6 y1.Code, .i6 y1.Index]) 0 rfl 0 rfl (lb rfl))) F S, trivial⟩ ?_
  refine dv_et ok1 5 rfl (ev_assign rfl) F rfl fun a F=>?_
  refine dv_op ok1 6 rfl [] ?_
  refine wl_storeC (wn rfl) rfl F S rfl rfl (vs := [.i6 y1.Code, .i6 y1.Index]) rfl ts29 (one_cons rfl (one_cons rfl one_nil)) (k := 2) rfl (lb rfl) (c' := #[.i6 y1.Code, .i6 y1.Index]) rfl rfl ?_; clear S; intro w S
  refine dv_nx trivial ?_
  refine dv_fin ok1 ?_
  refine then_n ?_
  refine wp_ret ?_
  refine then_r ?_
  obtain rfl := sinj hm
  refine post_r _ F rfl (ar_cons (resA rfl tu25 rfl (box_ptr (cells := [nilS]) 4 rfl 0 rfl (lb rfl) w S) ts25) (ar_cons (resA rfl tu25 rfl (box_ptr (cells := [nilS]) 3 rfl 0 rfl (lb rfl) w S) ts25) (ar_cons (resT rfl) (ar_cons (resA rfl tu29 rfl (box_ptr (cells := [.i6 y1.Code, .i6 y1.Index]) 2 rfl 0 rfl (lb rfl) w S) ts29) ar_nil)))) ?_
  replace S : St g1 [] fr w := St.tail [] _ S
  exact ⟨_, rfl, g1, (nilS), (nilS), l1, S, (RepSl.nil _), (RepSl.nil _), rfl⟩
 ·refine wp_condF F rfl hc1 ?_
  refine wp_skip ?_
  refine then_n ?_
  refine wp_seq ?_
  refine wp_region_lit ?_
  refine wE (ev_loadA tu25 rfl (cs := [vp_1]) ts25 rfl (box_ptr (cells := [vp_1]) 6 rfl 0 rfl (lb rfl))) F S rfl fun a F=>?_
  obtain ⟨y2, hy2, hm⟩ := bind_some hm
  refine wl_call0 (wn rfl) rfl F rfl (commute_newRanges_ok (fr := (fl [[bx b7 #[.i6 y1.Code, .i6 y1.Index] 29], [bx b6 #[nilS] 25], [bx b5 #[.i6 0, .i6 0] 29], [bx b4 #[nilS] 25], [bx b3 #[nilS] 25], [bx b2 #[vq_1] 25], [bx b1 #[vp_1] 25]] fr)) p_ vp_1 (hp_1.mono l1) S hy2) rfl tc72 rfl rfl ?_; clear F a S
  rintro _ a w ⟨g2, v1, c1, l2, S, h1, rfl⟩ F; replace S : St g2 [c1, [bx b7 #[.i6 y1.Code, .i6 y1.Index] 29], [bx b6 #[nilS] 25], [bx b5 #[.i6 0, .i6 0] 29], [bx b4 #[nilS] 25], [bx b3 #[nilS] 25], [bx b2 #[vq_1] 25], [bx b1 #[vp_1] 25]] fr w := S
  refine wE (ev_assign rfl) F S rfl fun a F=>?_
  refine wpList_nil ?_
  refine then_n ?_
  refine wp_seq ?_
  refine wp_seq ?_
  refine wp_region_lit ?_
  refine wE (ev_move rfl) F S rfl fun a F=>?_
  refine wE (ev_loadA tu25 rfl (cs := [vq_1]) ts25 rfl (box_ptr (cells := [vq_1]) 6 rfl 0 rfl (lb rfl))) F S rfl fun a F=>?_
  obtain ⟨y3, hy3, hm⟩ := bind_some hm
  refine wl_call0 (wn rfl) rfl F rfl (commute_OldRanges_ok (fr := (fl [c1, [bx b7 #[.i6 y1.Code, .i6 y1.Index] 29], [bx b6 #[nilS] 25], [bx b5 #[.i6 0, .i6 0] 29], [bx b4 #[nilS] 25], [bx b3 #[nilS] 25], [bx b2 #[vq_1] 25], [bx b1 #[vp_1] 25]] fr)) q_ vq_1 (hq_1.mono (l1.trans l2)) S hy3) rfl tc74 rfl rfl ?_; clear F a S
  rintro _ a w ⟨g3, v2, c2, l3, S, h2, rfl⟩ F; replace S : St g3 [c2, c1, [bx b7 #[.i6 y1.Code, .i6 y1.Index] 29], [bx b6 #[nilS] 25], [bx b5 #[.i6 0, .i6 0] 29], [bx b4 #[nilS] 25], [bx b3 #[nilS] 25], [bx b2 #[vq_1] 25], [bx b1 #[vp_1] 25]] fr w := S
  obtain ⟨g4, l4, S, h3⟩ : ∃ gz, Le g3 gz ∧ St gz [c2, [bx b7 #[.i6 y1.Code, .i6 y1.Index] 29], [bx b6 #[nilS] 25], [bx b5 #[.i6 0, .i6 0] 29], [bx b4 #[nilS] 25], [bx b3 #[nilS] 25], [bx b2 #[vq_1] 25], [bx b1 #[vp_1] 25]] fr w ∧ RepSl gz y2 v1 := ⟨_, Le.add _ _, S.freeze 1 rfl, OwnS.freeze (S.front 1 rfl) (h1.mono l3)⟩
  obtain ⟨g5, l5, S, h4⟩ : ∃ gz, Le g4 gz ∧ St gz [[bx b7 #[.i6 y1.Code, .i6 y1.Index] 29], [bx b6 #[nilS] 25], [bx b5 #[.i6 0, .i6 0] 29], [bx b4 #[nilS] 25], [bx b3 #[nilS] 25], [bx b2 #[vq_1] 25], [bx b1 #[vp_1] 25]] fr w ∧ RepSl gz y3 v2 := ⟨_, Le.add _ _, S.freeze 0 rfl, OwnS.freeze (S.front 0 rfl) (h2.mono l4)⟩
  obtain ⟨y4, hy4, hm⟩ := bind_some hm
  refine wl_call0 (wn rfl) rfl F rfl (commute_meet_ok (fr := (fl [[bx b7 #[.i6 y1.Code, .i6 y1.Index] 29], [bx b6 #[nilS] 25], [bx b5 #[.i6 0, .i6 0] 29], [bx b4 #[nilS] 25], [bx b3 #[nilS] 25], [bx b2 #[vq_1] 25], [bx b1 #[vp_1] 25]] fr)) y2 v1 (h3.mono l5) y3 v2 h4 S hy4) rfl tc73 rfl rfl ?_; clear F a S
  rintro _ a w ⟨g6, l6, S, rfl⟩ F; replace S : St g6 [[bx b7 #[.i6 y1.Code, .i6 y1.Index] 29], [bx b6 #[nilS] 25], [bx b5 #[.i6 0, .i6 0] 29], [bx b4 #[nilS] 25], [bx b3 #[nilS] 25], [bx b2 #[vq_1] 25], [bx b1 #[vp_1] 25]] fr w := S
  refine wpList_nil ?_
  refine then_n ?_
  obtain ⟨hc2, hm⟩ | ⟨hc2, hm⟩ := ite_or hm
  ·refine wp_condT F rfl hc2 ?_
   refine wp_seq ?_
   refine wp_dv [] mo S ?_; clear S; intro ok2 w S
   refine dv_ev ok2 0 rfl (ev_loadA tu25 rfl (cs := [nilS]) ts25 rfl (box_ptr (cells := [nilS]) 1 rfl 0 rfl (lb rfl))) F S rfl fun a F=>?_
   refine dv_ev ok2 1 rfl (ev_loadA tu25 rfl (cs := [nilS]) ts25 rfl (box_ptr (cells := [nilS]) 1 rfl 0 rfl (lb rfl))) F S rfl fun a F=>?_
   refine dv_et ok2 2 rfl (ev_build (parts := []) (vs := []) rfl (fun w => tb29_  w)) F rfl fun a F=>?_
   refine dv_op ok2 3 rfl [(1, .agg #[nilS])] ?_
   refine wl_storeC (wn rfl) rfl F S rfl rfl (vs := [nilS]) rfl ts25 (one_cons rfl one_nil) (k := 4) rfl (lb rfl) (c' := #[nilS]) rfl rfl ?_; clear S; intro w S
   refine dv_nx ⟨yl_ev rfl rfl (ev_loadA tu25 rfl (cs := [nilS]) ts25 rfl (box_ptr (cells := [nilS]) 1 rfl 0 rfl (lb rfl))) F S, trivial⟩ ?_
   refine dv_op ok2 4 rfl [] ?_
   refine wl_storeC (wn rfl) rfl F S rfl rfl (vs := [nilS]) rfl ts25 (one_cons rfl one_nil) (k := 3) rfl (lb rfl) (c' := #[nilS]) rfl rfl ?_; clear S; intro w S
   refine dv_nx trivial ?_
   refine dv_et ok2 5 rfl (ev_assign rfl) F rfl fun a F=>?_
   refine dv_op ok2 6 rfl [] ?_
   refine wl_storeC (wn rfl) rfl F S rfl rfl (vs := [.i6 0, .i6 0]) rfl ts29 (one_cons rfl (one_cons rfl one_nil)) (k := 2) rfl (lb rfl) (c' := #[.i6 0, .i6 0]) rfl rfl ?_; clear S; intro w S
   refine dv_nx trivial ?_
   refine dv_fin ok2 ?_
   refine then_n ?_
   refine wp_ret ?_
   refine then_r ?_
   obtain rfl := sinj hm
   refine post_r _ F rfl (ar_cons (resA rfl tu25 rfl (box_ptr (cells := [nilS]) 4 rfl 0 rfl (lb rfl) w S) ts25) (ar_cons (resA rfl tu25 rfl (box_ptr (cells := [nilS]) 3 rfl 0 rfl (lb rfl) w S) ts25) (ar_cons (resT rfl) (ar_cons (resA rfl tu29 rfl (box_ptr (cells := [.i6 0, .i6 0]) 2 rfl 0 rfl (lb rfl) w S) ts29) ar_nil)))) ?_
   replace S : St g6 [] fr w := St.tail [] _ S
   exact ⟨_, rfl, g6, (nilS), (nilS), (((((l1.trans l2).trans l3).trans l4).trans l5).trans l6), S, (RepSl.nil _), (RepSl.nil _), rfl⟩
  ·refine wp_condF F rfl hc2 ?_
   refine wp_skip ?_
   refine then_n ?_
   refine wp_seq ?_
   refine wp_region_lit ?_
   refine wE (ev_loadA tu25 rfl (cs := [vq_1]) ts25 rfl (box_ptr (cells := [vq_1]) 5 rfl 0 rfl (lb rfl))) F S rfl fun a F=>?_
   refine wE (ev_move rfl) F S rfl fun a F=>?_
   obtain ⟨y5, hy5, hm⟩ := bind_some hm
   refine wl_call0 (wn rfl) rfl F rfl (commute_shift_ok (fr := (fl [[bx b7 #[.i6 y1.Code, .i6 y1.Index] 29], [bx b6 #[nilS] 25], [bx b5 #[.i6 0, .i6 0] 29], [bx b4 #[nilS] 25], [bx b3 #[nilS] 25], [bx b2 #[vq_1] 25], [bx b1 #[vp_1] 25]] fr)) q_ vq_1 (hq_1.mono (((((l1.trans l2).trans l3).trans l4).trans l5).trans l6)) y2 v1 (h3.mono (l5.trans l6)) (-1) S hy5) rfl tc76 rfl rfl ?_; clear F a S
   rintro _ a w ⟨g7, v3, c3, l7, S, h5, rfl⟩ F; replace S : St g7 [c3, [bx b7 #[.i6 y1.Code, .i6 y1.Index] 29], [bx b6 #[nilS] 25], [bx b5 #[.i6 0, .i6 0] 29], [bx b4 #[nilS] 25], [bx b3 #[nilS] 25], [bx b2 #[vq_1] 25], [bx b1 #[vp_1] 25]] fr w := S
   obtain ⟨g8, l8, S, h6⟩ : ∃ gz, Le g7 gz ∧ St gz [[bx b7 #[.i6 y1.Code, .i6 y1.Index] 29], [bx b6 #[nilS] 25], [bx b5 #[.i6 0, .i6 0] 29], [bx b4 #[nilS] 25], [bx b3 #[nilS] 25], [bx b2 #[vq_1] 25], [bx b1 #[vp_1] 25]] fr w ∧ RepSl gz y5.Hunks v3 := ⟨_, Le.add _ _, S.freeze 0 rfl, OwnS.freeze (S.front 0 rfl) h5⟩
   obtain ⟨y6, hy6, hm⟩ := bind_some hm
   refine wl_call0 (wn rfl) rfl F rfl (textpatch_Made_ok (fr := (fl [[bx b7 #[.i6 y1.Code, .i6 y1.Index] 29], [bx b6 #[nilS] 25], [bx b5 #[.i6 0, .i6 0] 29], [bx b4 #[nilS] 25], [bx b3 #[nilS] 25], [bx b2 #[vq_1] 25], [bx b1 #[vp_1] 25]] fr)) y5 v3 h6 S hy6) rfl tc75 rfl rfl ?_; clear F a S
   rintro _ a w ⟨g9, v4, l9, S, h7, rfl⟩ F; replace S : St g9 [[bx b7 #[.i6 y1.Code, .i6 y1.Index] 29], [bx b6 #[nilS] 25], [bx b5 #[.i6 0, .i6 0] 29], [bx b4 #[nilS] 25], [bx b3 #[nilS] 25], [bx b2 #[vq_1] 25], [bx b1 #[vp_1] 25]] fr w := S
   refine wE (ev_move rfl) F S rfl fun a F=>?_
   refine wE (ev_extract rfl rfl) F S rfl fun a F=>?_
   refine wE (ev_extract rfl rfl) F S rfl fun a F=>?_
   refine wl_alloc (wn rfl) rfl tz25 (cs := [nilS]) rfl F S rfl rfl ?_; clear F a S; rintro b8 a w F S
   refine wl_alloc (wn rfl) rfl tz29 (cs := [.i6 0, .i6 0]) rfl F S rfl rfl ?_; clear F a S; rintro b9 a w F S
   refine wl_storeC (wn rfl) rfl F S rfl rfl (vs := [v4]) rfl ts25 (one_cons h7.one one_nil) (k := 1) rfl (lb rfl) (c' := #[v4]) rfl rfl ?_; clear S; intro w S
   refine wl_storeC (wn rfl) rfl F S rfl rfl (vs := [.i6 y6.2.Code, .i6 y6.2.Index]) rfl ts29 (one_cons rfl (one_cons rfl one_nil)) (k := 0) rfl (lb rfl) (c' := #[.i6 y6.2.Code, .i6 y6.2.Index]) rfl rfl ?_; clear S; intro w S
   refine wpList_nil ?_
   refine then_n ?_
   refine wp_seq ?_
   refine wp_seq ?_
   refine wp_region_lit ?_
   refine wE (ev_loadA tu29 rfl (cs := [.i6 y6.2.Code, .i6 y6.2.Index]) ts29 rfl (box_ptr (cells := [.i6 y6.2.Code, .i6 y6.2.Index]) 0 rfl 0 rfl (lb rfl))) F S rfl fun a F=>?_
   refine wE (ev_build (parts := []) (vs := []) rfl (fun w => tb29_  w)) F S rfl fun a F=>?_
   refine wE (ev_neS tu29 tqa29 tqb29 tqc29 (xs := [.i6 y6.2.Code, .i6 y6.2.Index]) (ys := [.i6 0, .i6 0]) rfl rfl ⟨_, _, rfl, by decide, ⟨_, _, rfl, rfl, leaf_int tu3⟩, ⟨_, _, rfl, by decide, ⟨_, _, rfl, rfl, leaf_int tu3⟩, rfl⟩⟩) F S rfl fun a F=>?_
   refine wpList_nil ?_
   refine then_n ?_
   obtain ⟨hc3, hm⟩ | ⟨hc3, hm⟩ := ite_or hm
   ·refine wp_condT F rfl hc3 ?_
    refine wp_seq ?_
    refine wp_dv [] mo S ?_; clear S; intro ok3 w S
    refine dv_ev ok3 0 rfl (ev_loadA tu25 rfl (cs := [nilS]) ts25 rfl (box_ptr (cells := [nilS]) 3 rfl 0 rfl (lb rfl))) F S rfl fun a F=>?_
    refine dv_ev ok3 1 rfl (ev_loadA tu25 rfl (cs := [nilS]) ts25 rfl (box_ptr (cells := [nilS]) 3 rfl 0 rfl (lb rfl))) F S rfl fun a F=>?_
    refine dv_ev ok3 2 rfl (ev_loadA tu29 rfl (cs := [.i6 y6.2.Code, .i6 y6.2.Index]) ts29 rfl (box_ptr (cells := [.i6 y6.2.Code, .i6 y6.2.Index]) 0 rfl 0 rfl (lb rfl))) F S rfl fun a F=>?_
    refine dv_op ok3 3 rfl [(2, .agg #[.i6 y6.2.Code, .i6 y6.2.Index]), (1, .agg #[nilS])] ?_
    refine wl_storeC (wn rfl) rfl F S rfl rfl (vs := [nilS]) rfl ts25 (one_cons rfl one_nil) (k := 6) rfl (lb rfl) (c' := #[nilS]) rfl rfl ?_; clear S; intro w S
    refine dv_nx ⟨yl_ev rfl rfl (ev_loadA tu29 rfl (cs := [.i6 y6.2.Code, .i6 y6.2.Index]) ts29 rfl (box_ptr (cells := [.i6 y6.2.Code, .i6 y6.2.Index]) 0 rfl 0 rfl (lb rfl))) F S, yl_ev rfl rfl (ev_loadA tu25 rfl (cs := [nilS]) ts25 rfl (box_ptr (cells := [nilS]) 3 rfl 0 rfl (lb rfl))) F S, trivial⟩ ?_
    refine dv_op ok3 4 rfl [(2, .agg #[.i6 y6.2.Code, .i6 y6.2.Index])] ?_
    refine wl_storeC (wn rfl) rfl F S rfl rfl (vs := [nilS]) rfl ts25 (one_cons rfl one_nil) (k := 5) rfl (lb rfl) (c' := #[nilS]) rfl rfl ?_; clear S; intro w S
    refine dv_nx ⟨yl_ev rfl rfl (ev_loadA tu29 rfl (cs := [.i6 y6.2.Code, .i6 y6.2.Index]) ts29 rfl (box_ptr (cells := [.i6 y6.2.Code, .i6 y6.2.Index]) 0 rfl 0 rfl (lb rfl))) F S, trivial⟩ ?_
    refine dv_et ok3 5 rfl (ev_assign rfl) F rfl fun a F=>?_
    refine dv_op ok3 6 rfl [] ?_
    refine wl_storeC (wn rfl) rfl F S rfl rfl (vs := [.i6 y6.2.Code, .i6 y6.2.Index]) rfl ts29 (one_cons rfl (one_cons rfl one_nil)) (k := 4) rfl (lb rfl) (c' := #[.i6 y6.2.Code, .i6 y6.2.Index]) rfl rfl ?_; clear S; intro w S
    refine dv_nx trivial ?_
    refine dv_fin ok3 ?_
    refine then_n ?_
    refine wp_ret ?_
    refine then_r ?_
    obtain rfl := sinj hm
    refine post_r _ F rfl (ar_cons (resA rfl tu25 rfl (box_ptr (cells := [nilS]) 6 rfl 0 rfl (lb rfl) w S) ts25) (ar_cons (resA rfl tu25 rfl (box_ptr (cells := [nilS]) 5 rfl 0 rfl (lb rfl) w S) ts25) (ar_cons (resT rfl) (ar_cons (resA rfl tu29 rfl (box_ptr (cells := [.i6 y6.2.Code, .i6 y6.2.Index]) 4 rfl 0 rfl (lb rfl) w S) ts29) ar_nil)))) ?_
    replace S : St g9 [] fr w := St.tail [] _ S
    exact ⟨_, rfl, g9, (nilS), (nilS), ((((((((l1.trans l2).trans l3).trans l4).trans l5).trans l6).trans l7).trans l8).trans l9), S, (RepSl.nil _), (RepSl.nil _), rfl⟩
   ·refine wp_condF F rfl hc3 ?_
    refine wp_skip ?_
    refine then_n ?_
    refine wp_seq ?_
    refine wp_dv [] mo S ?_; clear S; intro ok4 w S
    refine dv_ev ok4 0 rfl (ev_loadA tu25 rfl (cs := [vp_1]) ts25 rfl (box_ptr (cells := [vp_1]) 8 rfl 0 rfl (lb rfl))) F S rfl fun a F=>?_
    refine dv_ev ok4 1 rfl (ev_loadA tu25 rfl (cs := [v4]) ts25 rfl (box_ptr (cells := [v4]) 1 rfl 0 rfl (lb rfl))) F S rfl fun a F=>?_
    obtain ⟨y7, hy7, hm⟩ := bind_some hm
    obtain ⟨y8, hy8, hm⟩ := bind_some hm
    obtain ⟨y9, hy9, hm⟩ := bind_some hm
    refine dv_cut [0, 1, 2, 3, 4, 5, 6, 7, 8] [] (fun a w => ∃ (v8 : Value) (b11 : Nat) (g15 : Gh), Fr 62 a [(13, bp b11 0), (52, .agg #[.i6 y9.2.Code, .i6 y9.2.Index]), (51, .agg #[v8]), (12, bp b9 0), (11, bp b8 0), (8, bp b6 0), (7, bp b5 0), (5, bp b4 0), (4, bp b3 0)] ∧ Le g9 g15 ∧ St g15 [[bx b11 #[nilS] 25], [bx b9 #[.i6 y6.2.Code, .i6 y6.2.Index] 29], [bx b8 #[v4] 25], [bx b6 #[nilS] 25], [bx b5 #[.i6 0, .i6 0] 29], [bx b4 #[nilS] 25], [bx b3 #[nilS] 25]] fr w ∧ RepSl g15 y9.1.Hunks v8 ∧ commute_Commute.j1 y6 y9 = some r) ?_ ?_
    ·intro HJ
     refine dv_fork ok4 2 [8] (fk 2 rfl [(0, .agg #[vp_1])] ?_ (fk 8 rfl [(1, .agg #[v4]), (0, .agg #[vp_1])] ?_ trivial))
     ·refine wl_call0 (wn rfl) rfl F rfl (commute_OldRanges_ok (fr := (fl [[bx b9 #[.i6 y6.2.Code, .i6 y6.2.Index] 29], [bx b8 #[v4] 25], [bx b7 #[.i6 y1.Code, .i6 y1.Index] 29], [bx b6 #[nilS] 25], [bx b5 #[.i6 0, .i6 0] 29], [bx b4 #[nilS] 25], [bx b3 #[nilS] 25], [bx b2 #[vq_1] 25], [bx b1 #[vp_1] 25]] fr)) y6.1 v4 h7 S hy7) rfl tc74 rfl rfl ?_; clear F a S
      rintro _ a w ⟨g10, v5, c4, l10, S, h8, rfl⟩ F; replace S : St g10 [c4, [bx b9 #[.i6 y6.2.Code, .i6 y6.2.Index] 29], [bx b8 #[v4] 25], [bx b7 #[.i6 y1.Code, .i6 y1.Index] 29], [bx b6 #[nilS] 25], [bx b5 #[.i6 0, .i6 0] 29], [bx b4 #[nilS] 25], [bx b3 #[nilS] 25], [bx b2 #[vq_1] 25], [bx b1 #[vp_1] 25]] fr w := S
      refine dv_nx ⟨yl_ev rfl rfl (ev_loadA tu25 rfl (cs := [vp_1]) ts25 rfl (box_ptr (cells := [vp_1]) 9 rfl 0 rfl (lb rfl))) F S, trivial⟩ ?_
      refine dv_fork ok4 3 [8] (fk 3 rfl [] ?_ (fk 8 rfl [(0, .agg #[vp_1])] ?_ trivial))
      ·obtain ⟨g11, l11, S, h9⟩ : ∃ gz, Le g10 gz ∧ St gz [[bx b9 #[.i6 y6.2.Code, .i6 y6.2.Index] 29], [bx b8 #[v4] 25], [bx b7 #[.i6 y1.Code, .i6 y1.Index] 29], [bx b6 #[nilS] 25], [bx b5 #[.i6 0, .i6 0] 29], [bx b4 #[nilS] 25], [bx b3 #[nilS] 25], [bx b2 #[vq_1] 25], [bx b1 #[vp_1] 25]] fr w ∧ RepSl gz y7 v5 := ⟨_, Le.add _ _, S.freeze 0 rfl, OwnS.freeze (S.front 0 rfl) h8⟩
       refine wl_call0 (wn rfl) rfl F rfl (commute_shift_ok (fr := (fl [[bx b9 #[.i6 y6.2.Code, .i6 y6.2.Index] 29], [bx b8 #[v4] 25], [bx b7 #[.i6 y1.Code, .i6 y1.Index] 29], [bx b6 #[nilS] 25], [bx b5 #[.i6 0, .i6 0] 29], [bx b4 #[nilS] 25], [bx b3 #[nilS] 25], [bx b2 #[vq_1] 25], [bx b1 #[vp_1] 25]] fr)) p_ vp_1 (hp_1.mono ((((((((((l1.trans l2).trans l3).trans l4).trans l5).trans l6).trans l7).trans l8).trans l9).trans l10).trans l11)) y7 v5 h9 1 S hy8) rfl tc76 rfl rfl ?_; clear F a S
       rintro _ a w ⟨g12, v6, c5, l12, S, h10, rfl⟩ F; replace S : St g12 [c5, [bx b9 #[.i6 y6.2.Code, .i6 y6.2.Index] 29], [bx b8 #[v4] 25], [bx b7 #[.i6 y1.Code, .i6 y1.Index] 29], [bx b6 #[nilS] 25], [bx b5 #[.i6 0, .i6 0] 29], [bx b4 #[nilS] 25], [bx b3 #[nilS] 25], [bx b2 #[vq_1] 25], [bx b1 #[vp_1] 25]] fr w := S
       refine dv_nx trivial ?_
       refine dv_fork ok4 4 [8] (fk 4 rfl [] ?_ (fk 8 rfl [] ?_ trivial))
       ·obtain ⟨g13, l13, S, h11⟩ : ∃ gz, Le g12 gz ∧ St gz [[bx b9 #[.i6 y6.2.Code, .i6 y6.2.Index] 29], [bx b8 #[v4] 25], [bx b7 #[.i6 y1.Code, .i6 y1.Index] 29], [bx b6 #[nilS] 25], [bx b5 #[.i6 0, .i6 0] 29], [bx b4 #[nilS] 25], [bx b3 #[nilS] 25], [bx b2 #[vq_1] 25], [bx b1 #[vp_1] 25]] fr w ∧ RepSl gz y8.Hunks v6 := ⟨_, Le.add _ _, S.freeze 0 rfl, OwnS.freeze (S.front 0 rfl) h10⟩
        refine wl_call0 (wn rfl) rfl F rfl (textpatch_Made_ok (fr := (fl [[bx b9 #[.i6 y6.2.Code, .i6 y6.2.Index] 29], [bx b8 #[v4] 25], [bx b7 #[.i6 y1.Code, .i6 y1.Index] 29], [bx b6 #[nilS] 25], [bx b5 #[.i6 0, .i6 0] 29], [bx b4 #[nilS] 25], [bx b3 #[nilS] 25], [bx b2 #[vq_1] 25], [bx b1 #[vp_1] 25]] fr)) y8 v6 h11 S hy9) rfl tc75 rfl rfl ?_; clear F a S
        rintro _ a w ⟨g14, v7, l14, S, h12, rfl⟩ F; replace S : St g14 [[bx b9 #[.i6 y6.2.Code, .i6 y6.2.Index] 29], [bx b8 #[v4] 25], [bx b7 #[.i6 y1.Code, .i6 y1.Index] 29], [bx b6 #[nilS] 25], [bx b5 #[.i6 0, .i6 0] 29], [bx b4 #[nilS] 25], [bx b3 #[nilS] 25], [bx b2 #[vq_1] 25], [bx b1 #[vp_1] 25]] fr w := S
        refine dv_nx trivial ?_
        refine dv_et ok4 5 rfl (ev_move rfl) F rfl fun a F=>?_
        refine dv_et ok4 6 rfl (ev_extract rfl rfl) F rfl fun a F=>?_
        refine dv_et ok4 7 rfl (ev_extract rfl rfl) F rfl fun a F=>?_
        refine dv_op ok4 8 rfl [] ?_
        refine wl_alloc (wn rfl) rfl tz25 (cs := [nilS]) rfl F S rfl rfl ?_; clear F a S; rintro b10 a w F S
        refine dv_nx trivial ?_
        refine dv_join (HJ _ _ ?_)
        replace S : St g14 [[bx b10 #[nilS] 25], [bx b9 #[.i6 y6.2.Code, .i6 y6.2.Index] 29], [bx b8 #[v4] 25], [bx b6 #[nilS] 25], [bx b5 #[.i6 0, .i6 0] 29], [bx b4 #[nilS] 25], [bx b3 #[nilS] 25]] fr w := St.tail [[bx b10 #[nilS] 25], [bx b9 #[.i6 y6.2.Code, .i6 y6.2.Index] 29], [bx b8 #[v4] 25], [bx b6 #[nilS] 25], [bx b5 #[.i6 0, .i6 0] 29], [bx b4 #[nilS] 25], [bx b3 #[nilS] 25]] _ (((((((S.frontC 7 rfl).frontC 7 rfl).frontC 7 rfl).frontC 7 rfl).frontC 6 rfl).frontC 6 rfl).frontC 6 rfl)
        exact ⟨v7, b10, g14, F.sub ⟨rfl, rfl, rfl, rfl, rfl, rfl, rfl, rfl, rfl, trivial⟩, ((((l10.trans l11).trans l12).trans l13).trans l14), S, h12, hm⟩
       ·refine wl_alloc (wn rfl) rfl tz25 (cs := [nilS]) rfl F S rfl rfl ?_; clear F a S; rintro b10 a w F S
        refine dv_nx trivial ?_
        refine dv_op ok4 4 rfl [] ?_
        obtain ⟨g13, l13, S, h11⟩ : ∃ gz, Le g12 gz ∧ St gz [[bx b10 #[nilS] 25], [bx b9 #[.i6 y6.2.Code, .i6 y6.2.Index] 29], [bx b8 #[v4] 25], [bx b7 #[.i6 y1.Code, .i6 y1.Index] 29], [bx b6 #[nilS] 25], [bx b5 #[.i6 0, .i6 0] 29], [bx b4 #[nilS] 25], [bx b3 #[nilS] 25], [bx b2 #[vq_1] 25], [bx b1 #[vp_1] 25]] fr w ∧ RepSl gz y8.Hunks v6 := ⟨_, Le.add _ _, S.freeze 1 rfl, OwnS.freeze (S.front 1 rfl) h10⟩
        refine wl_call0 (wn rfl) rfl F rfl (textpatch_Made_ok (fr := (fl [[bx b10 #[nilS] 25], [bx b9 #[.i6 y6.2.Code, .i6 y6.2.Index] 29], [bx b8 #[v4] 25], [bx b7 #[.i6 y1.Code, .i6 y1.Index] 29], [bx b6 #[nilS] 25], [bx b5 #[.i6 0, .i6 0] 29], [bx b4 #[nilS] 25], [bx b3 #[nilS] 25], [bx b2 #[vq_1] 25], [bx b1 #[vp_1] 25]] fr)) y8 v6 h11 S hy9) rfl tc75 rfl rfl ?_; clear F a S
        rintro _ a w ⟨g14, v7, l14, S, h12, rfl⟩ F; replace S : St g14 [[bx b10 #[nilS] 25], [bx b9 #[.i6 y6.2.Code, .i6 y6.2.Index] 29], [bx b8 #[v4] 25], [bx b7 #[.i6 y1.Code, .i6 y1.Index] 29], [bx b6 #[nilS] 25], [bx b5 #[.i6 0, .i6 0] 29], [bx b4 #[nilS] 25], [bx b3 #[nilS] 25], [bx b2 #[vq_1] 25], [bx b1 #[vp_1] 25]] fr w := S
        refine dv_nx trivial ?_
        refine dv_et ok4 5 rfl (ev_move rfl) F rfl fun a F=>?_
        refine dv_et ok4 6 rfl (ev_extract rfl rfl) F rfl fun a F=>?_
        refine dv_et ok4 7 rfl (ev_extract rfl rfl) F rfl fun a F=>?_
        refine dv_join (HJ _ _ ?_)
        replace S : St g14 [[bx b10 #[nilS] 25], [bx b9 #[.i6 y6.2.Code, .i6 y6.2.Index] 29], [bx b8 #[v4] 25], [bx b6 #[nilS] 25], [bx b5 #[.i6 0, .i6 0] 29], [bx b4 #[nilS] 25], [bx b3 #[nilS] 25]] fr w := St.tail [[bx b10 #[nilS] 25], [bx b9 #[.i6 y6.2.Code, .i6 y6.2.Index] 29], [bx b8 #[v4] 25], [bx b6 #[nilS] 25], [bx b5 #[.i6 0, .i6 0] 29], [bx b4 #[nilS] 25], [bx b3 #[nilS] 25]] _ (((((((S.frontC 7 rfl).frontC 7 rfl).frontC 7 rfl).frontC 7 rfl).frontC 6 rfl).frontC 6 rfl).frontC 6 rfl)
        exact ⟨v7, b10, g14, F.sub ⟨rfl, rfl, rfl, rfl, rfl, rfl, rfl, rfl, rfl, trivial⟩, ((((l10.trans l11).trans l12).trans l13).trans l14), S, h12, hm⟩
      ·refine wl_alloc (wn rfl) rfl tz25 (cs := [nilS]) rfl F S rfl rfl ?_; clear F a S; rintro b10 a w F S
       refine dv_nx ⟨yl_ev rfl rfl (ev_loadA tu25 rfl (cs := [vp_1]) ts25 rfl (box_ptr (cells := [vp_1]) 10 rfl 0 rfl (lb rfl))) F S, trivial⟩ ?_
       refine dv_op ok4 3 rfl [] ?_
       obtain ⟨g11, l11, S, h9⟩ : ∃ gz, Le g10 gz ∧ St gz [[bx b10 #[nilS] 25], [bx b9 #[.i6 y6.2.Code, .i6 y6.2.Index] 29], [bx b8 #[v4] 25], [bx b7 #[.i6 y1.Code, .i6 y1.Index] 29], [bx b6 #[nilS] 25], [bx b5 #[.i6 0, .i6 0] 29], [bx b4 #[nilS] 25], [bx b3 #[nilS] 25], [bx b2 #[vq_1] 25], [bx b1 #[vp_1] 25]] fr w ∧ RepSl gz y7 v5 := ⟨_, Le.add _ _, S.freeze 1 rfl, OwnS.freeze (S.front 1 rfl) h8⟩
       refine wl_call0 (wn rfl) rfl F rfl (commute_shift_ok (fr := (fl [[bx b10 #[nilS] 25], [bx b9 #[.i6 y6.2.Code, .i6 y6.2.Index] 29], [bx b8 #[v4] 25], [bx b7 #[.i6 y1.Code, .i6 y1.Index] 29], [bx b6 #[nilS] 25], [bx b5 #[.i6 0, .i6 0] 29], [bx b4 #[nilS] 25], [bx b3 #[nilS] 25], [bx b2 #[vq_1] 25], [bx b1 #[vp_1] 25]] fr)) p_ vp_1 (hp_1.mono ((((((((((l1.trans l2).trans l3).trans l4).trans l5).trans l6).trans l7).trans l8).trans l9).trans l10).trans l11)) y7 v5 h9 1 S hy8) rfl tc76 rfl rfl ?_; clear F a S
       rintro _ a w ⟨g12, v6, c5, l12, S, h10, rfl⟩ F; replace S : St g12 [c5, [bx b10 #[nilS] 25], [bx b9 #[.i6 y6.2.Code, .i6 y6.2.Index] 29], [bx b8 #[v4] 25], [bx b7 #[.i6 y1.Code, .i6 y1.Index] 29], [bx b6 #[nilS] 25], [bx b5 #[.i6 0, .i6 0] 29], [bx b4 #[nilS] 25], [bx b3 #[nilS] 25], [bx b2 #[vq_1] 25], [bx b1 #[vp_1] 25]] fr w := S
       refine dv_nx trivial ?_
       refine dv_op ok4 4 rfl [] ?_
       obtain ⟨g13, l13, S, h11⟩ : ∃ gz, Le g12 gz ∧ St gz [[bx b10 #[nilS] 25], [bx b9 #[.i6 y6.2.Code, .i6 y6.2.Index] 29], [bx b8 #[v4] 25], [bx b7 #[.i6 y1.Code, .i6 y1.Index] 29], [bx b6 #[nilS] 25], [bx b5 #[.i6 0, .i6 0] 29], [bx b4 #[nilS] 25], [bx b3 #[nilS] 25], [bx b2 #[vq_1] 25], [bx b1 #[vp_1] 25]] fr w ∧ RepSl gz y8.Hunks v6 := ⟨_, Le.add _ _, S.freeze 0 rfl, OwnS.freeze (S.front 0 rfl) h10⟩
       refine wl_call0 (wn rfl) rfl F rfl (textpatch_Made_ok (fr := (fl [[bx b10 #[nilS] 25], [bx b9 #[.i6 y6.2.Code, .i6 y6.2.Index] 29], [bx b8 #[v4] 25], [bx b7 #[.i6 y1.Code, .i6 y1.Index] 29], [bx b6 #[nilS] 25], [bx b5 #[.i6 0, .i6 0] 29], [bx b4 #[nilS] 25], [bx b3 #[nilS] 25], [bx b2 #[vq_1] 25], [bx b1 #[vp_1] 25]] fr)) y8 v6 h11 S hy9) rfl tc75 rfl rfl ?_; clear F a S
       rintro _ a w ⟨g14, v7, l14, S, h12, rfl⟩ F; replace S : St g14 [[bx b10 #[nilS] 25], [bx b9 #[.i6 y6.2.Code, .i6 y6.2.Index] 29], [bx b8 #[v4] 25], [bx b7 #[.i6 y1.Code, .i6 y1.Index] 29], [bx b6 #[nilS] 25], [bx b5 #[.i6 0, .i6 0] 29], [bx b4 #[nilS] 25], [bx b3 #[nilS] 25], [bx b2 #[vq_1] 25], [bx b1 #[vp_1] 25]] fr w := S
       refine dv_nx trivial ?_
       refine dv_et ok4 5 rfl (ev_move rfl) F rfl fun a F=>?_
       refine dv_et ok4 6 rfl (ev_extract rfl rfl) F rfl fun a F=>?_
       refine dv_et ok4 7 rfl (ev_extract rfl rfl) F rfl fun a F=>?_
       refine dv_join (HJ _ _ ?_)
       replace S : St g14 [[bx b10 #[nilS] 25], [bx b9 #[.i6 y6.2.Code, .i6 y6.2.Index] 29], [bx b8 #[v4] 25], [bx b6 #[nilS] 25], [bx b5 #[.i6 0, .i6 0] 29], [bx b4 #[nilS] 25], [bx b3 #[nilS] 25]] fr w := St.tail [[bx b10 #[nilS] 25], [bx b9 #[.i6 y6.2.Code, .i6 y6.2.Index] 29], [bx b8 #[v4] 25], [bx b6 #[nilS] 25], [bx b5 #[.i6 0, .i6 0] 29], [bx b4 #[nilS] 25], [bx b3 #[nilS] 25]] _ (((((((S.frontC 7 rfl).frontC 7 rfl).frontC 7 rfl).frontC 7 rfl).frontC 6 rfl).frontC 6 rfl).frontC 6 rfl)
       exact ⟨v7, b10, g14, F.sub ⟨rfl, rfl, rfl, rfl, rfl, rfl, rfl, rfl, rfl, trivial⟩, ((((l10.trans l11).trans l12).trans l13).trans l14), S, h12, hm⟩
     ·refine wl_alloc (wn rfl) rfl tz25 (cs := [nilS]) rfl F S rfl rfl ?_; clear F a S; rintro b10 a w F S
      refine dv_nx ⟨yl_ev rfl rfl (ev_loadA tu25 rfl (cs := [v4]) ts25 rfl (box_ptr (cells := [v4]) 2 rfl 0 rfl (lb rfl))) F S, yl_ev rfl rfl (ev_loadA tu25 rfl (cs := [vp_1]) ts25 rfl (box_ptr (cells := [vp_1]) 9 rfl 0 rfl (lb rfl))) F S, trivial⟩ ?_
      refine dv_op ok4 2 rfl [(0, .agg #[vp_1])] ?_
      refine wl_call0 (wn rfl) rfl F rfl (commute_OldRanges_ok (fr := (fl [[bx b10 #[nilS] 25], [bx b9 #[.i6 y6.2.Code, .i6 y6.2.Index] 29], [bx b8 #[v4] 25], [bx b7 #[.i6 y1.Code, .i6 y1.Index] 29], [bx b6 #[nilS] 25], [bx b5 #[.i6 0, .i6 0] 29], [bx b4 #[nilS] 25], [bx b3 #[nilS] 25], [bx b2 #[vq_1] 25], [bx b1 #[vp_1] 25]] fr)) y6.1 v4 h7 S hy7) rfl tc74 rfl rfl ?_; clear F a S
      rintro _ a w ⟨g10, v5, c4, l10, S, h8, rfl⟩ F; replace S : St g10 [c4, [bx b10 #[nilS] 25], [bx b9 #[.i6 y6.2.Code, .i6 y6.2.Index] 29], [bx b8 #[v4] 25], [bx b7 #[.i6 y1.Code, .i6 y1.Index] 29], [bx b6 #[nilS] 25], [bx b5 #[.i6 0, .i6 0] 29], [bx b4 #[nilS] 25], [bx b3 #[nilS] 25], [bx b2 #[vq_1] 25], [bx b1 #[vp_1] 25]] fr w := S
      refine dv_nx ⟨yl_ev rfl rfl (ev_loadA tu25 rfl (cs := [vp_1]) ts25 rfl (box_ptr (cells := [vp_1]) 10 rfl 0 rfl (lb rfl))) F S, trivial⟩ ?_
      refine dv_op ok4 3 rfl [] ?_
      obtain ⟨g11, l11, S, h9⟩ : ∃ gz, Le g10 gz ∧ St gz [[bx b10 #[nilS] 25], [bx b9 #[.i6 y6.2.Code, .i6 y6.2.Index] 29], [bx b8 #[v4] 25], [bx b7 #[.i6 y1.Code, .i6 y1.Index] 29], [bx b6 #[nilS] 25], [bx b5 #[.i6 0, .i6 0] 29], [bx b4 #[nilS] 25], [bx b3 #[nilS] 25], [bx b2 #[vq_1] 25], [bx b1 #[vp_1] 25]] fr w ∧ RepSl gz y7 v5 := ⟨_, Le.add _ _, S.freeze 0 rfl, OwnS.freeze (S.front 0 rfl) h8⟩
      refine wl_call0 (wn rfl) rfl F rfl (commute_shift_ok (fr := (fl [[bx b10 #[nilS] 25], [bx b9 #[.i6 y6.2.Code, .i6 y6.2.Index] 29], [bx b8 #[v4] 25], [bx b7 #[.i6 y1.Code, .i6 y1.Index] 29], [bx b6 #[nilS] 25], [bx b5 #[.i6 0, .i6 0] 29], [bx b4 #[nilS] 25], [bx b3 #[nilS] 25], [bx b2 #[vq_1] 25], [bx b1 #[vp_1] 25]] fr)) p_ vp_1 (hp_1.mono ((((((((((l1.trans l2).trans l3).trans l4).trans l5).trans l6).trans l7).trans l8).trans l9).trans l10).trans l11)) y7 v5 h9 1 S hy8) rfl tc76 rfl rfl ?_; clear F a S
      rintro _ a w ⟨g12, v6, c5, l12, S, h10, rfl⟩ F; replace S : St g12 [c5, [bx b10 #[nilS] 25], [bx b9 #[.i6 y6.2.Code, .i6 y6.2.Index] 29], [bx b8 #[v4] 25], [bx b7 #[.i6 y1.Code, .i6 y1.Index] 29], [bx b6 #[nilS] 25], [bx b5 #[.i6 0, .i6 0] 29], [bx b4 #[nilS] 25], [bx b3 #[nilS] 25], [bx b2 #[vq_1] 25], [bx b1 #[vp_1] 25]] fr w := S
      refine dv_nx trivial ?_
      refine dv_op ok4 4 rfl [] ?_
      obtain ⟨g13, l13, S, h11⟩ : ∃ gz, Le g12 gz ∧ St gz [[bx b10 #[nilS] 25], [bx b9 #[.i6 y6.2.Code, .i6 y6.2.Index] 29], [bx b8 #[v4] 25], [bx b7 #[.i6 y1.Code, .i6 y1.Index] 29], [bx b6 #[nilS] 25], [bx b5 #[.i6 0, .i6 0] 29], [bx b4 #[nilS] 25], [bx b3 #[nilS] 25], [bx b2 #[vq_1] 25], [bx b1 #[vp_1] 25]] fr w ∧ RepSl gz y8.Hunks v6 := ⟨_, Le.add _ _, S.freeze 0 rfl, OwnS.freeze (S.front 0 rfl) h10⟩
      refine wl_call0 (wn rfl) rfl F rfl (textpatch_Made_ok (fr := (fl [[bx b10 #[nilS] 25], [bx b9 #[.i6 y6.2.Code, .i6 y6.2.Index] 29], [bx b8 #[v4] 25], [bx b7 #[.i6 y1.Code, .i6 y1.Index] 29], [bx b6 #[nilS] 25], [bx b5 #[.i6 0, .i6 0] 29], [bx b4 #[nilS] 25], [bx b3 #[nilS] 25], [bx b2 #[vq_1] 25], [bx b1 #[vp_1] 25]] fr)) y8 v6 h11 S hy9) rfl tc75 rfl rfl ?_; clear F a S
      rintro _ a w ⟨g14, v7, l14, S, h12, rfl⟩ F; replace S : St g14 [[bx b10 #[nilS] 25], [bx b9 #[.i6 y6.2.Code, .i6 y6.2.Index] 29], [bx b8 #[v4] 25], [bx b7 #[.i6 y1.Code, .i6 y1.Index] 29], [bx b6 #[nilS] 25], [bx b5 #[.i6 0, .i6 0] 29], [bx b4 #[nilS] 25], [bx b3 #[nilS] 25], [bx b2 #[vq_1] 25], [bx b1 #[vp_1] 25]] fr w := S
      refine dv_nx trivial ?_
      refine dv_et ok4 5 rfl (ev_move rfl) F rfl fun a F=>?_
      refine dv_et ok4 6 rfl (ev_extract rfl rfl) F rfl fun a F=>?_
      refine dv_et ok4 7 rfl (ev_extract rfl rfl) F rfl fun a F=>?_
      refine dv_join (HJ _ _ ?_)
      replace S : St g14 [[bx b10 #[nilS] 25], [bx b9 #[.i6 y6.2.Code, .i6 y6.2.Index] 29], [bx b8 #[v4] 25], [bx b6 #[nilS] 25], [bx b5 #[.i6 0, .i6 0] 29], [bx b4 #[nilS] 25], [bx b3 #[nilS] 25]] fr w := St.tail [[bx b10 #[nilS] 25], [bx b9 #[.i6 y6.2.Code, .i6 y6.2.Index] 29], [bx b8 #[v4] 25], [bx b6 #[nilS] 25], [bx b5 #[.i6 0, .i6 0] 29], [bx b4 #[nilS] 25], [bx b3 #[nilS] 25]] _ (((((((S.frontC 7 rfl).frontC 7 rfl).frontC 7 rfl).frontC 7 rfl).frontC 6 rfl).frontC 6 rfl).frontC 6 rfl)
      exact ⟨v7, b10, g14, F.sub ⟨rfl, rfl, rfl, rfl, rfl, rfl, rfl, rfl, rfl, trivial⟩, ((((l10.trans l11).trans l12).trans l13).trans l14), S, h12, hm⟩
    ·clear F S hm; rintro a w ⟨v8, b11, g15, F, l15, S, h13, hm⟩
     refine dv_op ok4 9 rfl [] ?_
     refine wl_storeC (wn rfl) rfl F S rfl rfl (vs := [v8]) rfl ts25 (one_cons h13.one one_nil) (k := 0) rfl (lb rfl) (c' := #[v8]) rfl rfl ?_; clear S; intro w S
     refine dv_nx trivial ?_
     refine dv_op ok4 10 rfl [] ?_
     refine wl_storeC (wn rfl) rfl F S rfl rfl (vs := [.i6 y9.2.Code, .i6 y9.2.Index]) rfl ts29 (one_cons rfl (one_cons rfl one_nil)) (k := 1) rfl (lb rfl) (c' := #[.i6 y9.2.Code, .i6 y9.2.Index]) rfl rfl ?_; clear S; intro w S
     refine dv_nx trivial ?_
     refine dv_fin ok4 ?_
     refine then_n ?_
     refine wp_seq ?_
     refine wp_seq ?_
     refine wp_region_lit ?_
     refine wE (ev_loadA tu29 rfl (cs := [.i6 y9.2.Code, .i6 y9.2.Index]) ts29 rfl (box_ptr (cells := [.i6 y9.2.Code, .i6 y9.2.Index]) 1 rfl 0 rfl (lb rfl))) F S rfl fun a F=>?_
     refine wE (ev_build (parts := []) (vs := []) rfl (fun w => tb29_  w)) F S rfl fun a F=>?_
     refine wE (ev_neS tu29 tqa29 tqb29 tqc29 (xs := [.i6 y9.2.Code, .i6 y9.2.Index]) (ys := [.i6 0, .i6 0]) rfl rfl ⟨_, _, rfl, by decide, ⟨_, _, rfl, rfl, leaf_int tu3⟩, ⟨_, _, rfl, by decide, ⟨_, _, rfl, rfl, leaf_int tu3⟩, rfl⟩⟩) F S rfl fun a F=>?_
     refine wpList_nil ?_
     refine then_n ?_
     obtain ⟨hc4, hm⟩ | ⟨hc4, hm⟩ := ite_or hm
     ·refine wp_condT F rfl hc4 ?_
      refine wp_seq ?_
      refine wp_dv [] mo S ?_; clear S; intro ok5 w S
      refine dv_ev ok5 0 rfl (ev_loadA tu25 rfl (cs := [nilS]) ts25 rfl (box_ptr (cells := [nilS]) 3 rfl 0 rfl (lb rfl))) F S rfl fun a F=>?_
      refine dv_ev ok5 1 rfl (ev_loadA tu25 rfl (cs := [nilS]) ts25 rfl (box_ptr (cells := [nilS]) 3 rfl 0 rfl (lb rfl))) F S rfl fun a F=>?_
      refine dv_ev ok5 2 rfl (ev_loadA tu29 rfl (cs := [.i6 y9.2.Code, .i6 y9.2.Index]) ts29 rfl (box_ptr (cells := [.i6 y9.2.Code, .i6 y9.2.Index]) 1 rfl 0 rfl (lb rfl))) F S rfl fun a F=>?_
      refine dv_op ok5 3 rfl [(2, .agg #[.i6 y9.2.Code, .i6 y9.2.Index]), (1, .agg #[nilS])] ?_
      refine wl_storeC (wn rfl) rfl F S rfl rfl (vs := [nilS]) rfl ts25 (one_cons rfl one_nil) (k := 6) rfl (lb rfl) (c' := #[nilS]) rfl rfl ?_; clear S; intro w S
      refine dv_nx ⟨yl_ev rfl rfl (ev_loadA tu29 rfl (cs := [.i6 y9.2.Code, .i6 y9.2.Index]) ts29 rfl (box_ptr (cells := [.i6 y9.2.Code, .i6 y9.2.Index]) 1 rfl 0 rfl (lb rfl))) F S, yl_ev rfl rfl (ev_loadA tu25 rfl (cs := [nilS]) ts25 rfl (box_ptr (cells := [nilS]) 3 rfl 0 rfl (lb rfl))) F S, trivial⟩ ?_
      refine dv_op ok5 4 rfl [(2, .agg #[.i6 y9.2.Code, .i6 y9.2.Index])] ?_
      refine wl_storeC (wn rfl) rfl F S rfl rfl (vs := [nilS]) rfl ts25 (one_cons rfl one_nil) (k := 5) rfl (lb rfl) (c' := #[nilS]) rfl rfl ?_; clear S; intro w S
      refine dv_nx ⟨yl_ev rfl rfl (ev_loadA tu29 rfl (cs := [.i6 y9.2.Code, .i6 y9.2.Index]) ts29 rfl (box_ptr (cells := [.i6 y9.2.Code, .i6 y9.2.Index]) 1 rfl 0 rfl (lb rfl))) F S, trivial⟩ ?_
      refine dv_et ok5 5 rfl (ev_assign rfl) F rfl fun a F=>?_
      refine dv_op ok5 6 rfl [] ?_
      refine wl_storeC (wn rfl) rfl F S rfl rfl (vs := [.i6 y9.2.Code, .i6 y9.2.Index]) rfl ts29 (one_cons rfl (one_cons rfl one_nil)) (k := 4) rfl (lb rfl) (c' := #[.i6 y9.2.Code, .i6 y9.2.Index]) rfl rfl ?_; clear S; intro w S
      refine dv_nx trivial ?_
      refine dv_fin ok5 ?_
      refine then_n ?_
      refine wp_ret ?_
      refine then_r ?_
      obtain rfl := sinj hm
      refine post_r _ F rfl (ar_cons (resA rfl tu25 rfl (box_ptr (cells := [nilS]) 6 rfl 0 rfl (lb rfl) w S) ts25) (ar_cons (resA rfl tu25 rfl (box_ptr (cells := [nilS]) 5 rfl 0 rfl (lb rfl) w S) ts25) (ar_cons (resT rfl) (ar_cons (resA rfl tu29 rfl (box_ptr (cells := [.i6 y9.2.Code, .i6 y9.2.Index]) 4 rfl 0 rfl (lb rfl) w S) ts29) ar_nil)))) ?_
      replace S : St g15 [] fr w := St.tail [] _ S
      exact ⟨_, rfl, g15, (nilS), (nilS), (((((((((l1.trans l2).trans l3).trans l4).trans l5).trans l6).trans l7).trans l8).trans l9).trans l15), S, (RepSl.nil _), (RepSl.nil _), rfl⟩
     ·refine wp_condF F rfl hc4 ?_
      refine wp_skip ?_
      refine then_n ?_
      refine wp_seq ?_
      refine wp_dv [] mo S ?_; clear S; intro ok6 w S
      refine dv_ev ok6 0 rfl (ev_loadA tu25 rfl (cs := [v4]) ts25 rfl (box_ptr (cells := [v4]) 2 rfl 0 rfl (lb rfl))) F S rfl fun a F=>?_
      refine dv_ev ok6 1 rfl (ev_loadA tu25 rfl (cs := [v8]) ts25 rfl (box_ptr (cells := [v8]) 0 rfl 0 rfl (lb rfl))) F S rfl fun a F=>?_
      refine dv_et ok6 2 rfl (ev_build (parts := []) (vs := []) rfl (fun w => tb29_  w)) F rfl fun a F=>?_
      refine dv_op ok6 3 rfl [(1, .agg #[v8])] ?_
      refine wl_storeC (wn rfl) rfl F S rfl rfl (vs := [v4]) rfl ts25 (one_cons h7.one one_nil) (k := 6) rfl (lb rfl) (c' := #[v4]) rfl rfl ?_; clear S; intro w S
      refine dv_nx ⟨yl_ev rfl rfl (ev_loadA tu25 rfl (cs := [v8]) ts25 rfl (box_ptr (cells := [v8]) 0 rfl 0 rfl (lb rfl))) F S, trivial⟩ ?_
      refine dv_op ok6 4 rfl [] ?_
      refine wl_storeC (wn rfl) rfl F S rfl rfl (vs := [v8]) rfl ts25 (one_cons h13.one one_nil) (k := 5) rfl (lb rfl) (c' := #[v8]) rfl rfl ?_; clear S; intro w S
      refine dv_nx trivial ?_
      refine dv_et ok6 5 rfl (ev_assign rfl) F rfl fun a F=>?_
      refine dv_op ok6 6 rfl [] ?_
      refine wl_storeC (wn rfl) rfl F S rfl rfl (vs := [.i6 0, .i6 0]) rfl ts29 (one_cons rfl (one_cons rfl one_nil)) (k := 4) rfl (lb rfl) (c' := #[.i6 0, .i6 0]) rfl rfl ?_; clear S; intro w S
      refine dv_nx trivial ?_
      refine dv_fin ok6 ?_
      refine then_n ?_
      refine wp_ret ?_
      obtain rfl := sinj hm
      refine post_r _ F rfl (ar_cons (resA rfl tu25 rfl (box_ptr (cells := [v4]) 6 rfl 0 rfl (lb rfl) w S) ts25) (ar_cons (resA rfl tu25 rfl (box_ptr (cells := [v8]) 5 rfl 0 rfl (lb rfl) w S) ts25) (ar_cons (resT rfl) (ar_cons (resA rfl tu29 rfl (box_ptr (cells := [.i6 0, .i6 0]) 4 rfl 0 rfl (lb rfl) w S) ts29) ar_nil)))) ?_
      replace S : St g15 [] fr w := St.tail [] _ S
      exact ⟨_, rfl, g15, v4, v8, (((((((((l1.trans l2).trans l3).trans l4).trans l5).trans l6).trans l7).trans l8).trans l9).trans l15), S, (h7.mono l15), h13, rfl⟩

theorem treecommute_edit_ok {g : Gh} {fr : Hl} {w : World} {r : TreeChange} (path : ByteArray) (p_ : Patch) (vp_1 : Value) (hp_1 : RepSl g p_.Hunks vp_1) (S : St g [] fr w) (hm : treecommute_edit path p_ = some r) :
  Calls Tryd.prog 34 [.string path, .agg #[vp_1]].toArray w (fun en w' => ∃ v, en = .returned v ∧ ∃ (g' : Gh) (v1 v2 : Value), Le g g' ∧ St g' [] fr w' ∧ RepSl g' r.Lines v1 ∧ RepSl g' r.Patch.Hunks v2 ∧ .agg #[.i6 r.Kind, .string r.Path, .string r.To, v1, v2] = v) := by
 unfold treecommute_edit at hm
 refine calls_enter (fn := Tryd.f34) Tryd.func34 rfl Tryd.ntmps34 (lb rfl) ?_
 intro a F
 replace F : Fr 8 a [(0, .string path), (1, .agg #[vp_1])] := F
 refine wp_seq ?_
 refine wp_region_lit ?_
 refine wl_boxC (wn rfl) rfl rfl rfl F S rfl rfl ?_; clear F a S; rintro b1 a w F S
 refine wl_alloc (wn rfl) rfl tz27 (cs := [.i6 0, .string ByteArray.empty, .string ByteArray.empty, nilS, nilS]) rfl F S rfl rfl ?_; clear F a S; rintro b2 a w F S
 refine wpList_nil ?_
 refine then_n ?_
 refine wp_seq ?_
 refine wp_region_lit ?_
 refine wE (ev_move rfl) F S rfl fun a F=>?_
 refine wE (ev_loadA tu25 rfl (cs := [vp_1]) ts25 rfl (box_ptr (cells := [vp_1]) 1 rfl 0 rfl (lb rfl))) F S rfl fun a F=>?_
 refine wE (ev_build (parts := [(0, .const (.i6 4)), (1, .tmp 5), (4, .tmp 6)]) (vs := [(0, .i6 4), (1, .string path), (4, .agg #[vp_1])]) rfl (fun w => tb27_0_1_4 4 path vp_1 (RepSl.isSl hp_1) w)) F S rfl fun a F=>?_
 refine wl_storeC (wn rfl) rfl F S rfl rfl (vs := [.i6 4, .string path, .string ByteArray.empty, nilS, vp_1]) rfl ts27 (one_cons rfl (one_cons rfl (one_cons rfl (one_cons rfl (one_cons hp_1.one one_nil))))) (k := 0) rfl (lb rfl) (c' := #[.i6 4, .string path, .string ByteArray.empty, nilS, vp_1]) rfl rfl ?_; clear S; intro w S
 refine wpList_nil ?_
 refine then_n ?_
 refine wp_ret ?_
 obtain rfl := sinj hm
 refine post_r _ F rfl (ar_cons (resA rfl tu27 rfl (box_ptr (cells := [.i6 4, .string path, .string ByteArray.empty, nilS, vp_1]) 0 rfl 0 rfl (lb rfl) w S) ts27) ar_nil) ?_
 replace S : St g [] fr w := St.tail [] _ S
 exact ⟨_, rfl, g, (nilS), vp_1, (Le.refl _), S, (RepSl.nil _), hp_1, rfl⟩
end Go.Dc
