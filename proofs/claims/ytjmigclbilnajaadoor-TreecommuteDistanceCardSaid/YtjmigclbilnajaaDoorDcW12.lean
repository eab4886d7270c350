/- Walks: each function comes to what its model says. -/
import Derived.Test.YtjmigclbilnajaaDoorDcTab
import Derived.Test.YtjmigclbilnajaaDoorDcM
import Derived.Test.YtjmigclbilnajaaDoorDcW4
import Derived.Test.YtjmigclbilnajaaDoorDcW7
import Derived.Test.YtjmigclbilnajaaDoorDcW9
namespace Go.Dc
open Go Go.Proofs
set_option maxRecDepth 100000
set_option maxHeartbeats 4000000
set_option linter.unusedVariables false
theorem changeforgelaw2_TreecommuteDistance_ok {g : Gh} {fr : Hl} {w : World} {r : Bool} (path : ByteArray) (base : (List ByteArray)) (vbase1 : Value) (hbase1 : RepSl g base vbase1) (p_ : Patch) (vp_1 : Value) (hp_1 : RepSl g p_.Hunks vp_1) (q_ : Patch) (vq_1 : Value) (hq_1 : RepSl g q_.Hunks vq_1) (S : St g [] fr w) (hm : changeforgelaw2_TreecommuteDistance path base p_ q_ = some r) :
  Calls Tryd.prog 5 [.string path, vbase1, .agg #[vp_1], .agg #[vq_1]].toArray w (fun en w' => ∃ v, en = .returned v ∧ ∃ (g' : Gh), Le g g' ∧ St g' [] fr w' ∧ .bool r = v) := by
 unfold changeforgelaw2_TreecommuteDistance at hm
 refine calls_enter (fn := Tryd.f5) Tryd.func5 rfl Tryd.ntmps5 (lb rfl) ?_
 intro a F
 replace F : Fr 124 a [(0, .string path), (1, vbase1), (2, .agg #[vp_1]), (3, .agg #[vq_1])] := F
 refine wp_seq ?_
 refine wp_region_lit ?_
 refine wl_boxC (wn rfl) rfl rfl rfl F S rfl rfl ?_; clear F a S; rintro b1 a w F S
 refine wl_boxC (wn rfl) rfl rfl rfl F S rfl rfl ?_; clear F a S; rintro b2 a w F S
 refine wE (ev_assign rfl) F S rfl fun a F=>?_
 refine wpList_nil ?_
 refine then_n ?_
 refine wp_seq ?_
 refine wp_region_lit ?_
 refine wE (ev_move rfl) F S rfl fun a F=>?_
 refine wE (ev_loadA tu25 rfl (cs := [vp_1]) ts25 rfl (box_ptr (cells := [vp_1]) 1 rfl 0 rfl (lb rfl))) F S rfl fun a F=>?_
 refine wE (ev_build (parts := [(0, .const (.i6 4)), (1, .tmp 24), (4, .tmp 25)]) (vs := [(0, .i6 4), (1, .string path), (4, .agg #[vp_1])]) rfl (fun w => tb27_0_1_4 4 path vp_1 (RepSl.isSl hp_1) w)) F S rfl fun a F=>?_
 refine wE (ev_move rfl) F S rfl fun a F=>?_
 refine wE (ev_loadA tu25 rfl (cs := [vq_1]) ts25 rfl (box_ptr (cells := [vq_1]) 0 rfl 0 rfl (lb rfl))) F S rfl fun a F=>?_
 refine wE (ev_build (parts := [(0, .const (.i6 4)), (1, .tmp 27), (4, .tmp 28)]) (vs := [(0, .i6 4), (1, .string path), (4, .agg #[vq_1])]) rfl (fun w => tb27_0_1_4 4 path vq_1 (RepSl.isSl hq_1) w)) F S rfl fun a F=>?_
 obtain ⟨y1, hy1, hm⟩ := bind_some hm
 refine wl_call0 (wn rfl) rfl F rfl (treecommute_Commute_ok (fr := (fl [[bx b2 #[vq_1] 25], [bx b1 #[vp_1] 25]] fr)) ({ Kind := 4, Path := path, To := ByteArray.empty, Lines := [], Patch := p_ } : TreeChange) (nilS) (RepSl.nil _) vp_1 hp_1 ({ Kind := 4, Path := path, To := ByteArray.empty, Lines := [], Patch := q_ } : TreeChange) (nilS) (RepSl.nil _) vq_1 hq_1 S hy1) rfl tc12 rfl rfl ?_; clear F a S
 rintro _ a w ⟨g1, v1, v2, v3, v4, l1, S, h1, h2, h3, h4, rfl⟩ F; replace S : St g1 [[bx b2 #[vq_1] 25], [bx b1 #[vp_1] 25]] fr w := S
 refine wE (ev_move rfl) F S rfl fun a F=>?_
 refine wE (ev_extract rfl rfl) F S rfl fun a F=>?_
 refine wE (ev_extract rfl rfl) F S rfl fun a F=>?_
 refine wE (ev_extract rfl rfl) F S rfl fun a F=>?_
 refine wE (ev_extract rfl rfl) F S rfl fun a F=>?_
 refine wl_alloc (wn rfl) rfl tz27 (cs := [.i6 0, .string ByteArray.empty, .string ByteArray.empty, nilS, nilS]) rfl F S rfl rfl ?_; clear F a S; rintro b3 a w F S
 refine wl_alloc (wn rfl) rfl tz27 (cs := [.i6 0, .string ByteArray.empty, .string ByteArray.empty, nilS, nilS]) rfl F S rfl rfl ?_; clear F a S; rintro b4 a w F S
 refine wl_alloc (wn rfl) rfl tz29 (cs := [.i6 0, .i6 0]) rfl F S rfl rfl ?_; clear F a S; rintro b5 a w F S
 refine wl_storeC (wn rfl) rfl F S rfl rfl (vs := [.i6 y1.1.Kind, .string y1.1.Path, .string y1.1.To, v1, v2]) rfl ts27 (one_cons rfl (one_cons rfl (one_cons rfl (one_cons h1.one (one_cons h2.one one_nil))))) (k := 2) rfl (lb rfl) (c' := #[.i6 y1.1.Kind, .string y1.1.Path, .string y1.1.To, v1, v2]) rfl rfl ?_; clear S; intro w S
 refine wl_storeC (wn rfl) rfl F S rfl rfl (vs := [.i6 y1.2.1.Kind, .string y1.2.1.Path, .string y1.2.1.To, v3, v4]) rfl ts27 (one_cons rfl (one_cons rfl (one_cons rfl (one_cons h3.one (one_cons h4.one one_nil))))) (k := 1) rfl (lb rfl) (c' := #[.i6 y1.2.1.Kind, .string y1.2.1.Path, .string y1.2.1.To, v3, v4]) rfl rfl ?_; clear S; intro w S
 refine wE (ev_assign rfl) F S rfl fun a F=>?_
 refine wl_storeC (wn rfl) rfl F S rfl rfl (vs := [.i6 y1.2.2.2.Code, .i6 y1.2.2.2.Index]) rfl ts29 (one_cons rfl (one_cons rfl one_nil)) (k := 0) rfl (lb rfl) (c' := #[.i6 y1.2.2.2.Code, .i6 y1.2.2.2.Index]) rfl rfl ?_; clear S; intro w S
 refine wpList_nil ?_
 refine then_n ?_
 refine wp_seq ?_
 refine wp_seq ?_
 refine wp_region_lit ?_
 refine wE (ev_fieldAddr' tu29 tf29_0 (z := 0) ts3 rfl ⟨_, rfl⟩ rfl) F S rfl fun a F=>?_
 refine wE (ev_load1 tu3 rfl rfl (box_ptr (cells := [.i6 y1.2.2.2.Code]) 0 rfl 0 rfl (lb rfl))) F S rfl fun a F=>?_
 refine wE (ev_int rfl rfl (bo_neq _ _ _ _)) F S rfl fun a F=>?_
 refine wE (ev_move rfl) F S rfl fun a F=>?_
 obtain ⟨x1, hx1, hm⟩ := bind_some hm
 refine wl_cut 3 (fun a w' => w = w' ∧ Fr 124 a [(41, .bool x1), (10, bp b4 0), (9, bp b3 0), (7, bp b2 0), (6, bp b1 0), (1, vbase1)]) ?_ ?_
 ·clear hm; obtain ⟨hc1, hm⟩ | ⟨hc1, hm⟩ := ite_or hx1
  ·refine wl_skip rfl rfl rfl rfl (ne_ft hc1) F rfl rfl ?_; clear F a; intro a F
   refine wl_skip rfl rfl rfl rfl (ne_ft hc1) F rfl rfl ?_; clear F a; intro a F
   refine wE (ev_pickT rfl hc1 rfl) F S rfl fun a F=>?_
   obtain rfl := sinj hm
   refine wpList_nil (then_n ?_); exact ⟨rfl, F.sub ⟨rfl, rfl, rfl, rfl, rfl, rfl, trivial⟩⟩
  ·refine wl_ev (wg F rfl rfl rfl rfl hc1) (ev_move rfl) F S rfl rfl ?_; clear F a; intro a F
   refine wl_ev (wg F rfl rfl rfl rfl hc1) (ev_not rfl) F S rfl rfl ?_; clear F a; intro a F
   refine wE (ev_pickF rfl hc1 rfl) F S rfl fun a F=>?_
   obtain rfl := sinj hm
   refine wpList_nil (then_n ?_); exact ⟨rfl, F.sub ⟨rfl, rfl, rfl, rfl, rfl, rfl, trivial⟩⟩
 clear F; rintro a w' ⟨rfl, F⟩
 refine wpList_nil ?_
 refine then_n ?_
 obtain ⟨hc2, hm⟩ | ⟨hc2, hm⟩ := ite_or hm
 ·refine wp_condT F rfl hc2 ?_
  refine wp_seq ?_
  refine wp_region_lit ?_
  obtain ⟨y2, hy2, hm⟩ := bind_some hm
  refine wl_call0 (wn rfl) rfl F rfl (changeforgelaw2_followed_ok (fr := (fl [[bx b5 #[.i6 y1.2.2.2.Code, .i6 y1.2.2.2.Index] 29], [bx b4 #[.i6 y1.2.1.Kind, .string y1.2.1.Path, .string y1.2.1.To, v3, v4] 27], [bx b3 #[.i6 y1.1.Kind, .string y1.1.Path, .string y1.1.To, v1, v2] 27], [bx b2 #[vq_1] 25], [bx b1 #[vp_1] 25]] fr))  S hy2) rfl tc15 rfl rfl ?_; clear F a S
  rintro _ a w ⟨g2, l2, S, rfl⟩ F; replace S : St g2 [[bx b5 #[.i6 y1.2.2.2.Code, .i6 y1.2.2.2.Index] 29], [bx b4 #[.i6 y1.2.1.Kind, .string y1.2.1.Path, .string y1.2.1.To, v3, v4] 27], [bx b3 #[.i6 y1.1.Kind, .string y1.1.Path, .string y1.1.To, v1, v2] 27], [bx b2 #[vq_1] 25], [bx b1 #[vp_1] 25]] fr w := S
  refine wE (ev_assign rfl) F S rfl fun a F=>?_
  refine wpList_nil ?_
  refine then_n ?_
  refine wp_ret ?_
  refine then_r ?_
  obtain rfl := sinj hm
  refine post_r _ F rfl (ar_cons (resT rfl) ar_nil) ?_
  replace S : St g2 [] fr w := St.tail [] _ S
  exact ⟨_, rfl, g2, (l1.trans l2), S, rfl⟩
 ·refine wp_condF F rfl hc2 ?_
  refine wp_skip ?_
  refine then_n ?_
  refine wp_seq ?_
  refine wp_region_lit ?_
  refine wE (ev_loadA tu25 rfl (cs := [vp_1]) ts25 rfl (box_ptr (cells := [vp_1]) 4 rfl 0 rfl (lb rfl))) F S rfl fun a F=>?_
  refine wE (ev_move rfl) F S rfl fun a F=>?_
  obtain ⟨y3, hy3, hm⟩ := bind_some hm
  refine wl_call0 (wn rfl) rfl F rfl (textpatch_Apply_ok (fr := (fl [[bx b5 #[.i6 y1.2.2.2.Code, .i6 y1.2.2.2.Index] 29], [bx b4 #[.i6 y1.2.1.Kind, .string y1.2.1.Path, .string y1.2.1.To, v3, v4] 27], [bx b3 #[.i6 y1.1.Kind, .string y1.1.Path, .string y1.1.To, v1, v2] 27], [bx b2 #[vq_1] 25], [bx b1 #[vp_1] 25]] fr)) p_ vp_1 (hp_1.mono l1) base vbase1 (hbase1.mono l1) S hy3) rfl tc16 rfl rfl ?_; clear F a S
  rintro _ a w ⟨g3, v5, c1, l3, S, h5, rfl⟩ F; replace S : St g3 [c1, [bx b5 #[.i6 y1.2.2.2.Code, .i6 y1.2.2.2.Index] 29], [bx b4 #[.i6 y1.2.1.Kind, .string y1.2.1.Path, .string y1.2.1.To, v3, v4] 27], [bx b3 #[.i6 y1.1.Kind, .string y1.1.Path, .string y1.1.To, v1, v2] 27], [bx b2 #[vq_1] 25], [bx b1 #[vp_1] 25]] fr w := S
  refine wE (ev_move rfl) F S rfl fun a F=>?_
  refine wE (ev_extract rfl rfl) F S rfl fun a F=>?_
  refine wE (ev_extract rfl rfl) F S rfl fun a F=>?_
  refine wl_alloc (wn rfl) rfl tz29 (cs := [.i6 0, .i6 0]) rfl F S rfl rfl ?_; clear F a S; rintro b6 a w F S
  refine wE (ev_assign rfl) F S rfl fun a F=>?_
  refine wl_storeC (wn rfl) rfl F S rfl rfl (vs := [.i6 y3.2.Code, .i6 y3.2.Index]) rfl ts29 (one_cons rfl (one_cons rfl one_nil)) (k := 0) rfl (lb rfl) (c' := #[.i6 y3.2.Code, .i6 y3.2.Index]) rfl rfl ?_; clear S; intro w S
  refine wpList_nil ?_
  refine then_n ?_
  refine wp_seq ?_
  refine wp_region_lit ?_
  refine wE (ev_loadA tu25 rfl (cs := [vq_1]) ts25 rfl (box_ptr (cells := [vq_1]) 5 rfl 0 rfl (lb rfl))) F S rfl fun a F=>?_
  refine wE (ev_move rfl) F S rfl fun a F=>?_
  obtain ⟨g4, l4, S, h6⟩ : ∃ gz, Le g3 gz ∧ St gz [[bx b6 #[.i6 y3.2.Code, .i6 y3.2.Index] 29], [bx b5 #[.i6 y1.2.2.2.Code, .i6 y1.2.2.2.Index] 29], [bx b4 #[.i6 y1.2.1.Kind, .string y1.2.1.Path, .string y1.2.1.To, v3, v4] 27], [bx b3 #[.i6 y1.1.Kind, .string y1.1.Path, .string y1.1.To, v1, v2] 27], [bx b2 #[vq_1] 25], [bx b1 #[vp_1] 25]] fr w ∧ RepSl gz y3.1 v5 := ⟨_, Le.add _ _, S.freeze 1 rfl, OwnS.freeze (S.front 1 rfl) h5⟩
  obtain ⟨y4, hy4, hm⟩ := bind_some hm
  refine wl_call0 (wn rfl) rfl F rfl (textpatch_Apply_ok (fr := (fl [[bx b6 #[.i6 y3.2.Code, .i6 y3.2.Index] 29], [bx b5 #[.i6 y1.2.2.2.Code, .i6 y1.2.2.2.Index] 29], [bx b4 #[.i6 y1.2.1.Kind, .string y1.2.1.Path, .string y1.2.1.To, v3, v4] 27], [bx b3 #[.i6 y1.1.Kind, .string y1.1.Path, .string y1.1.To, v1, v2] 27], [bx b2 #[vq_1] 25], [bx b1 #[vp_1] 25]] fr)) q_ vq_1 (hq_1.mono ((l1.trans l3).trans l4)) y3.1 v5 h6 S hy4) rfl tc16 rfl rfl ?_; clear F a S
  rintro _ a w ⟨g5, v6, c2, l5, S, h7, rfl⟩ F; replace S : St g5 [c2, [bx b6 #[.i6 y3.2.Code, .i6 y3.2.Index] 29], [bx b5 #[.i6 y1.2.2.2.Code, .i6 y1.2.2.2.Index] 29], [bx b4 #[.i6 y1.2.1.Kind, .string y1.2.1.Path, .string y1.2.1.To, v3, v4] 27], [bx b3 #[.i6 y1.1.Kind, .string y1.1.Path, .string y1.1.To, v1, v2] 27], [bx b2 #[vq_1] 25], [bx b1 #[vp_1] 25]] fr w := S
  refine wE (ev_move rfl) F S rfl fun a F=>?_
  refine wE (ev_extract rfl rfl) F S rfl fun a F=>?_
  refine wE (ev_extract rfl rfl) F S rfl fun a F=>?_
  refine wl_alloc (wn rfl) rfl tz29 (cs := [.i6 0, .i6 0]) rfl F S rfl rfl ?_; clear F a S; rintro b7 a w F S
  refine wE (ev_assign rfl) F S rfl fun a F=>?_
  refine wl_storeC (wn rfl) rfl F S rfl rfl (vs := [.i6 y4.2.Code, .i6 y4.2.Index]) rfl ts29 (one_cons rfl (one_cons rfl one_nil)) (k := 0) rfl (lb rfl) (c' := #[.i6 y4.2.Code, .i6 y4.2.Index]) rfl rfl ?_; clear S; intro w S
  refine wpList_nil ?_
  refine then_n ?_
  refine wp_seq ?_
  refine wp_region_lit ?_
  refine wE (ev_fieldAddr' tu27 tf27_4 (z := 0) ts25 rfl ⟨_, rfl⟩ rfl) F S rfl fun a F=>?_
  refine wE (ev_loadA tu25 rfl (cs := [v2]) ts25 rfl (box_ptr (cells := [v2]) 5 rfl 4 rfl (lb rfl))) F S rfl fun a F=>?_
  refine wE (ev_move rfl) F S rfl fun a F=>?_
  obtain ⟨y5, hy5, hm⟩ := bind_some hm
  refine wl_call0 (wn rfl) rfl F rfl (textpatch_Apply_ok (fr := (fl [[bx b7 #[.i6 y4.2.Code, .i6 y4.2.Index] 29], c2, [bx b6 #[.i6 y3.2.Code, .i6 y3.2.Index] 29], [bx b5 #[.i6 y1.2.2.2.Code, .i6 y1.2.2.2.Index] 29], [bx b4 #[.i6 y1.2.1.Kind, .string y1.2.1.Path, .string y1.2.1.To, v3, v4] 27], [bx b3 #[.i6 y1.1.Kind, .string y1.1.Path, .string y1.1.To, v1, v2] 27], [bx b2 #[vq_1] 25], [bx b1 #[vp_1] 25]] fr)) y1.1.Patch v2 (h2.mono ((l3.trans l4).trans l5)) base vbase1 (hbase1.mono (((l1.trans l3).trans l4).trans l5)) S hy5) rfl tc16 rfl rfl ?_; clear F a S
  rintro _ a w ⟨g6, v7, c3, l6, S, h8, rfl⟩ F; replace S : St g6 [c3, [bx b7 #[.i6 y4.2.Code, .i6 y4.2.Index] 29], c2, [bx b6 #[.i6 y3.2.Code, .i6 y3.2.Index] 29], [bx b5 #[.i6 y1.2.2.2.Code, .i6 y1.2.2.2.Index] 29], [bx b4 #[.i6 y1.2.1.Kind, .string y1.2.1.Path, .string y1.2.1.To, v3, v4] 27], [bx b3 #[.i6 y1.1.Kind, .string y1.1.Path, .string y1.1.To, v1, v2] 27], [bx b2 #[vq_1] 25], [bx b1 #[vp_1] 25]] fr w := S
  refine wE (ev_move rfl) F S rfl fun a F=>?_
  refine wE (ev_extract rfl rfl) F S rfl fun a F=>?_
  refine wE (ev_extract rfl rfl) F S rfl fun a F=>?_
  refine wl_alloc (wn rfl) rfl tz29 (cs := [.i6 0, .i6 0]) rfl F S rfl rfl ?_; clear F a S; rintro b8 a w F S
  refine wE (ev_assign rfl) F S rfl fun a F=>?_
  refine wl_storeC (wn rfl) rfl F S rfl rfl (vs := [.i6 y5.2.Code, .i6 y5.2.Index]) rfl ts29 (one_cons rfl (one_cons rfl one_nil)) (k := 0) rfl (lb rfl) (c' := #[.i6 y5.2.Code, .i6 y5.2.Index]) rfl rfl ?_; clear S; intro w S
  refine wpList_nil ?_
  refine then_n ?_
  refine wp_seq ?_
  refine wp_region_lit ?_
  refine wE (ev_fieldAddr' tu27 tf27_4 (z := 0) ts25 rfl ⟨_, rfl⟩ rfl) F S rfl fun a F=>?_
  refine wE (ev_loadA tu25 rfl (cs := [v4]) ts25 rfl (box_ptr (cells := [v4]) 6 rfl 4 rfl (lb rfl))) F S rfl fun a F=>?_
  refine wE (ev_move rfl) F S rfl fun a F=>?_
  obtain ⟨g7, l7, S, h9⟩ : ∃ gz, Le g6 gz ∧ St gz [[bx b8 #[.i6 y5.2.Code, .i6 y5.2.Index] 29], [bx b7 #[.i6 y4.2.Code, .i6 y4.2.Index] 29], c2, [bx b6 #[.i6 y3.2.Code, .i6 y3.2.Index] 29], [bx b5 #[.i6 y1.2.2.2.Code, .i6 y1.2.2.2.Index] 29], [bx b4 #[.i6 y1.2.1.Kind, .string y1.2.1.Path, .string y1.2.1.To, v3, v4] 27], [bx b3 #[.i6 y1.1.Kind, .string y1.1.Path, .string y1.1.To, v1, v2] 27], [bx b2 #[vq_1] 25], [bx b1 #[vp_1] 25]] fr w ∧ RepSl gz y5.1 v7 := ⟨_, Le.add _ _, S.freeze 1 rfl, OwnS.freeze (S.front 1 rfl) h8⟩
  obtain ⟨y6, hy6, hm⟩ := bind_some hm
  refine wl_call0 (wn rfl) rfl F rfl (textpatch_Apply_ok (fr := (fl [[bx b8 #[.i6 y5.2.Code, .i6 y5.2.Index] 29], [bx b7 #[.i6 y4.2.Code, .i6 y4.2.Index] 29], c2, [bx b6 #[.i6 y3.2.Code, .i6 y3.2.Index] 29], [bx b5 #[.i6 y1.2.2.2.Code, .i6 y1.2.2.2.Index] 29], [bx b4 #[.i6 y1.2.1.Kind, .string y1.2.1.Path, .string y1.2.1.To, v3, v4] 27], [bx b3 #[.i6 y1.1.Kind, .string y1.1.Path, .string y1.1.To, v1, v2] 27], [bx b2 #[vq_1] 25], [bx b1 #[vp_1] 25]] fr)) y1.2.1.Patch v4 (h4.mono ((((l3.trans l4).trans l5).trans l6).trans l7)) y5.1 v7 h9 S hy6) rfl tc16 rfl rfl ?_; clear F a S
  rintro _ a w ⟨g8, v8, c4, l8, S, h10, rfl⟩ F; replace S : St g8 [c4, [bx b8 #[.i6 y5.2.Code, .i6 y5.2.Index] 29], [bx b7 #[.i6 y4.2.Code, .i6 y4.2.Index] 29], c2, [bx b6 #[.i6 y3.2.Code, .i6 y3.2.Index] 29], [bx b5 #[.i6 y1.2.2.2.Code, .i6 y1.2.2.2.Index] 29], [bx b4 #[.i6 y1.2.1.Kind, .string y1.2.1.Path, .string y1.2.1.To, v3, v4] 27], [bx b3 #[.i6 y1.1.Kind, .string y1.1.Path, .string y1.1.To, v1, v2] 27], [bx b2 #[vq_1] 25], [bx b1 #[vp_1] 25]] fr w := S
  refine wE (ev_move rfl) F S rfl fun a F=>?_
  refine wE (ev_extract rfl rfl) F S rfl fun a F=>?_
  refine wE (ev_extract rfl rfl) F S rfl fun a F=>?_
  refine wl_alloc (wn rfl) rfl tz29 (cs := [.i6 0, .i6 0]) rfl F S rfl rfl ?_; clear F a S; rintro b9 a w F S
  refine wE (ev_assign rfl) F S rfl fun a F=>?_
  refine wl_storeC (wn rfl) rfl F S rfl rfl (vs := [.i6 y6.2.Code, .i6 y6.2.Index]) rfl ts29 (one_cons rfl (one_cons rfl one_nil)) (k := 0) rfl (lb rfl) (c' := #[.i6 y6.2.Code, .i6 y6.2.Index]) rfl rfl ?_; clear S; intro w S
  refine wpList_nil ?_
  refine then_n ?_
  refine wp_seq ?_
  refine wp_seq ?_
  refine wp_region_lit ?_
  refine wE (ev_fieldAddr' tu29 tf29_0 (z := 0) ts3 rfl ⟨_, rfl⟩ rfl) F S rfl fun a F=>?_
  refine wE (ev_load1 tu3 rfl rfl (box_ptr (cells := [.i6 y3.2.Code]) 5 rfl 0 rfl (lb rfl))) F S rfl fun a F=>?_
  refine wE (ev_int rfl rfl (bo_neq _ _ _ _)) F S rfl fun a F=>?_
  refine wE (ev_move rfl) F S rfl fun a F=>?_
  obtain ⟨x2, hx2, hm⟩ := bind_some hm
  refine wl_cut 4 (fun a w' => w = w' ∧ Fr 124 a [(76, .bool x2), (19, v8), (20, bp b9 0), (18, bp b8 0), (15, v6), (16, bp b7 0), (14, bp b6 0)]) ?_ ?_
  ·clear hm; obtain ⟨hc3, hm⟩ | ⟨hc3, hm⟩ := ite_or hx2
   ·refine wl_skip rfl rfl rfl rfl (ne_ft hc3) F rfl rfl ?_; clear F a; intro a F
    refine wl_skip rfl rfl rfl rfl (ne_ft hc3) F rfl rfl ?_; clear F a; intro a F
    refine wl_skip rfl rfl rfl rfl (ne_ft hc3) F rfl rfl ?_; clear F a; intro a F
    refine wE (ev_pickT rfl hc3 rfl) F S rfl fun a F=>?_
    obtain rfl := sinj hm
    refine wpList_nil (then_n ?_); exact ⟨rfl, F.sub ⟨rfl, rfl, rfl, rfl, rfl, rfl, rfl, trivial⟩⟩
   ·refine wl_ev (wg F rfl rfl rfl rfl hc3) (ev_fieldAddr' tu29 tf29_0 (z := 0) ts3 rfl ⟨_, rfl⟩ rfl) F S rfl rfl ?_; clear F a; intro a F
    refine wl_ev (wg F rfl rfl rfl rfl hc3) (ev_load1 tu3 rfl rfl (box_ptr (cells := [.i6 y4.2.Code]) 3 rfl 0 rfl (lb rfl))) F S rfl rfl ?_; clear F a; intro a F
    refine wl_ev (wg F rfl rfl rfl rfl hc3) (ev_int rfl rfl (bo_neq _ _ _ _)) F S rfl rfl ?_; clear F a; intro a F
    refine wE (ev_pickF rfl hc3 rfl) F S rfl fun a F=>?_
    obtain rfl := sinj hm
    refine wpList_nil (then_n ?_); exact ⟨rfl, F.sub ⟨rfl, rfl, rfl, rfl, rfl, rfl, rfl, trivial⟩⟩
  clear F; rintro a w' ⟨rfl, F⟩
  refine wE (ev_move rfl) F S rfl fun a F=>?_
  obtain ⟨x3, hx3, hm⟩ := bind_some hm
  refine wl_cut 4 (fun a w' => w = w' ∧ Fr 124 a [(81, .bool x3), (19, v8), (20, bp b9 0), (18, bp b8 0), (15, v6), (16, bp b7 0), (14, bp b6 0)]) ?_ ?_
  ·clear hm; obtain ⟨hc4, hm⟩ | ⟨hc4, hm⟩ := ite_or hx3
   ·refine wl_skip rfl rfl rfl rfl (ne_ft hc4) F rfl rfl ?_; clear F a; intro a F
    refine wl_skip rfl rfl rfl rfl (ne_ft hc4) F rfl rfl ?_; clear F a; intro a F
    refine wl_skip rfl rfl rfl rfl (ne_ft hc4) F rfl rfl ?_; clear F a; intro a F
    refine wE (ev_pickT rfl hc4 rfl) F S rfl fun a F=>?_
    obtain rfl := sinj hm
    refine wpList_nil (then_n ?_); exact ⟨rfl, F.sub ⟨rfl, rfl, rfl, rfl, rfl, rfl, rfl, trivial⟩⟩
   ·refine wl_ev (wg F rfl rfl rfl rfl hc4) (ev_fieldAddr' tu29 tf29_0 (z := 0) ts3 rfl ⟨_, rfl⟩ rfl) F S rfl rfl ?_; clear F a; intro a F
    refine wl_ev (wg F rfl rfl rfl rfl hc4) (ev_load1 tu3 rfl rfl (box_ptr (cells := [.i6 y5.2.Code]) 2 rfl 0 rfl (lb rfl))) F S rfl rfl ?_; clear F a; intro a F
    refine wl_ev (wg F rfl rfl rfl rfl hc4) (ev_int rfl rfl (bo_neq _ _ _ _)) F S rfl rfl ?_; clear F a; intro a F
    refine wE (ev_pickF rfl hc4 rfl) F S rfl fun a F=>?_
    obtain rfl := sinj hm
    refine wpList_nil (then_n ?_); exact ⟨rfl, F.sub ⟨rfl, rfl, rfl, rfl, rfl, rfl, rfl, trivial⟩⟩
  clear F; rintro a w' ⟨rfl, F⟩
  refine wE (ev_move rfl) F S rfl fun a F=>?_
  obtain ⟨x4, hx4, hm⟩ := bind_some hm
  refine wl_cut 4 (fun a w' => w = w' ∧ Fr 124 a [(86, .bool x4), (19, v8), (20, bp b9 0), (18, bp b8 0), (15, v6), (16, bp b7 0), (14, bp b6 0)]) ?_ ?_
  ·clear hm; obtain ⟨hc5, hm⟩ | ⟨hc5, hm⟩ := ite_or hx4
   ·refine wl_skip rfl rfl rfl rfl (ne_ft hc5) F rfl rfl ?_; clear F a; intro a F
    refine wl_skip rfl rfl rfl rfl (ne_ft hc5) F rfl rfl ?_; clear F a; intro a F
    refine wl_skip rfl rfl rfl rfl (ne_ft hc5) F rfl rfl ?_; clear F a; intro a F
    refine wE (ev_pickT rfl hc5 rfl) F S rfl fun a F=>?_
    obtain rfl := sinj hm
    refine wpList_nil (then_n ?_); exact ⟨rfl, F.sub ⟨rfl, rfl, rfl, rfl, rfl, rfl, rfl, trivial⟩⟩
   ·refine wl_ev (wg F rfl rfl rfl rfl hc5) (ev_fieldAddr' tu29 tf29_0 (z := 0) ts3 rfl ⟨_, rfl⟩ rfl) F S rfl rfl ?_; clear F a; intro a F
    refine wl_ev (wg F rfl rfl rfl rfl hc5) (ev_load1 tu3 rfl rfl (box_ptr (cells := [.i6 y6.2.Code]) 0 rfl 0 rfl (lb rfl))) F S rfl rfl ?_; clear F a; intro a F
    refine wl_ev (wg F rfl rfl rfl rfl hc5) (ev_int rfl rfl (bo_neq _ _ _ _)) F S rfl rfl ?_; clear F a; intro a F
    refine wE (ev_pickF rfl hc5 rfl) F S rfl fun a F=>?_
    obtain rfl := sinj hm
    refine wpList_nil (then_n ?_); exact ⟨rfl, F.sub ⟨rfl, rfl, rfl, rfl, rfl, rfl, rfl, trivial⟩⟩
  clear F; rintro a w' ⟨rfl, F⟩
  refine wpList_nil ?_
  refine then_n ?_
  obtain ⟨hc6, hm⟩ | ⟨hc6, hm⟩ := ite_or hm
  ·refine wp_condT F rfl hc6 ?_
   refine wp_seq ?_
   refine wp_region_lit ?_
   refine wE (ev_fieldAddr' tu29 tf29_0 (z := 0) ts3 rfl ⟨_, rfl⟩ rfl) F S rfl fun a F=>?_
   refine wE (ev_load1 tu3 rfl rfl (box_ptr (cells := [.i6 y3.2.Code]) 5 rfl 0 rfl (lb rfl))) F S rfl fun a F=>?_
   refine wE (ev_int rfl rfl (bo_neq _ _ _ _)) F S rfl fun a F=>?_
   refine wE (ev_move rfl) F S rfl fun a F=>?_
   obtain ⟨x5, hx5, hm⟩ := bind_some hm
   refine wl_cut 4 (fun a w' => w = w' ∧ Fr 124 a [(94, .bool x5), (20, bp b9 0), (18, bp b8 0)]) ?_ ?_
   ·clear hm; obtain ⟨hc7, hm⟩ | ⟨hc7, hm⟩ := ite_or hx5
    ·refine wl_skip rfl rfl rfl rfl (ne_ft hc7) F rfl rfl ?_; clear F a; intro a F
     refine wl_skip rfl rfl rfl rfl (ne_ft hc7) F rfl rfl ?_; clear F a; intro a F
     refine wl_skip rfl rfl rfl rfl (ne_ft hc7) F rfl rfl ?_; clear F a; intro a F
     refine wE (ev_pickT rfl hc7 rfl) F S rfl fun a F=>?_
     obtain rfl := sinj hm
     refine wpList_nil (then_n ?_); exact ⟨rfl, F.sub ⟨rfl, rfl, rfl, trivial⟩⟩
    ·refine wl_ev (wg F rfl rfl rfl rfl hc7) (ev_fieldAddr' tu29 tf29_0 (z := 0) ts3 rfl ⟨_, rfl⟩ rfl) F S rfl rfl ?_; clear F a; intro a F
     refine wl_ev (wg F rfl rfl rfl rfl hc7) (ev_load1 tu3 rfl rfl (box_ptr (cells := [.i6 y4.2.Code]) 3 rfl 0 rfl (lb rfl))) F S rfl rfl ?_; clear F a; intro a F
     refine wl_ev (wg F rfl rfl rfl rfl hc7) (ev_int rfl rfl (bo_neq _ _ _ _)) F S rfl rfl ?_; clear F a; intro a F
     refine wE (ev_pickF rfl hc7 rfl) F S rfl fun a F=>?_
     obtain rfl := sinj hm
     refine wpList_nil (then_n ?_); exact ⟨rfl, F.sub ⟨rfl, rfl, rfl, trivial⟩⟩
   clear F; rintro a w' ⟨rfl, F⟩
   refine wE (ev_move rfl) F S rfl fun a F=>?_
   obtain ⟨x6, hx6, hm⟩ := bind_some hm
   refine wl_cut 4 (fun a w' => w = w' ∧ Fr 124 a [(99, .bool x6), (20, bp b9 0)]) ?_ ?_
   ·clear hm; obtain ⟨hc8, hm⟩ | ⟨hc8, hm⟩ := ite_or hx6
    ·refine wl_skip rfl rfl rfl rfl (ne_ft hc8) F rfl rfl ?_; clear F a; intro a F
     refine wl_skip rfl rfl rfl rfl (ne_ft hc8) F rfl rfl ?_; clear F a; intro a F
     refine wl_skip rfl rfl rfl rfl (ne_ft hc8) F rfl rfl ?_; clear F a; intro a F
     refine wE (ev_pickT rfl hc8 rfl) F S rfl fun a F=>?_
     obtain rfl := sinj hm
     refine wpList_nil (then_n ?_); exact ⟨rfl, F.sub ⟨rfl, rfl, trivial⟩⟩
    ·refine wl_ev (wg F rfl rfl rfl rfl hc8) (ev_fieldAddr' tu29 tf29_0 (z := 0) ts3 rfl ⟨_, rfl⟩ rfl) F S rfl rfl ?_; clear F a; intro a F
     refine wl_ev (wg F rfl rfl rfl rfl hc8) (ev_load1 tu3 rfl rfl (box_ptr (cells := [.i6 y5.2.Code]) 2 rfl 0 rfl (lb rfl))) F S rfl rfl ?_; clear F a; intro a F
     refine wl_ev (wg F rfl rfl rfl rfl hc8) (ev_int rfl rfl (bo_eql _ _ _ _)) F S rfl rfl ?_; clear F a; intro a F
     refine wE (ev_pickF rfl hc8 rfl) F S rfl fun a F=>?_
     obtain rfl := sinj hm
     refine wpList_nil (then_n ?_); exact ⟨rfl, F.sub ⟨rfl, rfl, trivial⟩⟩
   clear F; rintro a w' ⟨rfl, F⟩
   refine wE (ev_move rfl) F S rfl fun a F=>?_
   obtain ⟨x7, hx7, hm⟩ := bind_some hm
   refine wl_cut 4 (fun a w' => w = w' ∧ Fr 124 a [(104, .bool x7)]) ?_ ?_
   ·clear hm; obtain ⟨hc9, hm⟩ | ⟨hc9, hm⟩ := ite_or hx7
    ·refine wl_skip rfl rfl rfl rfl (ne_ft hc9) F rfl rfl ?_; clear F a; intro a F
     refine wl_skip rfl rfl rfl rfl (ne_ft hc9) F rfl rfl ?_; clear F a; intro a F
     refine wl_skip rfl rfl rfl rfl (ne_ft hc9) F rfl rfl ?_; clear F a; intro a F
     refine wE (ev_pickT rfl hc9 rfl) F S rfl fun a F=>?_
     obtain rfl := sinj hm
     refine wpList_nil (then_n ?_); exact ⟨rfl, F.sub ⟨rfl, trivial⟩⟩
    ·refine wl_ev (wg F rfl rfl rfl rfl hc9) (ev_fieldAddr' tu29 tf29_0 (z := 0) ts3 rfl ⟨_, rfl⟩ rfl) F S rfl rfl ?_; clear F a; intro a F
     refine wl_ev (wg F rfl rfl rfl rfl hc9) (ev_load1 tu3 rfl rfl (box_ptr (cells := [.i6 y6.2.Code]) 0 rfl 0 rfl (lb rfl))) F S rfl rfl ?_; clear F a; intro a F
     refine wl_ev (wg F rfl rfl rfl rfl hc9) (ev_int rfl rfl (bo_eql _ _ _ _)) F S rfl rfl ?_; clear F a; intro a F
     refine wE (ev_pickF rfl hc9 rfl) F S rfl fun a F=>?_
     obtain rfl := sinj hm
     refine wpList_nil (then_n ?_); exact ⟨rfl, F.sub ⟨rfl, trivial⟩⟩
   clear F; rintro a w' ⟨rfl, F⟩
   refine wE (ev_move rfl) F S rfl fun a F=>?_
   obtain ⟨x8, hx8, hm⟩ := bind_some hm
   refine wl_cut 2 (fun a w => ∃ g9, Fr 124 a [(107, .bool x8)] ∧ Le g8 g9 ∧ St g9 [[bx b9 #[.i6 y6.2.Code, .i6 y6.2.Index] 29], c4, [bx b8 #[.i6 y5.2.Code, .i6 y5.2.Index] 29], [bx b7 #[.i6 y4.2.Code, .i6 y4.2.Index] 29], c2, [bx b6 #[.i6 y3.2.Code, .i6 y3.2.Index] 29], [bx b5 #[.i6 y1.2.2.2.Code, .i6 y1.2.2.2.Index] 29], [bx b4 #[.i6 y1.2.1.Kind, .string y1.2.1.Path, .string y1.2.1.To, v3, v4] 27], [bx b3 #[.i6 y1.1.Kind, .string y1.1.Path, .string y1.1.To, v1, v2] 27], [bx b2 #[vq_1] 25], [bx b1 #[vp_1] 25]] fr w) ?_ ?_
   ·clear hm; obtain ⟨hc10, hm⟩ | ⟨hc10, hm⟩ := ite_or hx8
    ·obtain ⟨y7, hy7, hm⟩ := bind_some hm
     refine wl_call0 (wg F rfl rfl rfl rfl hc10) rfl F rfl (changeforgelaw2_followed_ok (fr := (fl [[bx b9 #[.i6 y6.2.Code, .i6 y6.2.Index] 29], c4, [bx b8 #[.i6 y5.2.Code, .i6 y5.2.Index] 29], [bx b7 #[.i6 y4.2.Code, .i6 y4.2.Index] 29], c2, [bx b6 #[.i6 y3.2.Code, .i6 y3.2.Index] 29], [bx b5 #[.i6 y1.2.2.2.Code, .i6 y1.2.2.2.Index] 29], [bx b4 #[.i6 y1.2.1.Kind, .string y1.2.1.Path, .string y1.2.1.To, v3, v4] 27], [bx b3 #[.i6 y1.1.Kind, .string y1.1.Path, .string y1.1.To, v1, v2] 27], [bx b2 #[vq_1] 25], [bx b1 #[vp_1] 25]] fr))  S hy7) rfl tc15 rfl rfl ?_; clear F a S
     rintro _ a w ⟨g10, l10, S, rfl⟩ F; replace S : St g10 [[bx b9 #[.i6 y6.2.Code, .i6 y6.2.Index] 29], c4, [bx b8 #[.i6 y5.2.Code, .i6 y5.2.Index] 29], [bx b7 #[.i6 y4.2.Code, .i6 y4.2.Index] 29], c2, [bx b6 #[.i6 y3.2.Code, .i6 y3.2.Index] 29], [bx b5 #[.i6 y1.2.2.2.Code, .i6 y1.2.2.2.Index] 29], [bx b4 #[.i6 y1.2.1.Kind, .string y1.2.1.Path, .string y1.2.1.To, v3, v4] 27], [bx b3 #[.i6 y1.1.Kind, .string y1.1.Path, .string y1.1.To, v1, v2] 27], [bx b2 #[vq_1] 25], [bx b1 #[vp_1] 25]] fr w := S
     refine wE (ev_pickT rfl hc10 rfl) F S rfl fun a F=>?_
     obtain rfl := sinj hm
     refine wpList_nil (then_n ?_); exact ⟨g10, F.sub ⟨rfl, trivial⟩, l10, S⟩
    ·refine wl_skip rfl rfl rfl rfl (ne_tf hc10) F rfl rfl ?_; clear F a; intro a F
     refine wE (ev_pickF rfl hc10 rfl) F S rfl fun a F=>?_
     obtain rfl := sinj hm
     refine wpList_nil (then_n ?_); exact ⟨g8, F.sub ⟨rfl, trivial⟩, (Le.refl _), S⟩
   clear F S; rintro a w ⟨g9, F, l9, S⟩
   refine wE (ev_assign rfl) F S rfl fun a F=>?_
   refine wpList_nil ?_
   refine then_n ?_
   refine wp_ret ?_
   refine then_r ?_
   obtain rfl := sinj hm
   refine post_r _ F rfl (ar_cons (resT rfl) ar_nil) ?_
   replace S : St g9 [] fr w := St.tail [] _ S
   exact ⟨_, rfl, g9, (((((((l1.trans l3).trans l4).trans l5).trans l6).trans l7).trans l8).trans l9), S, rfl⟩
  ·refine wp_condF F rfl hc6 ?_
   refine wp_skip ?_
   refine then_n ?_
   refine wp_seq ?_
   refine wp_region_lit ?_
   refine wE (ev_move rfl) F S rfl fun a F=>?_
   refine wE (ev_move rfl) F S rfl fun a F=>?_
   obtain ⟨g11, l11, S, h11⟩ : ∃ gz, Le g8 gz ∧ St gz [[bx b9 #[.i6 y6.2.Code, .i6 y6.2.Index] 29], c4, [bx b8 #[.i6 y5.2.Code, .i6 y5.2.Index] 29], [bx b7 #[.i6 y4.2.Code, .i6 y4.2.Index] 29], [bx b6 #[.i6 y3.2.Code, .i6 y3.2.Index] 29], [bx b5 #[.i6 y1.2.2.2.Code, .i6 y1.2.2.2.Index] 29], [bx b4 #[.i6 y1.2.1.Kind, .string y1.2.1.Path, .string y1.2.1.To, v3, v4] 27], [bx b3 #[.i6 y1.1.Kind, .string y1.1.Path, .string y1.1.To, v1, v2] 27], [bx b2 #[vq_1] 25], [bx b1 #[vp_1] 25]] fr w ∧ RepSl gz y4.1 v6 := ⟨_, Le.add _ _, S.freeze 4 rfl, OwnS.freeze (S.front 4 rfl) (h7.mono ((l6.trans l7).trans l8))⟩
   obtain ⟨g12, l12, S, h12⟩ : ∃ gz, Le g11 gz ∧ St gz [[bx b9 #[.i6 y6.2.Code, .i6 y6.2.Index] 29], [bx b8 #[.i6 y5.2.Code, .i6 y5.2.Index] 29], [bx b7 #[.i6 y4.2.Code, .i6 y4.2.Index] 29], [bx b6 #[.i6 y3.2.Code, .i6 y3.2.Index] 29], [bx b5 #[.i6 y1.2.2.2.Code, .i6 y1.2.2.2.Index] 29], [bx b4 #[.i6 y1.2.1.Kind, .string y1.2.1.Path, .string y1.2.1.To, v3, v4] 27], [bx b3 #[.i6 y1.1.Kind, .string y1.1.Path, .string y1.1.To, v1, v2] 27], [bx b2 #[vq_1] 25], [bx b1 #[vp_1] 25]] fr w ∧ RepSl gz y6.1 v8 := ⟨_, Le.add _ _, S.freeze 1 rfl, OwnS.freeze (S.front 1 rfl) (h10.mono l11)⟩
   obtain ⟨y8, hy8, hm⟩ := bind_some hm
   refine wl_call0 (wn rfl) rfl F rfl (diff_Distance_ok (fr := (fl [[bx b9 #[.i6 y6.2.Code, .i6 y6.2.Index] 29], [bx b8 #[.i6 y5.2.Code, .i6 y5.2.Index] 29], [bx b7 #[.i6 y4.2.Code, .i6 y4.2.Index] 29], [bx b6 #[.i6 y3.2.Code, .i6 y3.2.Index] 29], [bx b5 #[.i6 y1.2.2.2.Code, .i6 y1.2.2.2.Index] 29], [bx b4 #[.i6 y1.2.1.Kind, .string y1.2.1.Path, .string y1.2.1.To, v3, v4] 27], [bx b3 #[.i6 y1.1.Kind, .string y1.1.Path, .string y1.1.To, v1, v2] 27], [bx b2 #[vq_1] 25], [bx b1 #[vp_1] 25]] fr)) y4.1 v6 (h11.mono l12) y6.1 v8 h12 S hy8) rfl tc17 rfl rfl ?_; clear F a S
   rintro _ a w ⟨g13, l13, S, rfl⟩ F; replace S : St g13 [[bx b9 #[.i6 y6.2.Code, .i6 y6.2.Index] 29], [bx b8 #[.i6 y5.2.Code, .i6 y5.2.Index] 29], [bx b7 #[.i6 y4.2.Code, .i6 y4.2.Index] 29], [bx b6 #[.i6 y3.2.Code, .i6 y3.2.Index] 29], [bx b5 #[.i6 y1.2.2.2.Code, .i6 y1.2.2.2.Index] 29], [bx b4 #[.i6 y1.2.1.Kind, .string y1.2.1.Path, .string y1.2.1.To, v3, v4] 27], [bx b3 #[.i6 y1.1.Kind, .string y1.1.Path, .string y1.1.To, v1, v2] 27], [bx b2 #[vq_1] 25], [bx b1 #[vp_1] 25]] fr w := S
   refine wE (ev_move rfl) F S rfl fun a F=>?_
   refine wE (ev_extract rfl rfl) F S rfl fun a F=>?_
   refine wE (ev_extract rfl rfl) F S rfl fun a F=>?_
   refine wl_alloc (wn rfl) rfl tz29 (cs := [.i6 0, .i6 0]) rfl F S rfl rfl ?_; clear F a S; rintro b10 a w F S
   refine wE (ev_assign rfl) F S rfl fun a F=>?_
   refine wl_storeC (wn rfl) rfl F S rfl rfl (vs := [.i6 y8.2.Code, .i6 y8.2.Index]) rfl ts29 (one_cons rfl (one_cons rfl one_nil)) (k := 0) rfl (lb rfl) (c' := #[.i6 y8.2.Code, .i6 y8.2.Index]) rfl rfl ?_; clear S; intro w S
   refine wpList_nil ?_
   refine then_n ?_
   refine wp_seq ?_
   refine wp_region_lit ?_
   refine wE (ev_fieldAddr' tu29 tf29_0 (z := 0) ts3 rfl ⟨_, rfl⟩ rfl) F S rfl fun a F=>?_
   refine wE (ev_load1 tu3 rfl rfl (box_ptr (cells := [.i6 y8.2.Code]) 0 rfl 0 rfl (lb rfl))) F S rfl fun a F=>?_
   refine wE (ev_int rfl rfl (bo_eql _ _ _ _)) F S rfl fun a F=>?_
   refine wE (ev_move rfl) F S rfl fun a F=>?_
   obtain ⟨x9, hx9, hm⟩ := bind_some hm
   refine wl_cut 3 (fun a w' => w = w' ∧ Fr 124 a [(120, .bool x9)]) ?_ ?_
   ·clear hm; obtain ⟨hc11, hm⟩ | ⟨hc11, hm⟩ := ite_or hx9
    ·refine wl_ev (wg F rfl rfl rfl rfl hc11) (ev_move rfl) F S rfl rfl ?_; clear F a; intro a F
     refine wl_ev (wg F rfl rfl rfl rfl hc11) (ev_int rfl rfl (bo_eql _ _ _ _)) F S rfl rfl ?_; clear F a; intro a F
     refine wE (ev_pickT rfl hc11 rfl) F S rfl fun a F=>?_
     obtain rfl := sinj hm
     refine wpList_nil (then_n ?_); exact ⟨rfl, F.sub ⟨rfl, trivial⟩⟩
    ·refine wl_skip rfl rfl rfl rfl (ne_tf hc11) F rfl rfl ?_; clear F a; intro a F
     refine wl_skip rfl rfl rfl rfl (ne_tf hc11) F rfl rfl ?_; clear F a; intro a F
     refine wE (ev_pickF rfl hc11 rfl) F S rfl fun a F=>?_
     obtain rfl := sinj hm
     refine wpList_nil (then_n ?_); exact ⟨rfl, F.sub ⟨rfl, trivial⟩⟩
   clear F; rintro a w' ⟨rfl, F⟩
   refine wE (ev_move rfl) F S rfl fun a F=>?_
   obtain ⟨x10, hx10, hm⟩ := bind_some hm
   refine wl_cut 2 (fun a w => ∃ g14, Fr 124 a [(123, .bool x10)] ∧ Le g13 g14 ∧ St g14 [[bx b10 #[.i6 y8.2.Code, .i6 y8.2.Index] 29], [bx b9 #[.i6 y6.2.Code, .i6 y6.2.Index] 29], [bx b8 #[.i6 y5.2.Code, .i6 y5.2.Index] 29], [bx b7 #[.i6 y4.2.Code, .i6 y4.2.Index] 29], [bx b6 #[.i6 y3.2.Code, .i6 y3.2.Index] 29], [bx b5 #[.i6 y1.2.2.2.Code, .i6 y1.2.2.2.Index] 29], [bx b4 #[.i6 y1.2.1.Kind, .string y1.2.1.Path, .string y1.2.1.To, v3, v4] 27], [bx b3 #[.i6 y1.1.Kind, .string y1.1.Path, .string y1.1.To, v1, v2] 27], [bx b2 #[vq_1] 25], [bx b1 #[vp_1] 25]] fr w) ?_ ?_
   ·clear hm; obtain ⟨hc12, hm⟩ | ⟨hc12, hm⟩ := ite_or hx10
    ·obtain ⟨y9, hy9, hm⟩ := bind_some hm
     refine wl_call0 (wg F rfl rfl rfl rfl hc12) rfl F rfl (changeforgelaw2_followed_ok (fr := (fl [[bx b10 #[.i6 y8.2.Code, .i6 y8.2.Index] 29], [bx b9 #[.i6 y6.2.Code, .i6 y6.2.Index] 29], [bx b8 #[.i6 y5.2.Code, .i6 y5.2.Index] 29], [bx b7 #[.i6 y4.2.Code, .i6 y4.2.Index] 29], [bx b6 #[.i6 y3.2.Code, .i6 y3.2.Index] 29], [bx b5 #[.i6 y1.2.2.2.Code, .i6 y1.2.2.2.Index] 29], [bx b4 #[.i6 y1.2.1.Kind, .string y1.2.1.Path, .string y1.2.1.To, v3, v4] 27], [bx b3 #[.i6 y1.1.Kind, .string y1.1.Path, .string y1.1.To, v1, v2] 27], [bx b2 #[vq_1] 25], [bx b1 #[vp_1] 25]] fr))  S hy9) rfl tc15 rfl rfl ?_; clear F a S
     rintro _ a w ⟨g15, l15, S, rfl⟩ F; replace S : St g15 [[bx b10 #[.i6 y8.2.Code, .i6 y8.2.Index] 29], [bx b9 #[.i6 y6.2.Code, .i6 y6.2.Index] 29], [bx b8 #[.i6 y5.2.Code, .i6 y5.2.Index] 29], [bx b7 #[.i6 y4.2.Code, .i6 y4.2.Index] 29], [bx b6 #[.i6 y3.2.Code, .i6 y3.2.Index] 29], [bx b5 #[.i6 y1.2.2.2.Code, .i6 y1.2.2.2.Index] 29], [bx b4 #[.i6 y1.2.1.Kind, .string y1.2.1.Path, .string y1.2.1.To, v3, v4] 27], [bx b3 #[.i6 y1.1.Kind, .string y1.1.Path, .string y1.1.To, v1, v2] 27], [bx b2 #[vq_1] 25], [bx b1 #[vp_1] 25]] fr w := S
     refine wE (ev_pickT rfl hc12 rfl) F S rfl fun a F=>?_
     obtain rfl := sinj hm
     refine wpList_nil (then_n ?_); exact ⟨g15, F.sub ⟨rfl, trivial⟩, l15, S⟩
    ·refine wl_skip rfl rfl rfl rfl (ne_tf hc12) F rfl rfl ?_; clear F a; intro a F
     refine wE (ev_pickF rfl hc12 rfl) F S rfl fun a F=>?_
     obtain rfl := sinj hm
     refine wpList_nil (then_n ?_); exact ⟨g13, F.sub ⟨rfl, trivial⟩, (Le.refl _), S⟩
   clear F S; rintro a w ⟨g14, F, l14, S⟩
   refine wE (ev_assign rfl) F S rfl fun a F=>?_
   refine wpList_nil ?_
   refine then_n ?_
   refine wp_ret ?_
   obtain rfl := sinj hm
   refine post_r _ F rfl (ar_cons (resT rfl) ar_nil) ?_
   replace S : St g14 [] fr w := St.tail [] _ S
   exact ⟨_, rfl, g14, ((((((((((l1.trans l3).trans l4).trans l5).trans l6).trans l7).trans l8).trans l11).trans l12).trans l13).trans l14), S, rfl⟩
end Go.Dc
