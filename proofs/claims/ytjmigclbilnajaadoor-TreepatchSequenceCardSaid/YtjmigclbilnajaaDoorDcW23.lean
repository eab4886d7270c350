/- Walks: each function comes to what its model says. -/
import Derived.Test.YtjmigclbilnajaaDoorDcTab
import Derived.Test.YtjmigclbilnajaaDoorDcM
import Derived.Test.YtjmigclbilnajaaDoorDcW18
import Derived.Test.YtjmigclbilnajaaDoorDcW20
namespace Go.Dc
open Go Go.Proofs
set_option maxRecDepth 100000
set_option maxHeartbeats 4000000
set_option linter.unusedVariables false
theorem changeforgelaw2_TreepatchSequence_ok {g : Gh} {fr : Hl} {w : World} {r : Bool} (p_ : TreePatch) (vp_1 : Value) (hp_1 : RepSl g p_.Changes vp_1) (q_ : TreePatch) (vq_1 : Value) (hq_1 : RepSl g q_.Changes vq_1) (t_ : FileTree) (vt_1 : Value) (ht_1 : RepSl g t_.Files vt_1) (S : St g [] fr w) (hm : changeforgelaw2_TreepatchSequence p_ q_ t_ = some r) :
  Calls Tryd.prog 8 [.agg #[vp_1], .agg #[vq_1], .agg #[vt_1]].toArray w (fun en w' => ∃ v, en = .returned v ∧ ∃ (g' : Gh), Le g g' ∧ St g' [] fr w' ∧ .bool r = v) := by
 unfold changeforgelaw2_TreepatchSequence at hm
 refine calls_enter (fn := Tryd.f8) Tryd.func8 rfl Tryd.ntmps8 (lb rfl) ?_
 intro a F
 replace F : Fr 68 a [(0, .agg #[vp_1]), (1, .agg #[vq_1]), (2, .agg #[vt_1])] := F
 refine wp_seq ?_
 refine wp_region_lit ?_
 refine wl_boxC (wn rfl) rfl rfl rfl F S rfl rfl ?_; clear F a S; rintro b1 a w F S
 refine wl_boxC (wn rfl) rfl rfl rfl F S rfl rfl ?_; clear F a S; rintro b2 a w F S
 refine wl_boxC (wn rfl) rfl rfl rfl F S rfl rfl ?_; clear F a S; rintro b3 a w F S
 refine wE (ev_assign rfl) F S rfl fun a F=>?_
 refine wpList_nil ?_
 refine then_n ?_
 refine wp_seq ?_
 refine wp_region_lit ?_
 refine wE (ev_loadA tu41 rfl (cs := [vp_1]) ts41 rfl (box_ptr (cells := [vp_1]) 2 rfl 0 rfl (lb rfl))) F S rfl fun a F=>?_
 refine wE (ev_loadA tu44 rfl (cs := [vt_1]) ts44 rfl (box_ptr (cells := [vt_1]) 0 rfl 0 rfl (lb rfl))) F S rfl fun a F=>?_
 obtain ⟨y1, hy1, hm⟩ := bind_some hm
 refine wl_call0 (wn rfl) rfl F rfl (treepatch_Apply_ok (fr := (fl [[bx b3 #[vt_1] 44], [bx b2 #[vq_1] 41], [bx b1 #[vp_1] 41]] fr)) p_ vp_1 hp_1 t_ vt_1 ht_1 S hy1) rfl tc18 rfl rfl ?_; clear F a S
 rintro _ a w ⟨g1, v1, c1, l1, S, h1, rfl⟩ F; replace S : St g1 [c1, [bx b3 #[vt_1] 44], [bx b2 #[vq_1] 41], [bx b1 #[vp_1] 41]] fr w := S
 refine wE (ev_move rfl) F S rfl fun a F=>?_
 refine wE (ev_extract rfl rfl) F S rfl fun a F=>?_
 refine wE (ev_extract rfl rfl) F S rfl fun a F=>?_
 refine wl_alloc (wn rfl) rfl tz44 (cs := [nilS]) rfl F S rfl rfl ?_; clear F a S; rintro b4 a w F S
 refine wl_alloc (wn rfl) rfl tz29 (cs := [.i6 0, .i6 0]) rfl F S rfl rfl ?_; clear F a S; rintro b5 a w F S
 refine wl_storeC (wn rfl) rfl F S rfl rfl (vs := [v1]) rfl ts44 (one_cons (OwnS.one h1) one_nil) (k := 1) rfl (lb rfl) (c' := #[v1]) rfl rfl ?_; clear S; intro w S
 refine wl_storeC (wn rfl) rfl F S rfl rfl (vs := [.i6 y1.2.Code, .i6 y1.2.Index]) rfl ts29 (one_cons rfl (one_cons rfl one_nil)) (k := 0) rfl (lb rfl) (c' := #[.i6 y1.2.Code, .i6 y1.2.Index]) rfl rfl ?_; clear S; intro w S
 refine wpList_nil ?_
 refine then_n ?_
 refine wp_seq ?_
 refine wp_region_lit ?_
 refine wE (ev_loadA tu41 rfl (cs := [vq_1]) ts41 rfl (box_ptr (cells := [vq_1]) 4 rfl 0 rfl (lb rfl))) F S rfl fun a F=>?_
 refine wE (ev_loadA tu44 rfl (cs := [v1]) ts44 rfl (box_ptr (cells := [v1]) 1 rfl 0 rfl (lb rfl))) F S rfl fun a F=>?_
 obtain ⟨g2, l2, S, h2⟩ : ∃ gz, Le g1 gz ∧ St gz [[bx b5 #[.i6 y1.2.Code, .i6 y1.2.Index] 29], [bx b4 #[v1] 44], [bx b3 #[vt_1] 44], [bx b2 #[vq_1] 41], [bx b1 #[vp_1] 41]] fr w ∧ RepSl gz y1.1.Files v1 := ⟨_, Le.add _ _, S.freeze 2 rfl, OwnS.freeze (S.front 2 rfl) h1⟩
 obtain ⟨y2, hy2, hm⟩ := bind_some hm
 refine wl_call0 (wn rfl) rfl F rfl (treepatch_Apply_ok (fr := (fl [[bx b5 #[.i6 y1.2.Code, .i6 y1.2.Index] 29], [bx b4 #[v1] 44], [bx b3 #[vt_1] 44], [bx b2 #[vq_1] 41], [bx b1 #[vp_1] 41]] fr)) q_ vq_1 (hq_1.mono (l1.trans l2)) y1.1 v1 h2 S hy2) rfl tc18 rfl rfl ?_; clear F a S
 rintro _ a w ⟨g3, v2, c2, l3, S, h3, rfl⟩ F; replace S : St g3 [c2, [bx b5 #[.i6 y1.2.Code, .i6 y1.2.Index] 29], [bx b4 #[v1] 44], [bx b3 #[vt_1] 44], [bx b2 #[vq_1] 41], [bx b1 #[vp_1] 41]] fr w := S
 refine wE (ev_move rfl) F S rfl fun a F=>?_
 refine wE (ev_extract rfl rfl) F S rfl fun a F=>?_
 refine wE (ev_extract rfl rfl) F S rfl fun a F=>?_
 refine wl_alloc (wn rfl) rfl tz44 (cs := [nilS]) rfl F S rfl rfl ?_; clear F a S; rintro b6 a w F S
 refine wl_alloc (wn rfl) rfl tz29 (cs := [.i6 0, .i6 0]) rfl F S rfl rfl ?_; clear F a S; rintro b7 a w F S
 refine wl_storeC (wn rfl) rfl F S rfl rfl (vs := [v2]) rfl ts44 (one_cons (OwnS.one h3) one_nil) (k := 1) rfl (lb rfl) (c' := #[v2]) rfl rfl ?_; clear S; intro w S
 refine wl_storeC (wn rfl) rfl F S rfl rfl (vs := [.i6 y2.2.Code, .i6 y2.2.Index]) rfl ts29 (one_cons rfl (one_cons rfl one_nil)) (k := 0) rfl (lb rfl) (c' := #[.i6 y2.2.Code, .i6 y2.2.Index]) rfl rfl ?_; clear S; intro w S
 refine wpList_nil ?_
 refine then_n ?_
 refine wp_seq ?_
 refine wp_seq ?_
 refine wp_region_lit ?_
 refine wE (ev_fieldAddr' tu29 tf29_0 (z := 0) ts3 rfl ⟨_, rfl⟩ rfl) F S rfl fun a F=>?_
 refine wE (ev_load1 tu3 rfl rfl (box_ptr (cells := [.i6 y1.2.Code]) 3 rfl 0 rfl (lb rfl))) F S rfl fun a F=>?_
 refine wE (ev_int rfl rfl (bo_neq _ _ _ _)) F S rfl fun a F=>?_
 refine wE (ev_move rfl) F S rfl fun a F=>?_
 obtain ⟨x1, hx1, hm⟩ := bind_some hm
 refine wl_cut 4 (fun a w' => w = w' ∧ Fr 68 a [(32, .bool x1), (9, bp b6 0), (5, bp b3 0), (4, bp b2 0), (3, bp b1 0)]) ?_ ?_
 ·clear hm; obtain ⟨hc1, hm⟩ | ⟨hc1, hm⟩ := ite_or hx1
  ·refine wl_skip rfl rfl rfl rfl (ne_ft hc1) F rfl rfl ?_; clear F a; intro a F
   refine wl_skip rfl rfl rfl rfl (ne_ft hc1) F rfl rfl ?_; clear F a; intro a F
   refine wl_skip rfl rfl rfl rfl (ne_ft hc1) F rfl rfl ?_; clear F a; intro a F
   refine wE (ev_pickT rfl hc1 rfl) F S rfl fun a F=>?_
   obtain rfl := sinj hm
   refine wpList_nil (then_n ?_); exact ⟨rfl, F.sub ⟨rfl, rfl, rfl, rfl, rfl, trivial⟩⟩
  ·refine wl_ev (wg F rfl rfl rfl rfl hc1) (ev_fieldAddr' tu29 tf29_0 (z := 0) ts3 rfl ⟨_, rfl⟩ rfl) F S rfl rfl ?_; clear F a; intro a F
   refine wl_ev (wg F rfl rfl rfl rfl hc1) (ev_load1 tu3 rfl rfl (box_ptr (cells := [.i6 y2.2.Code]) 0 rfl 0 rfl (lb rfl))) F S rfl rfl ?_; clear F a; intro a F
   refine wl_ev (wg F rfl rfl rfl rfl hc1) (ev_int rfl rfl (bo_neq _ _ _ _)) F S rfl rfl ?_; clear F a; intro a F
   refine wE (ev_pickF rfl hc1 rfl) F S rfl fun a F=>?_
   obtain rfl := sinj hm
   refine wpList_nil (then_n ?_); exact ⟨rfl, F.sub ⟨rfl, rfl, rfl, rfl, rfl, trivial⟩⟩
 clear F; rintro a w' ⟨rfl, F⟩
 refine wE (ev_move rfl) F S rfl fun a F=>?_
 obtain ⟨x2, hx2, hm⟩ := bind_some hm
 refine wl_cut 9 (fun a w' => w = w' ∧ Fr 68 a [(42, .bool x2), (9, bp b6 0), (5, bp b3 0), (4, bp b2 0), (3, bp b1 0)]) ?_ ?_
 ·clear hm; obtain ⟨hc2, hm⟩ | ⟨hc2, hm⟩ := ite_or hx2
  ·refine wl_skip rfl rfl rfl rfl (ne_ft hc2) F rfl rfl ?_; clear F a; intro a F
   refine wl_skip rfl rfl rfl rfl (ne_ft hc2) F rfl rfl ?_; clear F a; intro a F
   refine wl_skip rfl rfl rfl rfl (ne_ft hc2) F rfl rfl ?_; clear F a; intro a F
   refine wl_skip rfl rfl rfl rfl (ne_ft hc2) F rfl rfl ?_; clear F a; intro a F
   refine wl_skip rfl rfl rfl rfl (ne_ft hc2) F rfl rfl ?_; clear F a; intro a F
   refine wl_skip rfl rfl rfl rfl (ne_ft hc2) F rfl rfl ?_; clear F a; intro a F
   refine wl_skip rfl rfl rfl rfl (ne_ft hc2) F rfl rfl ?_; clear F a; intro a F
   refine wl_skip rfl rfl rfl rfl (ne_ft hc2) F rfl rfl ?_; clear F a; intro a F
   refine wE (ev_pickT rfl hc2 rfl) F S rfl fun a F=>?_
   obtain rfl := sinj hm
   refine wpList_nil (then_n ?_); exact ⟨rfl, F.sub ⟨rfl, rfl, rfl, rfl, rfl, trivial⟩⟩
  ·refine wl_ev (wg F rfl rfl rfl rfl hc2) (ev_fieldAddr' tu41 tf41_0 (z := 0) ts39 rfl ⟨_, rfl⟩ rfl) F S rfl rfl ?_; clear F a; intro a F
   refine wl_ev (wg F rfl rfl rfl rfl hc2) (ev_load1 tu39 rfl rfl (box_ptr (cells := [vp_1]) 7 rfl 0 rfl (lb rfl))) F S rfl rfl ?_; clear F a; intro a F
   refine wl_ev (wg F rfl rfl rfl rfl hc2) (ev_lenSh hp_1 rfl tu39) F S rfl rfl ?_; clear F a; intro a F
   refine wl_ev (wg F rfl rfl rfl rfl hc2) (ev_fieldAddr' tu41 tf41_0 (z := 0) ts39 rfl ⟨_, rfl⟩ rfl) F S rfl rfl ?_; clear F a; intro a F
   refine wl_ev (wg F rfl rfl rfl rfl hc2) (ev_load1 tu39 rfl rfl (box_ptr (cells := [vq_1]) 6 rfl 0 rfl (lb rfl))) F S rfl rfl ?_; clear F a; intro a F
   refine wl_ev (wg F rfl rfl rfl rfl hc2) (ev_lenSh hq_1 rfl tu39) F S rfl rfl ?_; clear F a; intro a F
   obtain ⟨z1, hz1, hm⟩ := bind_some hm
   refine wl_ev (wg F rfl rfl rfl rfl hc2) (ev_int rfl rfl (bo_add hz1)) F S rfl rfl ?_; clear F a; intro a F
   refine wl_ev (wg F rfl rfl rfl rfl hc2) (ev_int rfl rfl (bo_gtr _ _ _ _)) F S rfl rfl ?_; clear F a; intro a F
   refine wE (ev_pickF rfl hc2 rfl) F S rfl fun a F=>?_
   obtain rfl := sinj hm
   refine wpList_nil (then_n ?_); exact ⟨rfl, F.sub ⟨rfl, rfl, rfl, rfl, rfl, trivial⟩⟩
 clear F; rintro a w' ⟨rfl, F⟩
 refine wpList_nil ?_
 refine then_n ?_
 obtain ⟨hc3, hm⟩ | ⟨hc3, hm⟩ := ite_or hm
 ·refine wp_condT F rfl hc3 ?_
  refine wp_seq ?_
  refine wp_region_lit ?_
  obtain ⟨y3, hy3, hm⟩ := bind_some hm
  refine wl_call0 (wn rfl) rfl F rfl (changeforgelaw2_renamed_ok (fr := (fl [[bx b7 #[.i6 y2.2.Code, .i6 y2.2.Index] 29], [bx b6 #[v2] 44], c2, [bx b5 #[.i6 y1.2.Code, .i6 y1.2.Index] 29], [bx b4 #[v1] 44], [bx b3 #[vt_1] 44], [bx b2 #[vq_1] 41], [bx b1 #[vp_1] 41]] fr))  S hy3) rfl tc27 rfl rfl ?_; clear F a S
  rintro _ a w ⟨g4, l4, S, rfl⟩ F; replace S : St g4 [[bx b7 #[.i6 y2.2.Code, .i6 y2.2.Index] 29], [bx b6 #[v2] 44], c2, [bx b5 #[.i6 y1.2.Code, .i6 y1.2.Index] 29], [bx b4 #[v1] 44], [bx b3 #[vt_1] 44], [bx b2 #[vq_1] 41], [bx b1 #[vp_1] 41]] fr w := S
  refine wE (ev_assign rfl) F S rfl fun a F=>?_
  refine wpList_nil ?_
  refine then_n ?_
  refine wp_ret ?_
  refine then_r ?_
  obtain rfl := sinj hm
  refine post_r _ F rfl (ar_cons (resT rfl) ar_nil) ?_
  replace S : St g4 [] fr w := St.tail [] _ S
  exact ⟨_, rfl, g4, (((l1.trans l2).trans l3).trans l4), S, rfl⟩
 ·refine wp_condF F rfl hc3 ?_
  refine wp_skip ?_
  refine then_n ?_
  refine wp_seq ?_
  refine wp_dv [] mo S ?_; clear S; intro ok1 w S
  refine dv_et ok1 1 rfl (ev_fieldAddr' tu41 tf41_0 (z := 0) ts39 rfl ⟨_, rfl⟩ rfl) F rfl fun a F=>?_
  refine dv_ev ok1 2 rfl (ev_load1 tu39 rfl rfl (box_ptr (cells := [vp_1]) 7 rfl 0 rfl (lb rfl))) F S rfl fun a F=>?_
  refine dv_et ok1 4 rfl (ev_fieldAddr' tu41 tf41_0 (z := 0) ts39 rfl ⟨_, rfl⟩ rfl) F rfl fun a F=>?_
  refine dv_ev ok1 5 rfl (ev_load1 tu39 rfl rfl (box_ptr (cells := [vq_1]) 6 rfl 0 rfl (lb rfl))) F S rfl fun a F=>?_
  refine dv_ev ok1 8 rfl (ev_loadA tu44 rfl (cs := [vt_1]) ts44 rfl (box_ptr (cells := [vt_1]) 5 rfl 0 rfl (lb rfl))) F S rfl fun a F=>?_
  obtain ⟨y4, hy4, hm⟩ := bind_some hm
  obtain ⟨y5, hy5, hm⟩ := bind_some hm
  obtain ⟨y6, hy6, hm⟩ := bind_some hm
  refine dv_cut [1, 2, 4, 5, 8, 0, 3, 6, 7, 9, 10, 11, 12, 13, 14] [] (fun a w => ∃ (v7 : Value) (b10 b11 : Nat) (c7 : Hl) (g7 : Gh), Fr 68 a [(12, bp b10 0), (11, bp b11 0), (56, .agg #[.i6 y6.2.Code, .i6 y6.2.Index]), (55, .agg #[v7]), (9, bp b6 0)] ∧ Le g3 g7 ∧ St g7 [[bx b10 #[.i6 0, .i6 0] 29], [bx b11 #[nilS] 44], c7, [bx b6 #[v2] 44], c2] fr w ∧ OwnS g7 y6.1.Files v7 c7 ∧ changeforgelaw2_TreepatchSequence.j1 y2 y6 = some r) ?_ ?_
  ·intro HJ
   refine dv_fork ok1 0 [13, 14] (fk 0 rfl [(8, .agg #[vt_1]), (5, vq_1), (2, vp_1)] ?_ (fk 13 rfl [(8, .agg #[vt_1]), (5, vq_1), (2, vp_1)] ?_ (fk 14 rfl [(8, .agg #[vt_1]), (5, vq_1), (2, vp_1)] ?_ trivial)))
   ·refine wl_lit (l := ([] : List TreeChange)) (vs := []) (parts := []) (wn rfl) rfl rfl rfl tu39 te27 sz_nil rfl (Cat.nil _) coa_nil rfl F S rfl rfl ?_; clear F a S
    rintro v3 c3 a w h4 F S
    refine dv_nx ⟨yl_ev rfl rfl (ev_loadA tu44 rfl (cs := [vt_1]) ts44 rfl (box_ptr (cells := [vt_1]) 6 rfl 0 rfl (lb rfl))) F S, yl_ev rfl rfl (ev_load1 tu39 rfl rfl (box_ptr (cells := [vq_1]) 7 rfl 0 rfl (lb rfl))) F S, yl_ev rfl rfl (ev_load1 tu39 rfl rfl (box_ptr (cells := [vp_1]) 8 rfl 0 rfl (lb rfl))) F S, trivial⟩ ?_
    refine dv_fork ok1 3 [13, 14] (fk 3 rfl [(8, .agg #[vt_1]), (5, vq_1)] ?_ (fk 13 rfl [(8, .agg #[vt_1]), (5, vq_1), (2, vp_1)] ?_ (fk 14 rfl [(8, .agg #[vt_1]), (5, vq_1), (2, vp_1)] ?_ trivial)))
    ·obtain ⟨cs1, hk1, hr1⟩ := RepSl.reads (hp_1.mono ((l1.trans l2).trans l3))
     refine wl_append (wn rfl) rfl tu39 tu39 te27 (by decide) (by decide) F S rfl rfl (k := 0) rfl h4 hk1 rfl (hr1 _ _ S) hy4 rfl rfl ?_; clear F a S
     rintro v4 c4 a w h5 S F; replace S : St g3 [c4, [bx b7 #[.i6 y2.2.Code, .i6 y2.2.Index] 29], [bx b6 #[v2] 44], c2, [bx b5 #[.i6 y1.2.Code, .i6 y1.2.Index] 29], [bx b4 #[v1] 44], [bx b3 #[vt_1] 44], [bx b2 #[vq_1] 41], [bx b1 #[vp_1] 41]] fr w := S
     refine dv_nx ⟨yl_ev rfl rfl (ev_loadA tu44 rfl (cs := [vt_1]) ts44 rfl (box_ptr (cells := [vt_1]) 6 rfl 0 rfl (lb rfl))) F S, yl_ev rfl rfl (ev_load1 tu39 rfl rfl (box_ptr (cells := [vq_1]) 7 rfl 0 rfl (lb rfl))) F S, trivial⟩ ?_
     refine dv_fork ok1 6 [13, 14] (fk 6 rfl [(8, .agg #[vt_1])] ?_ (fk 13 rfl [(8, .agg #[vt_1]), (5, vq_1)] ?_ (fk 14 rfl [(8, .agg #[vt_1]), (5, vq_1)] ?_ trivial)))
     ·obtain ⟨cs2, hk2, hr2⟩ := RepSl.reads (hq_1.mono ((l1.trans l2).trans l3))
      refine wl_append (wn rfl) rfl tu39 tu39 te27 (by decide) (by decide) F S rfl rfl (k := 0) rfl h5 hk2 rfl (hr2 _ _ S) hy5 rfl rfl ?_; clear F a S
      rintro v5 c5 a w h6 S F; replace S : St g3 [c5, [bx b7 #[.i6 y2.2.Code, .i6 y2.2.Index] 29], [bx b6 #[v2] 44], c2, [bx b5 #[.i6 y1.2.Code, .i6 y1.2.Index] 29], [bx b4 #[v1] 44], [bx b3 #[vt_1] 44], [bx b2 #[vq_1] 41], [bx b1 #[vp_1] 41]] fr w := S
      refine dv_nx ⟨yl_ev rfl rfl (ev_loadA tu44 rfl (cs := [vt_1]) ts44 rfl (box_ptr (cells := [vt_1]) 6 rfl 0 rfl (lb rfl))) F S, trivial⟩ ?_
      refine dv_et ok1 7 rfl (ev_build (parts := [(0, .tmp 51)]) (vs := [(0, v5)]) rfl (fun w => tb41_0 v5 (OwnS.isSl h6) w)) F rfl fun a F=>?_
      refine dv_fork ok1 9 [13, 14] (fk 9 rfl [] ?_ (fk 13 rfl [(8, .agg #[vt_1])] ?_ (fk 14 rfl [(8, .agg #[vt_1])] ?_ trivial)))
      ·obtain ⟨g5, l5, S, h7⟩ : ∃ gz, Le g3 gz ∧ St gz [[bx b7 #[.i6 y2.2.Code, .i6 y2.2.Index] 29], [bx b6 #[v2] 44], c2, [bx b5 #[.i6 y1.2.Code, .i6 y1.2.Index] 29], [bx b4 #[v1] 44], [bx b3 #[vt_1] 44], [bx b2 #[vq_1] 41], [bx b1 #[vp_1] 41]] fr w ∧ RepSl gz y5 v5 := ⟨_, Le.add _ _, S.freeze 0 rfl, OwnS.freeze (S.front 0 rfl) h6⟩
       refine wl_call0 (wn rfl) rfl F rfl (treepatch_Apply_ok (fr := (fl [[bx b7 #[.i6 y2.2.Code, .i6 y2.2.Index] 29], [bx b6 #[v2] 44], c2, [bx b5 #[.i6 y1.2.Code, .i6 y1.2.Index] 29], [bx b4 #[v1] 44], [bx b3 #[vt_1] 44], [bx b2 #[vq_1] 41], [bx b1 #[vp_1] 41]] fr)) ({ Changes := y5 } : TreePatch) v5 h7 t_ vt_1 (ht_1.mono (((l1.trans l2).trans l3).trans l5)) S hy6) rfl tc18 rfl rfl ?_; clear F a S
       rintro _ a w ⟨g6, v6, c6, l6, S, h8, rfl⟩ F; replace S : St g6 [c6, [bx b7 #[.i6 y2.2.Code, .i6 y2.2.Index] 29], [bx b6 #[v2] 44], c2, [bx b5 #[.i6 y1.2.Code, .i6 y1.2.Index] 29], [bx b4 #[v1] 44], [bx b3 #[vt_1] 44], [bx b2 #[vq_1] 41], [bx b1 #[vp_1] 41]] fr w := S
       refine dv_nx trivial ?_
       refine dv_et ok1 10 rfl (ev_move rfl) F rfl fun a F=>?_
       refine dv_et ok1 11 rfl (ev_extract rfl rfl) F rfl fun a F=>?_
       refine dv_et ok1 12 rfl (ev_extract rfl rfl) F rfl fun a F=>?_
       refine dv_fork ok1 13 [14] (fk 13 rfl [] ?_ (fk 14 rfl [] ?_ trivial))
       ·refine wl_alloc (wn rfl) rfl tz44 (cs := [nilS]) rfl F S rfl rfl ?_; clear F a S; rintro b8 a w F S
        refine dv_nx trivial ?_
        refine dv_op ok1 14 rfl [] ?_
        refine wl_alloc (wn rfl) rfl tz29 (cs := [.i6 0, .i6 0]) rfl F S rfl rfl ?_; clear F a S; rintro b9 a w F S
        refine dv_nx trivial ?_
        refine dv_join (HJ _ _ ?_)
        replace S : St g6 [[bx b9 #[.i6 0, .i6 0] 29], [bx b8 #[nilS] 44], c6, [bx b6 #[v2] 44], c2] fr w := St.tail [[bx b9 #[.i6 0, .i6 0] 29], [bx b8 #[nilS] 44], c6, [bx b6 #[v2] 44], c2] _ (((((S.frontC 5 rfl).frontC 5 rfl).frontC 4 rfl).frontC 4 rfl).frontC 4 rfl)
        exact ⟨v6, b9, b8, c6, g6, F.sub ⟨rfl, rfl, rfl, rfl, rfl, trivial⟩, (l5.trans l6), S, h8, hm⟩
       ·refine wl_alloc (wn rfl) rfl tz29 (cs := [.i6 0, .i6 0]) rfl F S rfl rfl ?_; clear F a S; rintro b9 a w F S
        refine dv_nx trivial ?_
        refine dv_op ok1 13 rfl [] ?_
        refine wl_alloc (wn rfl) rfl tz44 (cs := [nilS]) rfl F S rfl rfl ?_; clear F a S; rintro b8 a w F S
        refine dv_nx trivial ?_
        refine dv_join (HJ _ _ ?_)
        replace S : St g6 [[bx b9 #[.i6 0, .i6 0] 29], [bx b8 #[nilS] 44], c6, [bx b6 #[v2] 44], c2] fr w := St.tail [[bx b9 #[.i6 0, .i6 0] 29], [bx b8 #[nilS] 44], c6, [bx b6 #[v2] 44], c2] _ (((((S.frontC 5 rfl).frontC 5 rfl).frontC 4 rfl).frontC 3 rfl).frontC 5 rfl)
        exact ⟨v6, b9, b8, c6, g6, F.sub ⟨rfl, rfl, rfl, rfl, rfl, trivial⟩, (l5.trans l6), S, h8, hm⟩
      ·refine wl_alloc (wn rfl) rfl tz44 (cs := [nilS]) rfl F S rfl rfl ?_; clear F a S; rintro b8 a w F S
       refine dv_nx ⟨yl_ev rfl rfl (ev_loadA tu44 rfl (cs := [vt_1]) ts44 rfl (box_ptr (cells := [vt_1]) 7 rfl 0 rfl (lb rfl))) F S, trivial⟩ ?_
       refine dv_fork ok1 9 [14] (fk 9 rfl [] ?_ (fk 14 rfl [(8, .agg #[vt_1])] ?_ trivial))
       ·obtain ⟨g5, l5, S, h7⟩ : ∃ gz, Le g3 gz ∧ St gz [[bx b8 #[nilS] 44], [bx b7 #[.i6 y2.2.Code, .i6 y2.2.Index] 29], [bx b6 #[v2] 44], c2, [bx b5 #[.i6 y1.2.Code, .i6 y1.2.Index] 29], [bx b4 #[v1] 44], [bx b3 #[vt_1] 44], [bx b2 #[vq_1] 41], [bx b1 #[vp_1] 41]] fr w ∧ RepSl gz y5 v5 := ⟨_, Le.add _ _, S.freeze 1 rfl, OwnS.freeze (S.front 1 rfl) h6⟩
        refine wl_call0 (wn rfl) rfl F rfl (treepatch_Apply_ok (fr := (fl [[bx b8 #[nilS] 44], [bx b7 #[.i6 y2.2.Code, .i6 y2.2.Index] 29], [bx b6 #[v2] 44], c2, [bx b5 #[.i6 y1.2.Code, .i6 y1.2.Index] 29], [bx b4 #[v1] 44], [bx b3 #[vt_1] 44], [bx b2 #[vq_1] 41], [bx b1 #[vp_1] 41]] fr)) ({ Changes := y5 } : TreePatch) v5 h7 t_ vt_1 (ht_1.mono (((l1.trans l2).trans l3).trans l5)) S hy6) rfl tc18 rfl rfl ?_; clear F a S
        rintro _ a w ⟨g6, v6, c6, l6, S, h8, rfl⟩ F; replace S : St g6 [c6, [bx b8 #[nilS] 44], [bx b7 #[.i6 y2.2.Code, .i6 y2.2.Index] 29], [bx b6 #[v2] 44], c2, [bx b5 #[.i6 y1.2.Code, .i6 y1.2.Index] 29], [bx b4 #[v1] 44], [bx b3 #[vt_1] 44], [bx b2 #[vq_1] 41], [bx b1 #[vp_1] 41]] fr w := S
        refine dv_nx trivial ?_
        refine dv_et ok1 10 rfl (ev_move rfl) F rfl fun a F=>?_
        refine dv_et ok1 11 rfl (ev_extract rfl rfl) F rfl fun a F=>?_
        refine dv_et ok1 12 rfl (ev_extract rfl rfl) F rfl fun a F=>?_
        refine dv_op ok1 14 rfl [] ?_
        refine wl_alloc (wn rfl) rfl tz29 (cs := [.i6 0, .i6 0]) rfl F S rfl rfl ?_; clear F a S; rintro b9 a w F S
        refine dv_nx trivial ?_
        refine dv_join (HJ _ _ ?_)
        replace S : St g6 [[bx b9 #[.i6 0, .i6 0] 29], [bx b8 #[nilS] 44], c6, [bx b6 #[v2] 44], c2] fr w := St.tail [[bx b9 #[.i6 0, .i6 0] 29], [bx b8 #[nilS] 44], c6, [bx b6 #[v2] 44], c2] _ (((((S.frontC 5 rfl).frontC 5 rfl).frontC 3 rfl).frontC 5 rfl).frontC 4 rfl)
        exact ⟨v6, b9, b8, c6, g6, F.sub ⟨rfl, rfl, rfl, rfl, rfl, trivial⟩, (l5.trans l6), S, h8, hm⟩
       ·refine wl_alloc (wn rfl) rfl tz29 (cs := [.i6 0, .i6 0]) rfl F S rfl rfl ?_; clear F a S; rintro b9 a w F S
        refine dv_nx ⟨yl_ev rfl rfl (ev_loadA tu44 rfl (cs := [vt_1]) ts44 rfl (box_ptr (cells := [vt_1]) 8 rfl 0 rfl (lb rfl))) F S, trivial⟩ ?_
        refine dv_op ok1 9 rfl [] ?_
        obtain ⟨g5, l5, S, h7⟩ : ∃ gz, Le g3 gz ∧ St gz [[bx b9 #[.i6 0, .i6 0] 29], [bx b8 #[nilS] 44], [bx b7 #[.i6 y2.2.Code, .i6 y2.2.Index] 29], [bx b6 #[v2] 44], c2, [bx b5 #[.i6 y1.2.Code, .i6 y1.2.Index] 29], [bx b4 #[v1] 44], [bx b3 #[vt_1] 44], [bx b2 #[vq_1] 41], [bx b1 #[vp_1] 41]] fr w ∧ RepSl gz y5 v5 := ⟨_, Le.add _ _, S.freeze 2 rfl, OwnS.freeze (S.front 2 rfl) h6⟩
        refine wl_call0 (wn rfl) rfl F rfl (treepatch_Apply_ok (fr := (fl [[bx b9 #[.i6 0, .i6 0] 29], [bx b8 #[nilS] 44], [bx b7 #[.i6 y2.2.Code, .i6 y2.2.Index] 29], [bx b6 #[v2] 44], c2, [bx b5 #[.i6 y1.2.Code, .i6 y1.2.Index] 29], [bx b4 #[v1] 44], [bx b3 #[vt_1] 44], [bx b2 #[vq_1] 41], [bx b1 #[vp_1] 41]] fr)) ({ Changes := y5 } : TreePatch) v5 h7 t_ vt_1 (ht_1.mono (((l1.trans l2).trans l3).trans l5)) S hy6) rfl tc18 rfl rfl ?_; clear F a S
        rintro _ a w ⟨g6, v6, c6, l6, S, h8, rfl⟩ F; replace S : St g6 [c6, [bx b9 #[.i6 0, .i6 0] 29], [bx b8 #[nilS] 44], [bx b7 #[.i6 y2.2.Code, .i6 y2.2.Index] 29], [bx b6 #[v2] 44], c2, [bx b5 #[.i6 y1.2.Code, .i6 y1.2.Index] 29], [bx b4 #[v1] 44], [bx b3 #[vt_1] 44], [bx b2 #[vq_1] 41], [bx b1 #[vp_1] 41]] fr w := S
        refine dv_nx trivial ?_
        refine dv_et ok1 10 rfl (ev_move rfl) F rfl fun a F=>?_
        refine dv_et ok1 11 rfl (ev_extract rfl rfl) F rfl fun a F=>?_
        refine dv_et ok1 12 rfl (ev_extract rfl rfl) F rfl fun a F=>?_
        refine dv_join (HJ _ _ ?_)
        replace S : St g6 [[bx b9 #[.i6 0, .i6 0] 29], [bx b8 #[nilS] 44], c6, [bx b6 #[v2] 44], c2] fr w := St.tail [[bx b9 #[.i6 0, .i6 0] 29], [bx b8 #[nilS] 44], c6, [bx b6 #[v2] 44], c2] _ (((((S.frontC 5 rfl).frontC 5 rfl).frontC 2 rfl).frontC 5 rfl).frontC 5 rfl)
        exact ⟨v6, b9, b8, c6, g6, F.sub ⟨rfl, rfl, rfl, rfl, rfl, trivial⟩, (l5.trans l6), S, h8, hm⟩
      ·refine wl_alloc (wn rfl) rfl tz29 (cs := [.i6 0, .i6 0]) rfl F S rfl rfl ?_; clear F a S; rintro b9 a w F S
       refine dv_nx ⟨yl_ev rfl rfl (ev_loadA tu44 rfl (cs := [vt_1]) ts44 rfl (box_ptr (cells := [vt_1]) 7 rfl 0 rfl (lb rfl))) F S, trivial⟩ ?_
       refine dv_fork ok1 9 [13] (fk 9 rfl [] ?_ (fk 13 rfl [(8, .agg #[vt_1])] ?_ trivial))
       ·obtain ⟨g5, l5, S, h7⟩ : ∃ gz, Le g3 gz ∧ St gz [[bx b9 #[.i6 0, .i6 0] 29], [bx b7 #[.i6 y2.2.Code, .i6 y2.2.Index] 29], [bx b6 #[v2] 44], c2, [bx b5 #[.i6 y1.2.Code, .i6 y1.2.Index] 29], [bx b4 #[v1] 44], [bx b3 #[vt_1] 44], [bx b2 #[vq_1] 41], [bx b1 #[vp_1] 41]] fr w ∧ RepSl gz y5 v5 := ⟨_, Le.add _ _, S.freeze 1 rfl, OwnS.freeze (S.front 1 rfl) h6⟩
        refine wl_call0 (wn rfl) rfl F rfl (treepatch_Apply_ok (fr := (fl [[bx b9 #[.i6 0, .i6 0] 29], [bx b7 #[.i6 y2.2.Code, .i6 y2.2.Index] 29], [bx b6 #[v2] 44], c2, [bx b5 #[.i6 y1.2.Code, .i6 y1.2.Index] 29], [bx b4 #[v1] 44], [bx b3 #[vt_1] 44], [bx b2 #[vq_1] 41], [bx b1 #[vp_1] 41]] fr)) ({ Changes := y5 } : TreePatch) v5 h7 t_ vt_1 (ht_1.mono (((l1.trans l2).trans l3).trans l5)) S hy6) rfl tc18 rfl rfl ?_; clear F a S
        rintro _ a w ⟨g6, v6, c6, l6, S, h8, rfl⟩ F; replace S : St g6 [c6, [bx b9 #[.i6 0, .i6 0] 29], [bx b7 #[.i6 y2.2.Code, .i6 y2.2.Index] 29], [bx b6 #[v2] 44], c2, [bx b5 #[.i6 y1.2.Code, .i6 y1.2.Index] 29], [bx b4 #[v1] 44], [bx b3 #[vt_1] 44], [bx b2 #[vq_1] 41], [bx b1 #[vp_1] 41]] fr w := S
        refine dv_nx trivial ?_
        refine dv_et ok1 10 rfl (ev_move rfl) F rfl fun a F=>?_
        refine dv_et ok1 11 rfl (ev_extract rfl rfl) F rfl fun a F=>?_
        refine dv_et ok1 12 rfl (ev_extract rfl rfl) F rfl fun a F=>?_
        refine dv_op ok1 13 rfl [] ?_
        refine wl_alloc (wn rfl) rfl tz44 (cs := [nilS]) rfl F S rfl rfl ?_; clear F a S; rintro b8 a w F S
        refine dv_nx trivial ?_
        refine dv_join (HJ _ _ ?_)
        replace S : St g6 [[bx b9 #[.i6 0, .i6 0] 29], [bx b8 #[nilS] 44], c6, [bx b6 #[v2] 44], c2] fr w := St.tail [[bx b9 #[.i6 0, .i6 0] 29], [bx b8 #[nilS] 44], c6, [bx b6 #[v2] 44], c2] _ (((((S.frontC 5 rfl).frontC 5 rfl).frontC 3 rfl).frontC 3 rfl).frontC 6 rfl)
        exact ⟨v6, b9, b8, c6, g6, F.sub ⟨rfl, rfl, rfl, rfl, rfl, trivial⟩, (l5.trans l6), S, h8, hm⟩
       ·refine wl_alloc (wn rfl) rfl tz44 (cs := [nilS]) rfl F S rfl rfl ?_; clear F a S; rintro b8 a w F S
        refine dv_nx ⟨yl_ev rfl rfl (ev_loadA tu44 rfl (cs := [vt_1]) ts44 rfl (box_ptr (cells := [vt_1]) 8 rfl 0 rfl (lb rfl))) F S, trivial⟩ ?_
        refine dv_op ok1 9 rfl [] ?_
        obtain ⟨g5, l5, S, h7⟩ : ∃ gz, Le g3 gz ∧ St gz [[bx b8 #[nilS] 44], [bx b9 #[.i6 0, .i6 0] 29], [bx b7 #[.i6 y2.2.Code, .i6 y2.2.Index] 29], [bx b6 #[v2] 44], c2, [bx b5 #[.i6 y1.2.Code, .i6 y1.2.Index] 29], [bx b4 #[v1] 44], [bx b3 #[vt_1] 44], [bx b2 #[vq_1] 41], [bx b1 #[vp_1] 41]] fr w ∧ RepSl gz y5 v5 := ⟨_, Le.add _ _, S.freeze 2 rfl, OwnS.freeze (S.front 2 rfl) h6⟩
        refine wl_call0 (wn rfl) rfl F rfl (treepatch_Apply_ok (fr := (fl [[bx b8 #[nilS] 44], [bx b9 #[.i6 0, .i6 0] 29], [bx b7 #[.i6 y2.2.Code, .i6 y2.2.Index] 29], [bx b6 #[v2] 44], c2, [bx b5 #[.i6 y1.2.Code, .i6 y1.2.Index] 29], [bx b4 #[v1] 44], [bx b3 #[vt_1] 44], [bx b2 #[vq_1] 41], [bx b1 #[vp_1] 41]] fr)) ({ Changes := y5 } : TreePatch) v5 h7 t_ vt_1 (ht_1.mono (((l1.trans l2).trans l3).trans l5)) S hy6) rfl tc18 rfl rfl ?_; clear F a S
        rintro _ a w ⟨g6, v6, c6, l6, S, h8, rfl⟩ F; replace S : St g6 [c6, [bx b8 #[nilS] 44], [bx b9 #[.i6 0, .i6 0] 29], [bx b7 #[.i6 y2.2.Code, .i6 y2.2.Index] 29], [bx b6 #[v2] 44], c2, [bx b5 #[.i6 y1.2.Code, .i6 y1.2.Index] 29], [bx b4 #[v1] 44], [bx b3 #[vt_1] 44], [bx b2 #[vq_1] 41], [bx b1 #[vp_1] 41]] fr w := S
        refine dv_nx trivial ?_
        refine dv_et ok1 10 rfl (ev_move rfl) F rfl fun a F=>?_
        refine dv_et ok1 11 rfl (ev_extract rfl rfl) F rfl fun a F=>?_
        refine dv_et ok1 12 rfl (ev_extract rfl rfl) F rfl fun a F=>?_
        refine dv_join (HJ _ _ ?_)
        replace S : St g6 [[bx b9 #[.i6 0, .i6 0] 29], [bx b8 #[nilS] 44], c6, [bx b6 #[v2] 44], c2] fr w := St.tail [[bx b9 #[.i6 0, .i6 0] 29], [bx b8 #[nilS] 44], c6, [bx b6 #[v2] 44], c2] _ (((((S.frontC 5 rfl).frontC 5 rfl).frontC 2 rfl).frontC 4 rfl).frontC 6 rfl)
        exact ⟨v6, b9, b8, c6, g6, F.sub ⟨rfl, rfl, rfl, rfl, rfl, trivial⟩, (l5.trans l6), S, h8, hm⟩
     ·refine wl_alloc (wn rfl) rfl tz44 (cs := [nilS]) rfl F S rfl rfl ?_; clear F a S; rintro b8 a w F S
      refine dv_nx ⟨yl_ev rfl rfl (ev_loadA tu44 rfl (cs := [vt_1]) ts44 rfl (box_ptr (cells := [vt_1]) 7 rfl 0 rfl (lb rfl))) F S, yl_ev rfl rfl (ev_load1 tu39 rfl rfl (box_ptr (cells := [vq_1]) 8 rfl 0 rfl (lb rfl))) F S, trivial⟩ ?_
      refine dv_fork ok1 6 [14] (fk 6 rfl [(8, .agg #[vt_1])] ?_ (fk 14 rfl [(8, .agg #[vt_1]), (5, vq_1)] ?_ trivial))
      ·obtain ⟨cs2, hk2, hr2⟩ := RepSl.reads (hq_1.mono ((l1.trans l2).trans l3))
       refine wl_append (wn rfl) rfl tu39 tu39 te27 (by decide) (by decide) F S rfl rfl (k := 1) rfl h5 hk2 rfl (hr2 _ _ S) hy5 rfl rfl ?_; clear F a S
       rintro v5 c5 a w h6 S F; replace S : St g3 [[bx b8 #[nilS] 44], c5, [bx b7 #[.i6 y2.2.Code, .i6 y2.2.Index] 29], [bx b6 #[v2] 44], c2, [bx b5 #[.i6 y1.2.Code, .i6 y1.2.Index] 29], [bx b4 #[v1] 44], [bx b3 #[vt_1] 44], [bx b2 #[vq_1] 41], [bx b1 #[vp_1] 41]] fr w := S
       refine dv_nx ⟨yl_ev rfl rfl (ev_loadA tu44 rfl (cs := [vt_1]) ts44 rfl (box_ptr (cells := [vt_1]) 7 rfl 0 rfl (lb rfl))) F S, trivial⟩ ?_
       refine dv_et ok1 7 rfl (ev_build (parts := [(0, .tmp 51)]) (vs := [(0, v5)]) rfl (fun w => tb41_0 v5 (OwnS.isSl h6) w)) F rfl fun a F=>?_
       refine dv_fork ok1 9 [14] (fk 9 rfl [] ?_ (fk 14 rfl [(8, .agg #[vt_1])] ?_ trivial))
       ·obtain ⟨g5, l5, S, h7⟩ : ∃ gz, Le g3 gz ∧ St gz [[bx b8 #[nilS] 44], [bx b7 #[.i6 y2.2.Code, .i6 y2.2.Index] 29], [bx b6 #[v2] 44], c2, [bx b5 #[.i6 y1.2.Code, .i6 y1.2.Index] 29], [bx b4 #[v1] 44], [bx b3 #[vt_1] 44], [bx b2 #[vq_1] 41], [bx b1 #[vp_1] 41]] fr w ∧ RepSl gz y5 v5 := ⟨_, Le.add _ _, S.freeze 1 rfl, OwnS.freeze (S.front 1 rfl) h6⟩
        refine wl_call0 (wn rfl) rfl F rfl (treepatch_Apply_ok (fr := (fl [[bx b8 #[nilS] 44], [bx b7 #[.i6 y2.2.Code, .i6 y2.2.Index] 29], [bx b6 #[v2] 44], c2, [bx b5 #[.i6 y1.2.Code, .i6 y1.2.Index] 29], [bx b4 #[v1] 44], [bx b3 #[vt_1] 44], [bx b2 #[vq_1] 41], [bx b1 #[vp_1] 41]] fr)) ({ Changes := y5 } : TreePatch) v5 h7 t_ vt_1 (ht_1.mono (((l1.trans l2).trans l3).trans l5)) S hy6) rfl tc18 rfl rfl ?_; clear F a S
        rintro _ a w ⟨g6, v6, c6, l6, S, h8, rfl⟩ F; replace S : St g6 [c6, [bx b8 #[nilS] 44], [bx b7 #[.i6 y2.2.Code, .i6 y2.2.Index] 29], [bx b6 #[v2] 44], c2, [bx b5 #[.i6 y1.2.Code, .i6 y1.2.Index] 29], [bx b4 #[v1] 44], [bx b3 #[vt_1] 44], [bx b2 #[vq_1] 41], [bx b1 #[vp_1] 41]] fr w := S
        refine dv_nx trivial ?_
        refine dv_et ok1 10 rfl (ev_move rfl) F rfl fun a F=>?_
        refine dv_et ok1 11 rfl (ev_extract rfl rfl) F rfl fun a F=>?_
        refine dv_et ok1 12 rfl (ev_extract rfl rfl) F rfl fun a F=>?_
        refine dv_op ok1 14 rfl [] ?_
        refine wl_alloc (wn rfl) rfl tz29 (cs := [.i6 0, .i6 0]) rfl F S rfl rfl ?_; clear F a S; rintro b9 a w F S
        refine dv_nx trivial ?_
        refine dv_join (HJ _ _ ?_)
        replace S : St g6 [[bx b9 #[.i6 0, .i6 0] 29], [bx b8 #[nilS] 44], c6, [bx b6 #[v2] 44], c2] fr w := St.tail [[bx b9 #[.i6 0, .i6 0] 29], [bx b8 #[nilS] 44], c6, [bx b6 #[v2] 44], c2] _ (((((S.frontC 5 rfl).frontC 5 rfl).frontC 3 rfl).frontC 5 rfl).frontC 4 rfl)
        exact ⟨v6, b9, b8, c6, g6, F.sub ⟨rfl, rfl, rfl, rfl, rfl, trivial⟩, (l5.trans l6), S, h8, hm⟩
       ·refine wl_alloc (wn rfl) rfl tz29 (cs := [.i6 0, .i6 0]) rfl F S rfl rfl ?_; clear F a S; rintro b9 a w F S
        refine dv_nx ⟨yl_ev rfl rfl (ev_loadA tu44 rfl (cs := [vt_1]) ts44 rfl (box_ptr (cells := [vt_1]) 8 rfl 0 rfl (lb rfl))) F S, trivial⟩ ?_
        refine dv_op ok1 9 rfl [] ?_
        obtain ⟨g5, l5, S, h7⟩ : ∃ gz, Le g3 gz ∧ St gz [[bx b9 #[.i6 0, .i6 0] 29], [bx b8 #[nilS] 44], [bx b7 #[.i6 y2.2.Code, .i6 y2.2.Index] 29], [bx b6 #[v2] 44], c2, [bx b5 #[.i6 y1.2.Code, .i6 y1.2.Index] 29], [bx b4 #[v1] 44], [bx b3 #[vt_1] 44], [bx b2 #[vq_1] 41], [bx b1 #[vp_1] 41]] fr w ∧ RepSl gz y5 v5 := ⟨_, Le.add _ _, S.freeze 2 rfl, OwnS.freeze (S.front 2 rfl) h6⟩
        refine wl_call0 (wn rfl) rfl F rfl (treepatch_Apply_ok (fr := (fl [[bx b9 #[.i6 0, .i6 0] 29], [bx b8 #[nilS] 44], [bx b7 #[.i6 y2.2.Code, .i6 y2.2.Index] 29], [bx b6 #[v2] 44], c2, [bx b5 #[.i6 y1.2.Code, .i6 y1.2.Index] 29], [bx b4 #[v1] 44], [bx b3 #[vt_1] 44], [bx b2 #[vq_1] 41], [bx b1 #[vp_1] 41]] fr)) ({ Changes := y5 } : TreePatch) v5 h7 t_ vt_1 (ht_1.mono (((l1.trans l2).trans l3).trans l5)) S hy6) rfl tc18 rfl rfl ?_; clear F a S
        rintro _ a w ⟨g6, v6, c6, l6, S, h8, rfl⟩ F; replace S : St g6 [c6, [bx b9 #[.i6 0, .i6 0] 29], [bx b8 #[nilS] 44], [bx b7 #[.i6 y2.2.Code, .i6 y2.2.Index] 29], [bx b6 #[v2] 44], c2, [bx b5 #[.i6 y1.2.Code, .i6 y1.2.Index] 29], [bx b4 #[v1] 44], [bx b3 #[vt_1] 44], [bx b2 #[vq_1] 41], [bx b1 #[vp_1] 41]] fr w := S
        refine dv_nx trivial ?_
        refine dv_et ok1 10 rfl (ev_move rfl) F rfl fun a F=>?_
        refine dv_et ok1 11 rfl (ev_extract rfl rfl) F rfl fun a F=>?_
        refine dv_et ok1 12 rfl (ev_extract rfl rfl) F rfl fun a F=>?_
        refine dv_join (HJ _ _ ?_)
        replace S : St g6 [[bx b9 #[.i6 0, .i6 0] 29], [bx b8 #[nilS] 44], c6, [bx b6 #[v2] 44], c2] fr w := St.tail [[bx b9 #[.i6 0, .i6 0] 29], [bx b8 #[nilS] 44], c6, [bx b6 #[v2] 44], c2] _ (((((S.frontC 5 rfl).frontC 5 rfl).frontC 2 rfl).frontC 5 rfl).frontC 5 rfl)
        exact ⟨v6, b9, b8, c6, g6, F.sub ⟨rfl, rfl, rfl, rfl, rfl, trivial⟩, (l5.trans l6), S, h8, hm⟩
      ·refine wl_alloc (wn rfl) rfl tz29 (cs := [.i6 0, .i6 0]) rfl F S rfl rfl ?_; clear F a S; rintro b9 a w F S
       refine dv_nx ⟨yl_ev rfl rfl (ev_loadA tu44 rfl (cs := [vt_1]) ts44 rfl (box_ptr (cells := [vt_1]) 8 rfl 0 rfl (lb rfl))) F S, yl_ev rfl rfl (ev_load1 tu39 rfl rfl (box_ptr (cells := [vq_1]) 9 rfl 0 rfl (lb rfl))) F S, trivial⟩ ?_
       refine dv_op ok1 6 rfl [(8, .agg #[vt_1])] ?_
       obtain ⟨cs2, hk2, hr2⟩ := RepSl.reads (hq_1.mono ((l1.trans l2).trans l3))
       refine wl_append (wn rfl) rfl tu39 tu39 te27 (by decide) (by decide) F S rfl rfl (k := 2) rfl h5 hk2 rfl (hr2 _ _ S) hy5 rfl rfl ?_; clear F a S
       rintro v5 c5 a w h6 S F; replace S : St g3 [[bx b9 #[.i6 0, .i6 0] 29], [bx b8 #[nilS] 44], c5, [bx b7 #[.i6 y2.2.Code, .i6 y2.2.Index] 29], [bx b6 #[v2] 44], c2, [bx b5 #[.i6 y1.2.Code, .i6 y1.2.Index] 29], [bx b4 #[v1] 44], [bx b3 #[vt_1] 44], [bx b2 #[vq_1] 41], [bx b1 #[vp_1] 41]] fr w := S
       refine dv_nx ⟨yl_ev rfl rfl (ev_loadA tu44 rfl (cs := [vt_1]) ts44 rfl (box_ptr (cells := [vt_1]) 8 rfl 0 rfl (lb rfl))) F S, trivial⟩ ?_
       refine dv_et ok1 7 rfl (ev_build (parts := [(0, .tmp 51)]) (vs := [(0, v5)]) rfl (fun w => tb41_0 v5 (OwnS.isSl h6) w)) F rfl fun a F=>?_
       refine dv_op ok1 9 rfl [] ?_
       obtain ⟨g5, l5, S, h7⟩ : ∃ gz, Le g3 gz ∧ St gz [[bx b9 #[.i6 0, .i6 0] 29], [bx b8 #[nilS] 44], [bx b7 #[.i6 y2.2.Code, .i6 y2.2.Index] 29], [bx b6 #[v2] 44], c2, [bx b5 #[.i6 y1.2.Code, .i6 y1.2.Index] 29], [bx b4 #[v1] 44], [bx b3 #[vt_1] 44], [bx b2 #[vq_1] 41], [bx b1 #[vp_1] 41]] fr w ∧ RepSl gz y5 v5 := ⟨_, Le.add _ _, S.freeze 2 rfl, OwnS.freeze (S.front 2 rfl) h6⟩
       refine wl_call0 (wn rfl) rfl F rfl (treepatch_Apply_ok (fr := (fl [[bx b9 #[.i6 0, .i6 0] 29], [bx b8 #[nilS] 44], [bx b7 #[.i6 y2.2.Code, .i6 y2.2.Index] 29], [bx b6 #[v2] 44], c2, [bx b5 #[.i6 y1.2.Code, .i6 y1.2.Index] 29], [bx b4 #[v1] 44], [bx b3 #[vt_1] 44], [bx b2 #[vq_1] 41], [bx b1 #[vp_1] 41]] fr)) ({ Changes := y5 } : TreePatch) v5 h7 t_ vt_1 (ht_1.mono (((l1.trans l2).trans l3).trans l5)) S hy6) rfl tc18 rfl rfl ?_; clear F a S
       rintro _ a w ⟨g6, v6, c6, l6, S, h8, rfl⟩ F; replace S : St g6 [c6, [bx b9 #[.i6 0, .i6 0] 29], [bx b8 #[nilS] 44], [bx b7 #[.i6 y2.2.Code, .i6 y2.2.Index] 29], [bx b6 #[v2] 44], c2, [bx b5 #[.i6 y1.2.Code, .i6 y1.2.Index] 29], [bx b4 #[v1] 44], [bx b3 #[vt_1] 44], [bx b2 #[vq_1] 41], [bx b1 #[vp_1] 41]] fr w := S
       refine dv_nx trivial ?_
       refine dv_et ok1 10 rfl (ev_move rfl) F rfl fun a F=>?_
       refine dv_et ok1 11 rfl (ev_extract rfl rfl) F rfl fun a F=>?_
       refine dv_et ok1 12 rfl (ev_extract rfl rfl) F rfl fun a F=>?_
       refine dv_join (HJ _ _ ?_)
       replace S : St g6 [[bx b9 #[.i6 0, .i6 0] 29], [bx b8 #[nilS] 44], c6, [bx b6 #[v2] 44], c2] fr w := St.tail [[bx b9 #[.i6 0, .i6 0] 29], [bx b8 #[nilS] 44], c6, [bx b6 #[v2] 44], c2] _ (((((S.frontC 5 rfl).frontC 5 rfl).frontC 2 rfl).frontC 5 rfl).frontC 5 rfl)
       exact ⟨v6, b9, b8, c6, g6, F.sub ⟨rfl, rfl, rfl, rfl, rfl, trivial⟩, (l5.trans l6), S, h8, hm⟩
     ·refine wl_alloc (wn rfl) rfl tz29 (cs := [.i6 0, .i6 0]) rfl F S rfl rfl ?_; clear F a S; rintro b9 a w F S
      refine dv_nx ⟨yl_ev rfl rfl (ev_loadA tu44 rfl (cs := [vt_1]) ts44 rfl (box_ptr (cells := [vt_1]) 7 rfl 0 rfl (lb rfl))) F S, yl_ev rfl rfl (ev_load1 tu39 rfl rfl (box_ptr (cells := [vq_1]) 8 rfl 0 rfl (lb rfl))) F S, trivial⟩ ?_
      refine dv_fork ok1 6 [13] (fk 6 rfl [(8, .agg #[vt_1])] ?_ (fk 13 rfl [(8, .agg #[vt_1]), (5, vq_1)] ?_ trivial))
      ·obtain ⟨cs2, hk2, hr2⟩ := RepSl.reads (hq_1.mono ((l1.trans l2).trans l3))
       refine wl_append (wn rfl) rfl tu39 tu39 te27 (by decide) (by decide) F S rfl rfl (k := 1) rfl h5 hk2 rfl (hr2 _ _ S) hy5 rfl rfl ?_; clear F a S
       rintro v5 c5 a w h6 S F; replace S : St g3 [[bx b9 #[.i6 0, .i6 0] 29], c5, [bx b7 #[.i6 y2.2.Code, .i6 y2.2.Index] 29], [bx b6 #[v2] 44], c2, [bx b5 #[.i6 y1.2.Code, .i6 y1.2.Index] 29], [bx b4 #[v1] 44], [bx b3 #[vt_1] 44], [bx b2 #[vq_1] 41], [bx b1 #[vp_1] 41]] fr w := S
       refine dv_nx ⟨yl_ev rfl rfl (ev_loadA tu44 rfl (cs := [vt_1]) ts44 rfl (box_ptr (cells := [vt_1]) 7 rfl 0 rfl (lb rfl))) F S, trivial⟩ ?_
       refine dv_et ok1 7 rfl (ev_build (parts := [(0, .tmp 51)]) (vs := [(0, v5)]) rfl (fun w => tb41_0 v5 (OwnS.isSl h6) w)) F rfl fun a F=>?_
       refine dv_fork ok1 9 [13] (fk 9 rfl [] ?_ (fk 13 rfl [(8, .agg #[vt_1])] ?_ trivial))
       ·obtain ⟨g5, l5, S, h7⟩ : ∃ gz, Le g3 gz ∧ St gz [[bx b9 #[.i6 0, .i6 0] 29], [bx b7 #[.i6 y2.2.Code, .i6 y2.2.Index] 29], [bx b6 #[v2] 44], c2, [bx b5 #[.i6 y1.2.Code, .i6 y1.2.Index] 29], [bx b4 #[v1] 44], [bx b3 #[vt_1] 44], [bx b2 #[vq_1] 41], [bx b1 #[vp_1] 41]] fr w ∧ RepSl gz y5 v5 := ⟨_, Le.add _ _, S.freeze 1 rfl, OwnS.freeze (S.front 1 rfl) h6⟩
        refine wl_call0 (wn rfl) rfl F rfl (treepatch_Apply_ok (fr := (fl [[bx b9 #[.i6 0, .i6 0] 29], [bx b7 #[.i6 y2.2.Code, .i6 y2.2.Index] 29], [bx b6 #[v2] 44], c2, [bx b5 #[.i6 y1.2.Code, .i6 y1.2.Index] 29], [bx b4 #[v1] 44], [bx b3 #[vt_1] 44], [bx b2 #[vq_1] 41], [bx b1 #[vp_1] 41]] fr)) ({ Changes := y5 } : TreePatch) v5 h7 t_ vt_1 (ht_1.mono (((l1.trans l2).trans l3).trans l5)) S hy6) rfl tc18 rfl rfl ?_; clear F a S
        rintro _ a w ⟨g6, v6, c6, l6, S, h8, rfl⟩ F; replace S : St g6 [c6, [bx b9 #[.i6 0, .i6 0] 29], [bx b7 #[.i6 y2.2.Code, .i6 y2.2.Index] 29], [bx b6 #[v2] 44], c2, [bx b5 #[.i6 y1.2.Code, .i6 y1.2.Index] 29], [bx b4 #[v1] 44], [bx b3 #[vt_1] 44], [bx b2 #[vq_1] 41], [bx b1 #[vp_1] 41]] fr w := S
        refine dv_nx trivial ?_
        refine dv_et ok1 10 rfl (ev_move rfl) F rfl fun a F=>?_
        refine dv_et ok1 11 rfl (ev_extract rfl rfl) F rfl fun a F=>?_
        refine dv_et ok1 12 rfl (ev_extract rfl rfl) F rfl fun a F=>?_
        refine dv_op ok1 13 rfl [] ?_
        refine wl_alloc (wn rfl) rfl tz44 (cs := [nilS]) rfl F S rfl rfl ?_; clear F a S; rintro b8 a w F S
        refine dv_nx trivial ?_
        refine dv_join (HJ _ _ ?_)
        replace S : St g6 [[bx b9 #[.i6 0, .i6 0] 29], [bx b8 #[nilS] 44], c6, [bx b6 #[v2] 44], c2] fr w := St.tail [[bx b9 #[.i6 0, .i6 0] 29], [bx b8 #[nilS] 44], c6, [bx b6 #[v2] 44], c2] _ (((((S.frontC 5 rfl).frontC 5 rfl).frontC 3 rfl).frontC 3 rfl).frontC 6 rfl)
        exact ⟨v6, b9, b8, c6, g6, F.sub ⟨rfl, rfl, rfl, rfl, rfl, trivial⟩, (l5.trans l6), S, h8, hm⟩
       ·refine wl_alloc (wn rfl) rfl tz44 (cs := [nilS]) rfl F S rfl rfl ?_; clear F a S; rintro b8 a w F S
        refine dv_nx ⟨yl_ev rfl rfl (ev_loadA tu44 rfl (cs := [vt_1]) ts44 rfl (box_ptr (cells := [vt_1]) 8 rfl 0 rfl (lb rfl))) F S, trivial⟩ ?_
        refine dv_op ok1 9 rfl [] ?_
        obtain ⟨g5, l5, S, h7⟩ : ∃ gz, Le g3 gz ∧ St gz [[bx b8 #[nilS] 44], [bx b9 #[.i6 0, .i6 0] 29], [bx b7 #[.i6 y2.2.Code, .i6 y2.2.Index] 29], [bx b6 #[v2] 44], c2, [bx b5 #[.i6 y1.2.Code, .i6 y1.2.Index] 29], [bx b4 #[v1] 44], [bx b3 #[vt_1] 44], [bx b2 #[vq_1] 41], [bx b1 #[vp_1] 41]] fr w ∧ RepSl gz y5 v5 := ⟨_, Le.add _ _, S.freeze 2 rfl, OwnS.freeze (S.front 2 rfl) h6⟩
        refine wl_call0 (wn rfl) rfl F rfl (treepatch_Apply_ok (fr := (fl [[bx b8 #[nilS] 44], [bx b9 #[.i6 0, .i6 0] 29], [bx b7 #[.i6 y2.2.Code, .i6 y2.2.Index] 29], [bx b6 #[v2] 44], c2, [bx b5 #[.i6 y1.2.Code, .i6 y1.2.Index] 29], [bx b4 #[v1] 44], [bx b3 #[vt_1] 44], [bx b2 #[vq_1] 41], [bx b1 #[vp_1] 41]] fr)) ({ Changes := y5 } : TreePatch) v5 h7 t_ vt_1 (ht_1.mono (((l1.trans l2).trans l3).trans l5)) S hy6) rfl tc18 rfl rfl ?_; clear F a S
        rintro _ a w ⟨g6, v6, c6, l6, S, h8, rfl⟩ F; replace S : St g6 [c6, [bx b8 #[nilS] 44], [bx b9 #[.i6 0, .i6 0] 29], [bx b7 #[.i6 y2.2.Code, .i6 y2.2.Index] 29], [bx b6 #[v2] 44], c2, [bx b5 #[.i6 y1.2.Code, .i6 y1.2.Index] 29], [bx b4 #[v1] 44], [bx b3 #[vt_1] 44], [bx b2 #[vq_1] 41], [bx b1 #[vp_1] 41]] fr w := S
        refine dv_nx trivial ?_
        refine dv_et ok1 10 rfl (ev_move rfl) F rfl fun a F=>?_
        refine dv_et ok1 11 rfl (ev_extract rfl rfl) F rfl fun a F=>?_
        refine dv_et ok1 12 rfl (ev_extract rfl rfl) F rfl fun a F=>?_
        refine dv_join (HJ _ _ ?_)
        replace S : St g6 [[bx b9 #[.i6 0, .i6 0] 29], [bx b8 #[nilS] 44], c6, [bx b6 #[v2] 44], c2] fr w := St.tail [[bx b9 #[.i6 0, .i6 0] 29], [bx b8 #[nilS] 44], c6, [bx b6 #[v2] 44], c2] _ (((((S.frontC 5 rfl).frontC 5 rfl).frontC 2 rfl).frontC 4 rfl).frontC 6 rfl)
        exact ⟨v6, b9, b8, c6, g6, F.sub ⟨rfl, rfl, rfl, rfl, rfl, trivial⟩, (l5.trans l6), S, h8, hm⟩
      ·refine wl_alloc (wn rfl) rfl tz44 (cs := [nilS]) rfl F S rfl rfl ?_; clear F a S; rintro b8 a w F S
       refine dv_nx ⟨yl_ev rfl rfl (ev_loadA tu44 rfl (cs := [vt_1]) ts44 rfl (box_ptr (cells := [vt_1]) 8 rfl 0 rfl (lb rfl))) F S, yl_ev rfl rfl (ev_load1 tu39 rfl rfl (box_ptr (cells := [vq_1]) 9 rfl 0 rfl (lb rfl))) F S, trivial⟩ ?_
       refine dv_op ok1 6 rfl [(8, .agg #[vt_1])] ?_
       obtain ⟨cs2, hk2, hr2⟩ := RepSl.reads (hq_1.mono ((l1.trans l2).trans l3))
       refine wl_append (wn rfl) rfl tu39 tu39 te27 (by decide) (by decide) F S rfl rfl (k := 2) rfl h5 hk2 rfl (hr2 _ _ S) hy5 rfl rfl ?_; clear F a S
       rintro v5 c5 a w h6 S F; replace S : St g3 [[bx b8 #[nilS] 44], [bx b9 #[.i6 0, .i6 0] 29], c5, [bx b7 #[.i6 y2.2.Code, .i6 y2.2.Index] 29], [bx b6 #[v2] 44], c2, [bx b5 #[.i6 y1.2.Code, .i6 y1.2.Index] 29], [bx b4 #[v1] 44], [bx b3 #[vt_1] 44], [bx b2 #[vq_1] 41], [bx b1 #[vp_1] 41]] fr w := S
       refine dv_nx ⟨yl_ev rfl rfl (ev_loadA tu44 rfl (cs := [vt_1]) ts44 rfl (box_ptr (cells := [vt_1]) 8 rfl 0 rfl (lb rfl))) F S, trivial⟩ ?_
       refine dv_et ok1 7 rfl (ev_build (parts := [(0, .tmp 51)]) (vs := [(0, v5)]) rfl (fun w => tb41_0 v5 (OwnS.isSl h6) w)) F rfl fun a F=>?_
       refine dv_op ok1 9 rfl [] ?_
       obtain ⟨g5, l5, S, h7⟩ : ∃ gz, Le g3 gz ∧ St gz [[bx b8 #[nilS] 44], [bx b9 #[.i6 0, .i6 0] 29], [bx b7 #[.i6 y2.2.Code, .i6 y2.2.Index] 29], [bx b6 #[v2] 44], c2, [bx b5 #[.i6 y1.2.Code, .i6 y1.2.Index] 29], [bx b4 #[v1] 44], [bx b3 #[vt_1] 44], [bx b2 #[vq_1] 41], [bx b1 #[vp_1] 41]] fr w ∧ RepSl gz y5 v5 := ⟨_, Le.add _ _, S.freeze 2 rfl, OwnS.freeze (S.front 2 rfl) h6⟩
       refine wl_call0 (wn rfl) rfl F rfl (treepatch_Apply_ok (fr := (fl [[bx b8 #[nilS] 44], [bx b9 #[.i6 0, .i6 0] 29], [bx b7 #[.i6 y2.2.Code, .i6 y2.2.Index] 29], [bx b6 #[v2] 44], c2, [bx b5 #[.i6 y1.2.Code, .i6 y1.2.Index] 29], [bx b4 #[v1] 44], [bx b3 #[vt_1] 44], [bx b2 #[vq_1] 41], [bx b1 #[vp_1] 41]] fr)) ({ Changes := y5 } : TreePatch) v5 h7 t_ vt_1 (ht_1.mono (((l1.trans l2).trans l3).trans l5)) S hy6) rfl tc18 rfl rfl ?_; clear F a S
       rintro _ a w ⟨g6, v6, c6, l6, S, h8, rfl⟩ F; replace S : St g6 [c6, [bx b8 #[nilS] 44], [bx b9 #[.i6 0, .i6 0] 29], [bx b7 #[.i6 y2.2.Code, .i6 y2.2.Index] 29], [bx b6 #[v2] 44], c2, [bx b5 #[.i6 y1.2.Code, .i6 y1.2.Index] 29], [bx b4 #[v1] 44], [bx b3 #[vt_1] 44], [bx b2 #[vq_1] 41], [bx b1 #[vp_1] 41]] fr w := S
       refine dv_nx trivial ?_
       refine dv_et ok1 10 rfl (ev_move rfl) F rfl fun a F=>?_
       refine dv_et ok1 11 rfl (ev_extract rfl rfl) F rfl fun a F=>?_
       refine dv_et ok1 12 rfl (ev_extract rfl rfl) F rfl fun a F=>?_
       refine dv_join (HJ _ _ ?_)
       replace S : St g6 [[bx b9 #[.i6 0, .i6 0] 29], [bx b8 #[nilS] 44], c6, [bx b6 #[v2] 44], c2] fr w := St.tail [[bx b9 #[.i6 0, .i6 0] 29], [bx b8 #[nilS] 44], c6, [bx b6 #[v2] 44], c2] _ (((((S.frontC 5 rfl).frontC 5 rfl).frontC 2 rfl).frontC 4 rfl).frontC 6 rfl)
       exact ⟨v6, b9, b8, c6, g6, F.sub ⟨rfl, rfl, rfl, rfl, rfl, trivial⟩, (l5.trans l6), S, h8, hm⟩
    ·refine wl_alloc (wn rfl) rfl tz44 (cs := [nilS]) rfl F S rfl rfl ?_; clear F a S; rintro b8 a w F S
     refine dv_nx ⟨yl_ev rfl rfl (ev_loadA tu44 rfl (cs := [vt_1]) ts44 rfl (box_ptr (cells := [vt_1]) 7 rfl 0 rfl (lb rfl))) F S, yl_ev rfl rfl (ev_load1 tu39 rfl rfl (box_ptr (cells := [vq_1]) 8 rfl 0 rfl (lb rfl))) F S, yl_ev rfl rfl (ev_load1 tu39 rfl rfl (box_ptr (cells := [vp_1]) 9 rfl 0 rfl (lb rfl))) F S, trivial⟩ ?_
     refine dv_fork ok1 3 [14] (fk 3 rfl [(8, .agg #[vt_1]), (5, vq_1)] ?_ (fk 14 rfl [(8, .agg #[vt_1]), (5, vq_1), (2, vp_1)] ?_ trivial))
     ·obtain ⟨cs1, hk1, hr1⟩ := RepSl.reads (hp_1.mono ((l1.trans l2).trans l3))
      refine wl_append (wn rfl) rfl tu39 tu39 te27 (by decide) (by decide) F S rfl rfl (k := 1) rfl h4 hk1 rfl (hr1 _ _ S) hy4 rfl rfl ?_; clear F a S
      rintro v4 c4 a w h5 S F; replace S : St g3 [[bx b8 #[nilS] 44], c4, [bx b7 #[.i6 y2.2.Code, .i6 y2.2.Index] 29], [bx b6 #[v2] 44], c2, [bx b5 #[.i6 y1.2.Code, .i6 y1.2.Index] 29], [bx b4 #[v1] 44], [bx b3 #[vt_1] 44], [bx b2 #[vq_1] 41], [bx b1 #[vp_1] 41]] fr w := S
      refine dv_nx ⟨yl_ev rfl rfl (ev_loadA tu44 rfl (cs := [vt_1]) ts44 rfl (box_ptr (cells := [vt_1]) 7 rfl 0 rfl (lb rfl))) F S, yl_ev rfl rfl (ev_load1 tu39 rfl rfl (box_ptr (cells := [vq_1]) 8 rfl 0 rfl (lb rfl))) F S, trivial⟩ ?_
      refine dv_fork ok1 6 [14] (fk 6 rfl [(8, .agg #[vt_1])] ?_ (fk 14 rfl [(8, .agg #[vt_1]), (5, vq_1)] ?_ trivial))
      ·obtain ⟨cs2, hk2, hr2⟩ := RepSl.reads (hq_1.mono ((l1.trans l2).trans l3))
       refine wl_append (wn rfl) rfl tu39 tu39 te27 (by decide) (by decide) F S rfl rfl (k := 1) rfl h5 hk2 rfl (hr2 _ _ S) hy5 rfl rfl ?_; clear F a S
       rintro v5 c5 a w h6 S F; replace S : St g3 [[bx b8 #[nilS] 44], c5, [bx b7 #[.i6 y2.2.Code, .i6 y2.2.Index] 29], [bx b6 #[v2] 44], c2, [bx b5 #[.i6 y1.2.Code, .i6 y1.2.Index] 29], [bx b4 #[v1] 44], [bx b3 #[vt_1] 44], [bx b2 #[vq_1] 41], [bx b1 #[vp_1] 41]] fr w := S
       refine dv_nx ⟨yl_ev rfl rfl (ev_loadA tu44 rfl (cs := [vt_1]) ts44 rfl (box_ptr (cells := [vt_1]) 7 rfl 0 rfl (lb rfl))) F S, trivial⟩ ?_
       refine dv_et ok1 7 rfl (ev_build (parts := [(0, .tmp 51)]) (vs := [(0, v5)]) rfl (fun w => tb41_0 v5 (OwnS.isSl h6) w)) F rfl fun a F=>?_
       refine dv_fork ok1 9 [14] (fk 9 rfl [] ?_ (fk 14 rfl [(8, .agg #[vt_1])] ?_ trivial))
       ·obtain ⟨g5, l5, S, h7⟩ : ∃ gz, Le g3 gz ∧ St gz [[bx b8 #[nilS] 44], [bx b7 #[.i6 y2.2.Code, .i6 y2.2.Index] 29], [bx b6 #[v2] 44], c2, [bx b5 #[.i6 y1.2.Code, .i6 y1.2.Index] 29], [bx b4 #[v1] 44], [bx b3 #[vt_1] 44], [bx b2 #[vq_1] 41], [bx b1 #[vp_1] 41]] fr w ∧ RepSl gz y5 v5 := ⟨_, Le.add _ _, S.freeze 1 rfl, OwnS.freeze (S.front 1 rfl) h6⟩
        refine wl_call0 (wn rfl) rfl F rfl (treepatch_Apply_ok (fr := (fl [[bx b8 #[nilS] 44], [bx b7 #[.i6 y2.2.Code, .i6 y2.2.Index] 29], [bx b6 #[v2] 44], c2, [bx b5 #[.i6 y1.2.Code, .i6 y1.2.Index] 29], [bx b4 #[v1] 44], [bx b3 #[vt_1] 44], [bx b2 #[vq_1] 41], [bx b1 #[vp_1] 41]] fr)) ({ Changes := y5 } : TreePatch) v5 h7 t_ vt_1 (ht_1.mono (((l1.trans l2).trans l3).trans l5)) S hy6) rfl tc18 rfl rfl ?_; clear F a S
        rintro _ a w ⟨g6, v6, c6, l6, S, h8, rfl⟩ F; replace S : St g6 [c6, [bx b8 #[nilS] 44], [bx b7 #[.i6 y2.2.Code, .i6 y2.2.Index] 29], [bx b6 #[v2] 44], c2, [bx b5 #[.i6 y1.2.Code, .i6 y1.2.Index] 29], [bx b4 #[v1] 44], [bx b3 #[vt_1] 44], [bx b2 #[vq_1] 41], [bx b1 #[vp_1] 41]] fr w := S
        refine dv_nx trivial ?_
        refine dv_et ok1 10 rfl (ev_move rfl) F rfl fun a F=>?_
        refine dv_et ok1 11 rfl (ev_extract rfl rfl) F rfl fun a F=>?_
        refine dv_et ok1 12 rfl (ev_extract rfl rfl) F rfl fun a F=>?_
        refine dv_op ok1 14 rfl [] ?_
        refine wl_alloc (wn rfl) rfl tz29 (cs := [.i6 0, .i6 0]) rfl F S rfl rfl ?_; clear F a S; rintro b9 a w F S
        refine dv_nx trivial ?_
        refine dv_join (HJ _ _ ?_)
        replace S : St g6 [[bx b9 #[.i6 0, .i6 0] 29], [bx b8 #[nilS] 44], c6, [bx b6 #[v2] 44], c2] fr w := St.tail [[bx b9 #[.i6 0, .i6 0] 29], [bx b8 #[nilS] 44], c6, [bx b6 #[v2] 44], c2] _ (((((S.frontC 5 rfl).frontC 5 rfl).frontC 3 rfl).frontC 5 rfl).frontC 4 rfl)
        exact ⟨v6, b9, b8, c6, g6, F.sub ⟨rfl, rfl, rfl, rfl, rfl, trivial⟩, (l5.trans l6), S, h8, hm⟩
       ·refine wl_alloc (wn rfl) rfl tz29 (cs := [.i6 0, .i6 0]) rfl F S rfl rfl ?_; clear F a S; rintro b9 a w F S
        refine dv_nx ⟨yl_ev rfl rfl (ev_loadA tu44 rfl (cs := [vt_1]) ts44 rfl (box_ptr (cells := [vt_1]) 8 rfl 0 rfl (lb rfl))) F S, trivial⟩ ?_
        refine dv_op ok1 9 rfl [] ?_
        obtain ⟨g5, l5, S, h7⟩ : ∃ gz, Le g3 gz ∧ St gz [[bx b9 #[.i6 0, .i6 0] 29], [bx b8 #[nilS] 44], [bx b7 #[.i6 y2.2.Code, .i6 y2.2.Index] 29], [bx b6 #[v2] 44], c2, [bx b5 #[.i6 y1.2.Code, .i6 y1.2.Index] 29], [bx b4 #[v1] 44], [bx b3 #[vt_1] 44], [bx b2 #[vq_1] 41], [bx b1 #[vp_1] 41]] fr w ∧ RepSl gz y5 v5 := ⟨_, Le.add _ _, S.freeze 2 rfl, OwnS.freeze (S.front 2 rfl) h6⟩
        refine wl_call0 (wn rfl) rfl F rfl (treepatch_Apply_ok (fr := (fl [[bx b9 #[.i6 0, .i6 0] 29], [bx b8 #[nilS] 44], [bx b7 #[.i6 y2.2.Code, .i6 y2.2.Index] 29], [bx b6 #[v2] 44], c2, [bx b5 #[.i6 y1.2.Code, .i6 y1.2.Index] 29], [bx b4 #[v1] 44], [bx b3 #[vt_1] 44], [bx b2 #[vq_1] 41], [bx b1 #[vp_1] 41]] fr)) ({ Changes := y5 } : TreePatch) v5 h7 t_ vt_1 (ht_1.mono (((l1.trans l2).trans l3).trans l5)) S hy6) rfl tc18 rfl rfl ?_; clear F a S
        rintro _ a w ⟨g6, v6, c6, l6, S, h8, rfl⟩ F; replace S : St g6 [c6, [bx b9 #[.i6 0, .i6 0] 29], [bx b8 #[nilS] 44], [bx b7 #[.i6 y2.2.Code, .i6 y2.2.Index] 29], [bx b6 #[v2] 44], c2, [bx b5 #[.i6 y1.2.Code, .i6 y1.2.Index] 29], [bx b4 #[v1] 44], [bx b3 #[vt_1] 44], [bx b2 #[vq_1] 41], [bx b1 #[vp_1] 41]] fr w := S
        refine dv_nx trivial ?_
        refine dv_et ok1 10 rfl (ev_move rfl) F rfl fun a F=>?_
        refine dv_et ok1 11 rfl (ev_extract rfl rfl) F rfl fun a F=>?_
        refine dv_et ok1 12 rfl (ev_extract rfl rfl) F rfl fun a F=>?_
        refine dv_join (HJ _ _ ?_)
        replace S : St g6 [[bx b9 #[.i6 0, .i6 0] 29], [bx b8 #[nilS] 44], c6, [bx b6 #[v2] 44], c2] fr w := St.tail [[bx b9 #[.i6 0, .i6 0] 29], [bx b8 #[nilS] 44], c6, [bx b6 #[v2] 44], c2] _ (((((S.frontC 5 rfl).frontC 5 rfl).frontC 2 rfl).frontC 5 rfl).frontC 5 rfl)
        exact ⟨v6, b9, b8, c6, g6, F.sub ⟨rfl, rfl, rfl, rfl, rfl, trivial⟩, (l5.trans l6), S, h8, hm⟩
      ·refine wl_alloc (wn rfl) rfl tz29 (cs := [.i6 0, .i6 0]) rfl F S rfl rfl ?_; clear F a S; rintro b9 a w F S
       refine dv_nx ⟨yl_ev rfl rfl (ev_loadA tu44 rfl (cs := [vt_1]) ts44 rfl (box_ptr (cells := [vt_1]) 8 rfl 0 rfl (lb rfl))) F S, yl_ev rfl rfl (ev_load1 tu39 rfl rfl (box_ptr (cells := [vq_1]) 9 rfl 0 rfl (lb rfl))) F S, trivial⟩ ?_
       refine dv_op ok1 6 rfl [(8, .agg #[vt_1])] ?_
       obtain ⟨cs2, hk2, hr2⟩ := RepSl.reads (hq_1.mono ((l1.trans l2).trans l3))
       refine wl_append (wn rfl) rfl tu39 tu39 te27 (by decide) (by decide) F S rfl rfl (k := 2) rfl h5 hk2 rfl (hr2 _ _ S) hy5 rfl rfl ?_; clear F a S
       rintro v5 c5 a w h6 S F; replace S : St g3 [[bx b9 #[.i6 0, .i6 0] 29], [bx b8 #[nilS] 44], c5, [bx b7 #[.i6 y2.2.Code, .i6 y2.2.Index] 29], [bx b6 #[v2] 44], c2, [bx b5 #[.i6 y1.2.Code, .i6 y1.2.Index] 29], [bx b4 #[v1] 44], [bx b3 #[vt_1] 44], [bx b2 #[vq_1] 41], [bx b1 #[vp_1] 41]] fr w := S
       refine dv_nx ⟨yl_ev rfl rfl (ev_loadA tu44 rfl (cs := [vt_1]) ts44 rfl (box_ptr (cells := [vt_1]) 8 rfl 0 rfl (lb rfl))) F S, trivial⟩ ?_
       refine dv_et ok1 7 rfl (ev_build (parts := [(0, .tmp 51)]) (vs := [(0, v5)]) rfl (fun w => tb41_0 v5 (OwnS.isSl h6) w)) F rfl fun a F=>?_
       refine dv_op ok1 9 rfl [] ?_
       obtain ⟨g5, l5, S, h7⟩ : ∃ gz, Le g3 gz ∧ St gz [[bx b9 #[.i6 0, .i6 0] 29], [bx b8 #[nilS] 44], [bx b7 #[.i6 y2.2.Code, .i6 y2.2.Index] 29], [bx b6 #[v2] 44], c2, [bx b5 #[.i6 y1.2.Code, .i6 y1.2.Index] 29], [bx b4 #[v1] 44], [bx b3 #[vt_1] 44], [bx b2 #[vq_1] 41], [bx b1 #[vp_1] 41]] fr w ∧ RepSl gz y5 v5 := ⟨_, Le.add _ _, S.freeze 2 rfl, OwnS.freeze (S.front 2 rfl) h6⟩
       refine wl_call0 (wn rfl) rfl F rfl (treepatch_Apply_ok (fr := (fl [[bx b9 #[.i6 0, .i6 0] 29], [bx b8 #[nilS] 44], [bx b7 #[.i6 y2.2.Code, .i6 y2.2.Index] 29], [bx b6 #[v2] 44], c2, [bx b5 #[.i6 y1.2.Code, .i6 y1.2.Index] 29], [bx b4 #[v1] 44], [bx b3 #[vt_1] 44], [bx b2 #[vq_1] 41], [bx b1 #[vp_1] 41]] fr)) ({ Changes := y5 } : TreePatch) v5 h7 t_ vt_1 (ht_1.mono (((l1.trans l2).trans l3).trans l5)) S hy6) rfl tc18 rfl rfl ?_; clear F a S
       rintro _ a w ⟨g6, v6, c6, l6, S, h8, rfl⟩ F; replace S : St g6 [c6, [bx b9 #[.i6 0, .i6 0] 29], [bx b8 #[nilS] 44], [bx b7 #[.i6 y2.2.Code, .i6 y2.2.Index] 29], [bx b6 #[v2] 44], c2, [bx b5 #[.i6 y1.2.Code, .i6 y1.2.Index] 29], [bx b4 #[v1] 44], [bx b3 #[vt_1] 44], [bx b2 #[vq_1] 41], [bx b1 #[vp_1] 41]] fr w := S
       refine dv_nx trivial ?_
       refine dv_et ok1 10 rfl (ev_move rfl) F rfl fun a F=>?_
       refine dv_et ok1 11 rfl (ev_extract rfl rfl) F rfl fun a F=>?_
       refine dv_et ok1 12 rfl (ev_extract rfl rfl) F rfl fun a F=>?_
       refine dv_join (HJ _ _ ?_)
       replace S : St g6 [[bx b9 #[.i6 0, .i6 0] 29], [bx b8 #[nilS] 44], c6, [bx b6 #[v2] 44], c2] fr w := St.tail [[bx b9 #[.i6 0, .i6 0] 29], [bx b8 #[nilS] 44], c6, [bx b6 #[v2] 44], c2] _ (((((S.frontC 5 rfl).frontC 5 rfl).frontC 2 rfl).frontC 5 rfl).frontC 5 rfl)
       exact ⟨v6, b9, b8, c6, g6, F.sub ⟨rfl, rfl, rfl, rfl, rfl, trivial⟩, (l5.trans l6), S, h8, hm⟩
     ·refine wl_alloc (wn rfl) rfl tz29 (cs := [.i6 0, .i6 0]) rfl F S rfl rfl ?_; clear F a S; rintro b9 a w F S
      refine dv_nx ⟨yl_ev rfl rfl (ev_loadA tu44 rfl (cs := [vt_1]) ts44 rfl (box_ptr (cells := [vt_1]) 8 rfl 0 rfl (lb rfl))) F S, yl_ev rfl rfl (ev_load1 tu39 rfl rfl (box_ptr (cells := [vq_1]) 9 rfl 0 rfl (lb rfl))) F S, yl_ev rfl rfl (ev_load1 tu39 rfl rfl (box_ptr (cells := [vp_1]) 10 rfl 0 rfl (lb rfl))) F S, trivial⟩ ?_
      refine dv_op ok1 3 rfl [(8, .agg #[vt_1]), (5, vq_1)] ?_
      obtain ⟨cs1, hk1, hr1⟩ := RepSl.reads (hp_1.mono ((l1.trans l2).trans l3))
      refine wl_append (wn rfl) rfl tu39 tu39 te27 (by decide) (by decide) F S rfl rfl (k := 2) rfl h4 hk1 rfl (hr1 _ _ S) hy4 rfl rfl ?_; clear F a S
      rintro v4 c4 a w h5 S F; replace S : St g3 [[bx b9 #[.i6 0, .i6 0] 29], [bx b8 #[nilS] 44], c4, [bx b7 #[.i6 y2.2.Code, .i6 y2.2.Index] 29], [bx b6 #[v2] 44], c2, [bx b5 #[.i6 y1.2.Code, .i6 y1.2.Index] 29], [bx b4 #[v1] 44], [bx b3 #[vt_1] 44], [bx b2 #[vq_1] 41], [bx b1 #[vp_1] 41]] fr w := S
      refine dv_nx ⟨yl_ev rfl rfl (ev_loadA tu44 rfl (cs := [vt_1]) ts44 rfl (box_ptr (cells := [vt_1]) 8 rfl 0 rfl (lb rfl))) F S, yl_ev rfl rfl (ev_load1 tu39 rfl rfl (box_ptr (cells := [vq_1]) 9 rfl 0 rfl (lb rfl))) F S, trivial⟩ ?_
      refine dv_op ok1 6 rfl [(8, .agg #[vt_1])] ?_
      obtain ⟨cs2, hk2, hr2⟩ := RepSl.reads (hq_1.mono ((l1.trans l2).trans l3))
      refine wl_append (wn rfl) rfl tu39 tu39 te27 (by decide) (by decide) F S rfl rfl (k := 2) rfl h5 hk2 rfl (hr2 _ _ S) hy5 rfl rfl ?_; clear F a S
      rintro v5 c5 a w h6 S F; replace S : St g3 [[bx b9 #[.i6 0, .i6 0] 29], [bx b8 #[nilS] 44], c5, [bx b7 #[.i6 y2.2.Code, .i6 y2.2.Index] 29], [bx b6 #[v2] 44], c2, [bx b5 #[.i6 y1.2.Code, .i6 y1.2.Index] 29], [bx b4 #[v1] 44], [bx b3 #[vt_1] 44], [bx b2 #[vq_1] 41], [bx b1 #[vp_1] 41]] fr w := S
      refine dv_nx ⟨yl_ev rfl rfl (ev_loadA tu44 rfl (cs := [vt_1]) ts44 rfl (box_ptr (cells := [vt_1]) 8 rfl 0 rfl (lb rfl))) F S, trivial⟩ ?_
      refine dv_et ok1 7 rfl (ev_build (parts := [(0, .tmp 51)]) (vs := [(0, v5)]) rfl (fun w => tb41_0 v5 (OwnS.isSl h6) w)) F rfl fun a F=>?_
      refine dv_op ok1 9 rfl [] ?_
      obtain ⟨g5, l5, S, h7⟩ : ∃ gz, Le g3 gz ∧ St gz [[bx b9 #[.i6 0, .i6 0] 29], [bx b8 #[nilS] 44], [bx b7 #[.i6 y2.2.Code, .i6 y2.2.Index] 29], [bx b6 #[v2] 44], c2, [bx b5 #[.i6 y1.2.Code, .i6 y1.2.Index] 29], [bx b4 #[v1] 44], [bx b3 #[vt_1] 44], [bx b2 #[vq_1] 41], [bx b1 #[vp_1] 41]] fr w ∧ RepSl gz y5 v5 := ⟨_, Le.add _ _, S.freeze 2 rfl, OwnS.freeze (S.front 2 rfl) h6⟩
      refine wl_call0 (wn rfl) rfl F rfl (treepatch_Apply_ok (fr := (fl [[bx b9 #[.i6 0, .i6 0] 29], [bx b8 #[nilS] 44], [bx b7 #[.i6 y2.2.Code, .i6 y2.2.Index] 29], [bx b6 #[v2] 44], c2, [bx b5 #[.i6 y1.2.Code, .i6 y1.2.Index] 29], [bx b4 #[v1] 44], [bx b3 #[vt_1] 44], [bx b2 #[vq_1] 41], [bx b1 #[vp_1] 41]] fr)) ({ Changes := y5 } : TreePatch) v5 h7 t_ vt_1 (ht_1.mono (((l1.trans l2).trans l3).trans l5)) S hy6) rfl tc18 rfl rfl ?_; clear F a S
      rintro _ a w ⟨g6, v6, c6, l6, S, h8, rfl⟩ F; replace S : St g6 [c6, [bx b9 #[.i6 0, .i6 0] 29], [bx b8 #[nilS] 44], [bx b7 #[.i6 y2.2.Code, .i6 y2.2.Index] 29], [bx b6 #[v2] 44], c2, [bx b5 #[.i6 y1.2.Code, .i6 y1.2.Index] 29], [bx b4 #[v1] 44], [bx b3 #[vt_1] 44], [bx b2 #[vq_1] 41], [bx b1 #[vp_1] 41]] fr w := S
      refine dv_nx trivial ?_
      refine dv_et ok1 10 rfl (ev_move rfl) F rfl fun a F=>?_
      refine dv_et ok1 11 rfl (ev_extract rfl rfl) F rfl fun a F=>?_
      refine dv_et ok1 12 rfl (ev_extract rfl rfl) F rfl fun a F=>?_
      refine dv_join (HJ _ _ ?_)
      replace S : St g6 [[bx b9 #[.i6 0, .i6 0] 29], [bx b8 #[nilS] 44], c6, [bx b6 #[v2] 44], c2] fr w := St.tail [[bx b9 #[.i6 0, .i6 0] 29], [bx b8 #[nilS] 44], c6, [bx b6 #[v2] 44], c2] _ (((((S.frontC 5 rfl).frontC 5 rfl).frontC 2 rfl).frontC 5 rfl).frontC 5 rfl)
      exact ⟨v6, b9, b8, c6, g6, F.sub ⟨rfl, rfl, rfl, rfl, rfl, trivial⟩, (l5.trans l6), S, h8, hm⟩
    ·refine wl_alloc (wn rfl) rfl tz29 (cs := [.i6 0, .i6 0]) rfl F S rfl rfl ?_; clear F a S; rintro b9 a w F S
     refine dv_nx ⟨yl_ev rfl rfl (ev_loadA tu44 rfl (cs := [vt_1]) ts44 rfl (box_ptr (cells := [vt_1]) 7 rfl 0 rfl (lb rfl))) F S, yl_ev rfl rfl (ev_load1 tu39 rfl rfl (box_ptr (cells := [vq_1]) 8 rfl 0 rfl (lb rfl))) F S, yl_ev rfl rfl (ev_load1 tu39 rfl rfl (box_ptr (cells := [vp_1]) 9 rfl 0 rfl (lb rfl))) F S, trivial⟩ ?_
     refine dv_fork ok1 3 [13] (fk 3 rfl [(8, .agg #[vt_1]), (5, vq_1)] ?_ (fk 13 rfl [(8, .agg #[vt_1]), (5, vq_1), (2, vp_1)] ?_ trivial))
     ·obtain ⟨cs1, hk1, hr1⟩ := RepSl.reads (hp_1.mono ((l1.trans l2).trans l3))
      refine wl_append (wn rfl) rfl tu39 tu39 te27 (by decide) (by decide) F S rfl rfl (k := 1) rfl h4 hk1 rfl (hr1 _ _ S) hy4 rfl rfl ?_; clear F a S
      rintro v4 c4 a w h5 S F; replace S : St g3 [[bx b9 #[.i6 0, .i6 0] 29], c4, [bx b7 #[.i6 y2.2.Code, .i6 y2.2.Index] 29], [bx b6 #[v2] 44], c2, [bx b5 #[.i6 y1.2.Code, .i6 y1.2.Index] 29], [bx b4 #[v1] 44], [bx b3 #[vt_1] 44], [bx b2 #[vq_1] 41], [bx b1 #[vp_1] 41]] fr w := S
      refine dv_nx ⟨yl_ev rfl rfl (ev_loadA tu44 rfl (cs := [vt_1]) ts44 rfl (box_ptr (cells := [vt_1]) 7 rfl 0 rfl (lb rfl))) F S, yl_ev rfl rfl (ev_load1 tu39 rfl rfl (box_ptr (cells := [vq_1]) 8 rfl 0 rfl (lb rfl))) F S, trivial⟩ ?_
      refine dv_fork ok1 6 [13] (fk 6 rfl [(8, .agg #[vt_1])] ?_ (fk 13 rfl [(8, .agg #[vt_1]), (5, vq_1)] ?_ trivial))
      ·obtain ⟨cs2, hk2, hr2⟩ := RepSl.reads (hq_1.mono ((l1.trans l2).trans l3))
       refine wl_append (wn rfl) rfl tu39 tu39 te27 (by decide) (by decide) F S rfl rfl (k := 1) rfl h5 hk2 rfl (hr2 _ _ S) hy5 rfl rfl ?_; clear F a S
       rintro v5 c5 a w h6 S F; replace S : St g3 [[bx b9 #[.i6 0, .i6 0] 29], c5, [bx b7 #[.i6 y2.2.Code, .i6 y2.2.Index] 29], [bx b6 #[v2] 44], c2, [bx b5 #[.i6 y1.2.Code, .i6 y1.2.Index] 29], [bx b4 #[v1] 44], [bx b3 #[vt_1] 44], [bx b2 #[vq_1] 41], [bx b1 #[vp_1] 41]] fr w := S
       refine dv_nx ⟨yl_ev rfl rfl (ev_loadA tu44 rfl (cs := [vt_1]) ts44 rfl (box_ptr (cells := [vt_1]) 7 rfl 0 rfl (lb rfl))) F S, trivial⟩ ?_
       refine dv_et ok1 7 rfl (ev_build (parts := [(0, .tmp 51)]) (vs := [(0, v5)]) rfl (fun w => tb41_0 v5 (OwnS.isSl h6) w)) F rfl fun a F=>?_
       refine dv_fork ok1 9 [13] (fk 9 rfl [] ?_ (fk 13 rfl [(8, .agg #[vt_1])] ?_ trivial))
       ·obtain ⟨g5, l5, S, h7⟩ : ∃ gz, Le g3 gz ∧ St gz [[bx b9 #[.i6 0, .i6 0] 29], [bx b7 #[.i6 y2.2.Code, .i6 y2.2.Index] 29], [bx b6 #[v2] 44], c2, [bx b5 #[.i6 y1.2.Code, .i6 y1.2.Index] 29], [bx b4 #[v1] 44], [bx b3 #[vt_1] 44], [bx b2 #[vq_1] 41], [bx b1 #[vp_1] 41]] fr w ∧ RepSl gz y5 v5 := ⟨_, Le.add _ _, S.freeze 1 rfl, OwnS.freeze (S.front 1 rfl) h6⟩
        refine wl_call0 (wn rfl) rfl F rfl (treepatch_Apply_ok (fr := (fl [[bx b9 #[.i6 0, .i6 0] 29], [bx b7 #[.i6 y2.2.Code, .i6 y2.2.Index] 29], [bx b6 #[v2] 44], c2, [bx b5 #[.i6 y1.2.Code, .i6 y1.2.Index] 29], [bx b4 #[v1] 44], [bx b3 #[vt_1] 44], [bx b2 #[vq_1] 41], [bx b1 #[vp_1] 41]] fr)) ({ Changes := y5 } : TreePatch) v5 h7 t_ vt_1 (ht_1.mono (((l1.trans l2).trans l3).trans l5)) S hy6) rfl tc18 rfl rfl ?_; clear F a S
        rintro _ a w ⟨g6, v6, c6, l6, S, h8, rfl⟩ F; replace S : St g6 [c6, [bx b9 #[.i6 0, .i6 0] 29], [bx b7 #[.i6 y2.2.Code, .i6 y2.2.Index] 29], [bx b6 #[v2] 44], c2, [bx b5 #[.i6 y1.2.Code, .i6 y1.2.Index] 29], [bx b4 #[v1] 44], [bx b3 #[vt_1] 44], [bx b2 #[vq_1] 41], [bx b1 #[vp_1] 41]] fr w := S
        refine dv_nx trivial ?_
        refine dv_et ok1 10 rfl (ev_move rfl) F rfl fun a F=>?_
        refine dv_et ok1 11 rfl (ev_extract rfl rfl) F rfl fun a F=>?_
        refine dv_et ok1 12 rfl (ev_extract rfl rfl) F rfl fun a F=>?_
        refine dv_op ok1 13 rfl [] ?_
        refine wl_alloc (wn rfl) rfl tz44 (cs := [nilS]) rfl F S rfl rfl ?_; clear F a S; rintro b8 a w F S
        refine dv_nx trivial ?_
        refine dv_join (HJ _ _ ?_)
        replace S : St g6 [[bx b9 #[.i6 0, .i6 0] 29], [bx b8 #[nilS] 44], c6, [bx b6 #[v2] 44], c2] fr w := St.tail [[bx b9 #[.i6 0, .i6 0] 29], [bx b8 #[nilS] 44], c6, [bx b6 #[v2] 44], c2] _ (((((S.frontC 5 rfl).frontC 5 rfl).frontC 3 rfl).frontC 3 rfl).frontC 6 rfl)
        exact ⟨v6, b9, b8, c6, g6, F.sub ⟨rfl, rfl, rfl, rfl, rfl, trivial⟩, (l5.trans l6), S, h8, hm⟩
       ·refine wl_alloc (wn rfl) rfl tz44 (cs := [nilS]) rfl F S rfl rfl ?_; clear F a S; rintro b8 a w F S
        refine dv_nx ⟨yl_ev rfl rfl (ev_loadA tu44 rfl (cs := [vt_1]) ts44 rfl (box_ptr (cells := [vt_1]) 8 rfl 0 rfl (lb rfl))) F S, trivial⟩ ?_
        refine dv_op ok1 9 rfl [] ?_
        obtain ⟨g5, l5, S, h7⟩ : ∃ gz, Le g3 gz ∧ St gz [[bx b8 #[nilS] 44], [bx b9 #[.i6 0, .i6 0] 29], [bx b7 #[.i6 y2.2.Code, .i6 y2.2.Index] 29], [bx b6 #[v2] 44], c2, [bx b5 #[.i6 y1.2.Code, .i6 y1.2.Index] 29], [bx b4 #[v1] 44], [bx b3 #[vt_1] 44], [bx b2 #[vq_1] 41], [bx b1 #[vp_1] 41]] fr w ∧ RepSl gz y5 v5 := ⟨_, Le.add _ _, S.freeze 2 rfl, OwnS.freeze (S.front 2 rfl) h6⟩
        refine wl_call0 (wn rfl) rfl F rfl (treepatch_Apply_ok (fr := (fl [[bx b8 #[nilS] 44], [bx b9 #[.i6 0, .i6 0] 29], [bx b7 #[.i6 y2.2.Code, .i6 y2.2.Index] 29], [bx b6 #[v2] 44], c2, [bx b5 #[.i6 y1.2.Code, .i6 y1.2.Index] 29], [bx b4 #[v1] 44], [bx b3 #[vt_1] 44], [bx b2 #[vq_1] 41], [bx b1 #[vp_1] 41]] fr)) ({ Changes := y5 } : TreePatch) v5 h7 t_ vt_1 (ht_1.mono (((l1.trans l2).trans l3).trans l5)) S hy6) rfl tc18 rfl rfl ?_; clear F a S
        rintro _ a w ⟨g6, v6, c6, l6, S, h8, rfl⟩ F; replace S : St g6 [c6, [bx b8 #[nilS] 44], [bx b9 #[.i6 0, .i6 0] 29], [bx b7 #[.i6 y2.2.Code, .i6 y2.2.Index] 29], [bx b6 #[v2] 44], c2, [bx b5 #[.i6 y1.2.Code, .i6 y1.2.Index] 29], [bx b4 #[v1] 44], [bx b3 #[vt_1] 44], [bx b2 #[vq_1] 41], [bx b1 #[vp_1] 41]] fr w := S
        refine dv_nx trivial ?_
        refine dv_et ok1 10 rfl (ev_move rfl) F rfl fun a F=>?_
        refine dv_et ok1 11 rfl (ev_extract rfl rfl) F rfl fun a F=>?_
        refine dv_et ok1 12 rfl (ev_extract rfl rfl) F rfl fun a F=>?_
        refine dv_join (HJ _ _ ?_)
        replace S : St g6 [[bx b9 #[.i6 0, .i6 0] 29], [bx b8 #[nilS] 44], c6, [bx b6 #[v2] 44], c2] fr w := St.tail [[bx b9 #[.i6 0, .i6 0] 29], [bx b8 #[nilS] 44], c6, [bx b6 #[v2] 44], c2] _ (((((S.frontC 5 rfl).frontC 5 rfl).frontC 2 rfl).frontC 4 rfl).frontC 6 rfl)
        exact ⟨v6, b9, b8, c6, g6, F.sub ⟨rfl, rfl, rfl, rfl, rfl, trivial⟩, (l5.trans l6), S, h8, hm⟩
      ·refine wl_alloc (wn rfl) rfl tz44 (cs := [nilS]) rfl F S rfl rfl ?_; clear F a S; rintro b8 a w F S
       refine dv_nx ⟨yl_ev rfl rfl (ev_loadA tu44 rfl (cs := [vt_1]) ts44 rfl (box_ptr (cells := [vt_1]) 8 rfl 0 rfl (lb rfl))) F S, yl_ev rfl rfl (ev_load1 tu39 rfl rfl (box_ptr (cells := [vq_1]) 9 rfl 0 rfl (lb rfl))) F S, trivial⟩ ?_
       refine dv_op ok1 6 rfl [(8, .agg #[vt_1])] ?_
       obtain ⟨cs2, hk2, hr2⟩ := RepSl.reads (hq_1.mono ((l1.trans l2).trans l3))
       refine wl_append (wn rfl) rfl tu39 tu39 te27 (by decide) (by decide) F S rfl rfl (k := 2) rfl h5 hk2 rfl (hr2 _ _ S) hy5 rfl rfl ?_; clear F a S
       rintro v5 c5 a w h6 S F; replace S : St g3 [[bx b8 #[nilS] 44], [bx b9 #[.i6 0, .i6 0] 29], c5, [bx b7 #[.i6 y2.2.Code, .i6 y2.2.Index] 29], [bx b6 #[v2] 44], c2, [bx b5 #[.i6 y1.2.Code, .i6 y1.2.Index] 29], [bx b4 #[v1] 44], [bx b3 #[vt_1] 44], [bx b2 #[vq_1] 41], [bx b1 #[vp_1] 41]] fr w := S
       refine dv_nx ⟨yl_ev rfl rfl (ev_loadA tu44 rfl (cs := [vt_1]) ts44 rfl (box_ptr (cells := [vt_1]) 8 rfl 0 rfl (lb rfl))) F S, trivial⟩ ?_
       refine dv_et ok1 7 rfl (ev_build (parts := [(0, .tmp 51)]) (vs := [(0, v5)]) rfl (fun w => tb41_0 v5 (OwnS.isSl h6) w)) F rfl fun a F=>?_
       refine dv_op ok1 9 rfl [] ?_
       obtain ⟨g5, l5, S, h7⟩ : ∃ gz, Le g3 gz ∧ St gz [[bx b8 #[nilS] 44], [bx b9 #[.i6 0, .i6 0] 29], [bx b7 #[.i6 y2.2.Code, .i6 y2.2.Index] 29], [bx b6 #[v2] 44], c2, [bx b5 #[.i6 y1.2.Code, .i6 y1.2.Index] 29], [bx b4 #[v1] 44], [bx b3 #[vt_1] 44], [bx b2 #[vq_1] 41], [bx b1 #[vp_1] 41]] fr w ∧ RepSl gz y5 v5 := ⟨_, Le.add _ _, S.freeze 2 rfl, OwnS.freeze (S.front 2 rfl) h6⟩
       refine wl_call0 (wn rfl) rfl F rfl (treepatch_Apply_ok (fr := (fl [[bx b8 #[nilS] 44], [bx b9 #[.i6 0, .i6 0] 29], [bx b7 #[.i6 y2.2.Code, .i6 y2.2.Index] 29], [bx b6 #[v2] 44], c2, [bx b5 #[.i6 y1.2.Code, .i6 y1.2.Index] 29], [bx b4 #[v1] 44], [bx b3 #[vt_1] 44], [bx b2 #[vq_1] 41], [bx b1 #[vp_1] 41]] fr)) ({ Changes := y5 } : TreePatch) v5 h7 t_ vt_1 (ht_1.mono (((l1.trans l2).trans l3).trans l5)) S hy6) rfl tc18 rfl rfl ?_; clear F a S
       rintro _ a w ⟨g6, v6, c6, l6, S, h8, rfl⟩ F; replace S : St g6 [c6, [bx b8 #[nilS] 44], [bx b9 #[.i6 0, .i6 0] 29], [bx b7 #[.i6 y2.2.Code, .i6 y2.2.Index] 29], [bx b6 #[v2] 44], c2, [bx b5 #[.i6 y1.2.Code, .i6 y1.2.Index] 29], [bx b4 #[v1] 44], [bx b3 #[vt_1] 44], [bx b2 #[vq_1] 41], [bx b1 #[vp_1] 41]] fr w := S
       refine dv_nx trivial ?_
       refine dv_et ok1 10 rfl (ev_move rfl) F rfl fun a F=>?_
       refine dv_et ok1 11 rfl (ev_extract rfl rfl) F rfl fun a F=>?_
       refine dv_et ok1 12 rfl (ev_extract rfl rfl) F rfl fun a F=>?_
       refine dv_join (HJ _ _ ?_)
       replace S : St g6 [[bx b9 #[.i6 0, .i6 0] 29], [bx b8 #[nilS] 44], c6, [bx b6 #[v2] 44], c2] fr w := St.tail [[bx b9 #[.i6 0, .i6 0] 29], [bx b8 #[nilS] 44], c6, [bx b6 #[v2] 44], c2] _ (((((S.frontC 5 rfl).frontC 5 rfl).frontC 2 rfl).frontC 4 rfl).frontC 6 rfl)
       exact ⟨v6, b9, b8, c6, g6, F.sub ⟨rfl, rfl, rfl, rfl, rfl, trivial⟩, (l5.trans l6), S, h8, hm⟩
     ·refine wl_alloc (wn rfl) rfl tz44 (cs := [nilS]) rfl F S rfl rfl ?_; clear F a S; rintro b8 a w F S
      refine dv_nx ⟨yl_ev rfl rfl (ev_loadA tu44 rfl (cs := [vt_1]) ts44 rfl (box_ptr (cells := [vt_1]) 8 rfl 0 rfl (lb rfl))) F S, yl_ev rfl rfl (ev_load1 tu39 rfl rfl (box_ptr (cells := [vq_1]) 9 rfl 0 rfl (lb rfl))) F S, yl_ev rfl rfl (ev_load1 tu39 rfl rfl (box_ptr (cells := [vp_1]) 10 rfl 0 rfl (lb rfl))) F S, trivial⟩ ?_
      refine dv_op ok1 3 rfl [(8, .agg #[vt_1]), (5, vq_1)] ?_
      obtain ⟨cs1, hk1, hr1⟩ := RepSl.reads (hp_1.mono ((l1.trans l2).trans l3))
      refine wl_append (wn rfl) rfl tu39 tu39 te27 (by decide) (by decide) F S rfl rfl (k := 2) rfl h4 hk1 rfl (hr1 _ _ S) hy4 rfl rfl ?_; clear F a S
      rintro v4 c4 a w h5 S F; replace S : St g3 [[bx b8 #[nilS] 44], [bx b9 #[.i6 0, .i6 0] 29], c4, [bx b7 #[.i6 y2.2.Code, .i6 y2.2.Index] 29], [bx b6 #[v2] 44], c2, [bx b5 #[.i6 y1.2.Code, .i6 y1.2.Index] 29], [bx b4 #[v1] 44], [bx b3 #[vt_1] 44], [bx b2 #[vq_1] 41], [bx b1 #[vp_1] 41]] fr w := S
      refine dv_nx ⟨yl_ev rfl rfl (ev_loadA tu44 rfl (cs := [vt_1]) ts44 rfl (box_ptr (cells := [vt_1]) 8 rfl 0 rfl (lb rfl))) F S, yl_ev rfl rfl (ev_load1 tu39 rfl rfl (box_ptr (cells := [vq_1]) 9 rfl 0 rfl (lb rfl))) F S, trivial⟩ ?_
      refine dv_op ok1 6 rfl [(8, .agg #[vt_1])] ?_
      obtain ⟨cs2, hk2, hr2⟩ := RepSl.reads (hq_1.mono ((l1.trans l2).trans l3))
      refine wl_append (wn rfl) rfl tu39 tu39 te27 (by decide) (by decide) F S rfl rfl (k := 2) rfl h5 hk2 rfl (hr2 _ _ S) hy5 rfl rfl ?_; clear F a S
      rintro v5 c5 a w h6 S F; replace S : St g3 [[bx b8 #[nilS] 44], [bx b9 #[.i6 0, .i6 0] 29], c5, [bx b7 #[.i6 y2.2.Code, .i6 y2.2.Index] 29], [bx b6 #[v2] 44], c2, [bx b5 #[.i6 y1.2.Code, .i6 y1.2.Index] 29], [bx b4 #[v1] 44], [bx b3 #[vt_1] 44], [bx b2 #[vq_1] 41], [bx b1 #[vp_1] 41]] fr w := S
      refine dv_nx ⟨yl_ev rfl rfl (ev_loadA tu44 rfl (cs := [vt_1]) ts44 rfl (box_ptr (cells := [vt_1]) 8 rfl 0 rfl (lb rfl))) F S, trivial⟩ ?_
      refine dv_et ok1 7 rfl (ev_build (parts := [(0, .tmp 51)]) (vs := [(0, v5)]) rfl (fun w => tb41_0 v5 (OwnS.isSl h6) w)) F rfl fun a F=>?_
      refine dv_op ok1 9 rfl [] ?_
      obtain ⟨g5, l5, S, h7⟩ : ∃ gz, Le g3 gz ∧ St gz [[bx b8 #[nilS] 44], [bx b9 #[.i6 0, .i6 0] 29], [bx b7 #[.i6 y2.2.Code, .i6 y2.2.Index] 29], [bx b6 #[v2] 44], c2, [bx b5 #[.i6 y1.2.Code, .i6 y1.2.Index] 29], [bx b4 #[v1] 44], [bx b3 #[vt_1] 44], [bx b2 #[vq_1] 41], [bx b1 #[vp_1] 41]] fr w ∧ RepSl gz y5 v5 := ⟨_, Le.add _ _, S.freeze 2 rfl, OwnS.freeze (S.front 2 rfl) h6⟩
      refine wl_call0 (wn rfl) rfl F rfl (treepatch_Apply_ok (fr := (fl [[bx b8 #[nilS] 44], [bx b9 #[.i6 0, .i6 0] 29], [bx b7 #[.i6 y2.2.Code, .i6 y2.2.Index] 29], [bx b6 #[v2] 44], c2, [bx b5 #[.i6 y1.2.Code, .i6 y1.2.Index] 29], [bx b4 #[v1] 44], [bx b3 #[vt_1] 44], [bx b2 #[vq_1] 41], [bx b1 #[vp_1] 41]] fr)) ({ Changes := y5 } : TreePatch) v5 h7 t_ vt_1 (ht_1.mono (((l1.trans l2).trans l3).trans l5)) S hy6) rfl tc18 rfl rfl ?_; clear F a S
      rintro _ a w ⟨g6, v6, c6, l6, S, h8, rfl⟩ F; replace S : St g6 [c6, [bx b8 #[nilS] 44], [bx b9 #[.i6 0, .i6 0] 29], [bx b7 #[.i6 y2.2.Code, .i6 y2.2.Index] 29], [bx b6 #[v2] 44], c2, [bx b5 #[.i6 y1.2.Code, .i6 y1.2.Index] 29], [bx b4 #[v1] 44], [bx b3 #[vt_1] 44], [bx b2 #[vq_1] 41], [bx b1 #[vp_1] 41]] fr w := S
      refine dv_nx trivial ?_
      refine dv_et ok1 10 rfl (ev_move rfl) F rfl fun a F=>?_
      refine dv_et ok1 11 rfl (ev_extract rfl rfl) F rfl fun a F=>?_
      refine dv_et ok1 12 rfl (ev_extract rfl rfl) F rfl fun a F=>?_
      refine dv_join (HJ _ _ ?_)
      replace S : St g6 [[bx b9 #[.i6 0, .i6 0] 29], [bx b8 #[nilS] 44], c6, [bx b6 #[v2] 44], c2] fr w := St.tail [[bx b9 #[.i6 0, .i6 0] 29], [bx b8 #[nilS] 44], c6, [bx b6 #[v2] 44], c2] _ (((((S.frontC 5 rfl).frontC 5 rfl).frontC 2 rfl).frontC 4 rfl).frontC 6 rfl)
      exact ⟨v6, b9, b8, c6, g6, F.sub ⟨rfl, rfl, rfl, rfl, rfl, trivial⟩, (l5.trans l6), S, h8, hm⟩
   ·refine wl_alloc (wn rfl) rfl tz44 (cs := [nilS]) rfl F S rfl rfl ?_; clear F a S; rintro b8 a w F S
    refine dv_nx ⟨yl_ev rfl rfl (ev_loadA tu44 rfl (cs := [vt_1]) ts44 rfl (box_ptr (cells := [vt_1]) 6 rfl 0 rfl (lb rfl))) F S, yl_ev rfl rfl (ev_load1 tu39 rfl rfl (box_ptr (cells := [vq_1]) 7 rfl 0 rfl (lb rfl))) F S, yl_ev rfl rfl (ev_load1 tu39 rfl rfl (box_ptr (cells := [vp_1]) 8 rfl 0 rfl (lb rfl))) F S, trivial⟩ ?_
    refine dv_fork ok1 0 [14] (fk 0 rfl [(8, .agg #[vt_1]), (5, vq_1), (2, vp_1)] ?_ (fk 14 rfl [(8, .agg #[vt_1]), (5, vq_1), (2, vp_1)] ?_ trivial))
    ·refine wl_lit (l := ([] : List TreeChange)) (vs := []) (parts := []) (wn rfl) rfl rfl rfl tu39 te27 sz_nil rfl (Cat.nil _) coa_nil rfl F S rfl rfl ?_; clear F a S
     rintro v3 c3 a w h4 F S
     refine dv_nx ⟨yl_ev rfl rfl (ev_loadA tu44 rfl (cs := [vt_1]) ts44 rfl (box_ptr (cells := [vt_1]) 7 rfl 0 rfl (lb rfl))) F S, yl_ev rfl rfl (ev_load1 tu39 rfl rfl (box_ptr (cells := [vq_1]) 8 rfl 0 rfl (lb rfl))) F S, yl_ev rfl rfl (ev_load1 tu39 rfl rfl (box_ptr (cells := [vp_1]) 9 rfl 0 rfl (lb rfl))) F S, trivial⟩ ?_
     refine dv_fork ok1 3 [14] (fk 3 rfl [(8, .agg #[vt_1]), (5, vq_1)] ?_ (fk 14 rfl [(8, .agg #[vt_1]), (5, vq_1), (2, vp_1)] ?_ trivial))
     ·obtain ⟨cs1, hk1, hr1⟩ := RepSl.reads (hp_1.mono ((l1.trans l2).trans l3))
      refine wl_append (wn rfl) rfl tu39 tu39 te27 (by decide) (by decide) F S rfl rfl (k := 0) rfl h4 hk1 rfl (hr1 _ _ S) hy4 rfl rfl ?_; clear F a S
      rintro v4 c4 a w h5 S F; replace S : St g3 [c4, [bx b8 #[nilS] 44], [bx b7 #[.i6 y2.2.Code, .i6 y2.2.Index] 29], [bx b6 #[v2] 44], c2, [bx b5 #[.i6 y1.2.Code, .i6 y1.2.Index] 29], [bx b4 #[v1] 44], [bx b3 #[vt_1] 44], [bx b2 #[vq_1] 41], [bx b1 #[vp_1] 41]] fr w := S
      refine dv_nx ⟨yl_ev rfl rfl (ev_loadA tu44 rfl (cs := [vt_1]) ts44 rfl (box_ptr (cells := [vt_1]) 7 rfl 0 rfl (lb rfl))) F S, yl_ev rfl rfl (ev_load1 tu39 rfl rfl (box_ptr (cells := [vq_1]) 8 rfl 0 rfl (lb rfl))) F S, trivial⟩ ?_
      refine dv_fork ok1 6 [14] (fk 6 rfl [(8, .agg #[vt_1])] ?_ (fk 14 rfl [(8, .agg #[vt_1]), (5, vq_1)] ?_ trivial))
      ·obtain ⟨cs2, hk2, hr2⟩ := RepSl.reads (hq_1.mono ((l1.trans l2).trans l3))
       refine wl_append (wn rfl) rfl tu39 tu39 te27 (by decide) (by decide) F S rfl rfl (k := 0) rfl h5 hk2 rfl (hr2 _ _ S) hy5 rfl rfl ?_; clear F a S
       rintro v5 c5 a w h6 S F; replace S : St g3 [c5, [bx b8 #[nilS] 44], [bx b7 #[.i6 y2.2.Code, .i6 y2.2.Index] 29], [bx b6 #[v2] 44], c2, [bx b5 #[.i6 y1.2.Code, .i6 y1.2.Index] 29], [bx b4 #[v1] 44], [bx b3 #[vt_1] 44], [bx b2 #[vq_1] 41], [bx b1 #[vp_1] 41]] fr w := S
       refine dv_nx ⟨yl_ev rfl rfl (ev_loadA tu44 rfl (cs := [vt_1]) ts44 rfl (box_ptr (cells := [vt_1]) 7 rfl 0 rfl (lb rfl))) F S, trivial⟩ ?_
       refine dv_et ok1 7 rfl (ev_build (parts := [(0, .tmp 51)]) (vs := [(0, v5)]) rfl (fun w => tb41_0 v5 (OwnS.isSl h6) w)) F rfl fun a F=>?_
       refine dv_fork ok1 9 [14] (fk 9 rfl [] ?_ (fk 14 rfl [(8, .agg #[vt_1])] ?_ trivial))
       ·obtain ⟨g5, l5, S, h7⟩ : ∃ gz, Le g3 gz ∧ St gz [[bx b8 #[nilS] 44], [bx b7 #[.i6 y2.2.Code, .i6 y2.2.Index] 29], [bx b6 #[v2] 44], c2, [bx b5 #[.i6 y1.2.Code, .i6 y1.2.Index] 29], [bx b4 #[v1] 44], [bx b3 #[vt_1] 44], [bx b2 #[vq_1] 41], [bx b1 #[vp_1] 41]] fr w ∧ RepSl gz y5 v5 := ⟨_, Le.add _ _, S.freeze 0 rfl, OwnS.freeze (S.front 0 rfl) h6⟩
        refine wl_call0 (wn rfl) rfl F rfl (treepatch_Apply_ok (fr := (fl [[bx b8 #[nilS] 44], [bx b7 #[.i6 y2.2.Code, .i6 y2.2.Index] 29], [bx b6 #[v2] 44], c2, [bx b5 #[.i6 y1.2.Code, .i6 y1.2.Index] 29], [bx b4 #[v1] 44], [bx b3 #[vt_1] 44], [bx b2 #[vq_1] 41], [bx b1 #[vp_1] 41]] fr)) ({ Changes := y5 } : TreePatch) v5 h7 t_ vt_1 (ht_1.mono (((l1.trans l2).trans l3).trans l5)) S hy6) rfl tc18 rfl rfl ?_; clear F a S
        rintro _ a w ⟨g6, v6, c6, l6, S, h8, rfl⟩ F; replace S : St g6 [c6, [bx b8 #[nilS] 44], [bx b7 #[.i6 y2.2.Code, .i6 y2.2.Index] 29], [bx b6 #[v2] 44], c2, [bx b5 #[.i6 y1.2.Code, .i6 y1.2.Index] 29], [bx b4 #[v1] 44], [bx b3 #[vt_1] 44], [bx b2 #[vq_1] 41], [bx b1 #[vp_1] 41]] fr w := S
        refine dv_nx trivial ?_
        refine dv_et ok1 10 rfl (ev_move rfl) F rfl fun a F=>?_
        refine dv_et ok1 11 rfl (ev_extract rfl rfl) F rfl fun a F=>?_
        refine dv_et ok1 12 rfl (ev_extract rfl rfl) F rfl fun a F=>?_
        refine dv_op ok1 14 rfl [] ?_
        refine wl_alloc (wn rfl) rfl tz29 (cs := [.i6 0, .i6 0]) rfl F S rfl rfl ?_; clear F a S; rintro b9 a w F S
        refine dv_nx trivial ?_
        refine dv_join (HJ _ _ ?_)
        replace S : St g6 [[bx b9 #[.i6 0, .i6 0] 29], [bx b8 #[nilS] 44], c6, [bx b6 #[v2] 44], c2] fr w := St.tail [[bx b9 #[.i6 0, .i6 0] 29], [bx b8 #[nilS] 44], c6, [bx b6 #[v2] 44], c2] _ (((((S.frontC 5 rfl).frontC 5 rfl).frontC 3 rfl).frontC 5 rfl).frontC 4 rfl)
        exact ⟨v6, b9, b8, c6, g6, F.sub ⟨rfl, rfl, rfl, rfl, rfl, trivial⟩, (l5.trans l6), S, h8, hm⟩
       ·refine wl_alloc (wn rfl) rfl tz29 (cs := [.i6 0, .i6 0]) rfl F S rfl rfl ?_; clear F a S; rintro b9 a w F S
        refine dv_nx ⟨yl_ev rfl rfl (ev_loadA tu44 rfl (cs := [vt_1]) ts44 rfl (box_ptr (cells := [vt_1]) 8 rfl 0 rfl (lb rfl))) F S, trivial⟩ ?_
        refine dv_op ok1 9 rfl [] ?_
        obtain ⟨g5, l5, S, h7⟩ : ∃ gz, Le g3 gz ∧ St gz [[bx b9 #[.i6 0, .i6 0] 29], [bx b8 #[nilS] 44], [bx b7 #[.i6 y2.2.Code, .i6 y2.2.Index] 29], [bx b6 #[v2] 44], c2, [bx b5 #[.i6 y1.2.Code, .i6 y1.2.Index] 29], [bx b4 #[v1] 44], [bx b3 #[vt_1] 44], [bx b2 #[vq_1] 41], [bx b1 #[vp_1] 41]] fr w ∧ RepSl gz y5 v5 := ⟨_, Le.add _ _, S.freeze 1 rfl, OwnS.freeze (S.front 1 rfl) h6⟩
        refine wl_call0 (wn rfl) rfl F rfl (treepatch_Apply_ok (fr := (fl [[bx b9 #[.i6 0, .i6 0] 29], [bx b8 #[nilS] 44], [bx b7 #[.i6 y2.2.Code, .i6 y2.2.Index] 29], [bx b6 #[v2] 44], c2, [bx b5 #[.i6 y1.2.Code, .i6 y1.2.Index] 29], [bx b4 #[v1] 44], [bx b3 #[vt_1] 44], [bx b2 #[vq_1] 41], [bx b1 #[vp_1] 41]] fr)) ({ Changes := y5 } : TreePatch) v5 h7 t_ vt_1 (ht_1.mono (((l1.trans l2).trans l3).trans l5)) S hy6) rfl tc18 rfl rfl ?_; clear F a S
        rintro _ a w ⟨g6, v6, c6, l6, S, h8, rfl⟩ F; replace S : St g6 [c6, [bx b9 #[.i6 0, .i6 0] 29], [bx b8 #[nilS] 44], [bx b7 #[.i6 y2.2.Code, .i6 y2.2.Index] 29], [bx b6 #[v2] 44], c2, [bx b5 #[.i6 y1.2.Code, .i6 y1.2.Index] 29], [bx b4 #[v1] 44], [bx b3 #[vt_1] 44], [bx b2 #[vq_1] 41], [bx b1 #[vp_1] 41]] fr w := S
        refine dv_nx trivial ?_
        refine dv_et ok1 10 rfl (ev_move rfl) F rfl fun a F=>?_
        refine dv_et ok1 11 rfl (ev_extract rfl rfl) F rfl fun a F=>?_
        refine dv_et ok1 12 rfl (ev_extract rfl rfl) F rfl fun a F=>?_
        refine dv_join (HJ _ _ ?_)
        replace S : St g6 [[bx b9 #[.i6 0, .i6 0] 29], [bx b8 #[nilS] 44], c6, [bx b6 #[v2] 44], c2] fr w := St.tail [[bx b9 #[.i6 0, .i6 0] 29], [bx b8 #[nilS] 44], c6, [bx b6 #[v2] 44], c2] _ (((((S.frontC 5 rfl).frontC 5 rfl).frontC 2 rfl).frontC 5 rfl).frontC 5 rfl)
        exact ⟨v6, b9, b8, c6, g6, F.sub ⟨rfl, rfl, rfl, rfl, rfl, trivial⟩, (l5.trans l6), S, h8, hm⟩
      ·refine wl_alloc (wn rfl) rfl tz29 (cs := [.i6 0, .i6 0]) rfl F S rfl rfl ?_; clear F a S; rintro b9 a w F S
       refine dv_nx ⟨yl_ev rfl rfl (ev_loadA tu44 rfl (cs := [vt_1]) ts44 rfl (box_ptr (cells := [vt_1]) 8 rfl 0 rfl (lb rfl))) F S, yl_ev rfl rfl (ev_load1 tu39 rfl rfl (box_ptr (cells := [vq_1]) 9 rfl 0 rfl (lb rfl))) F S, trivial⟩ ?_
       refine dv_op ok1 6 rfl [(8, .agg #[vt_1])] ?_
       obtain ⟨cs2, hk2, hr2⟩ := RepSl.reads (hq_1.mono ((l1.trans l2).trans l3))
       refine wl_append (wn rfl) rfl tu39 tu39 te27 (by decide) (by decide) F S rfl rfl (k := 1) rfl h5 hk2 rfl (hr2 _ _ S) hy5 rfl rfl ?_; clear F a S
       rintro v5 c5 a w h6 S F; replace S : St g3 [[bx b9 #[.i6 0, .i6 0] 29], c5, [bx b8 #[nilS] 44], [bx b7 #[.i6 y2.2.Code, .i6 y2.2.Index] 29], [bx b6 #[v2] 44], c2, [bx b5 #[.i6 y1.2.Code, .i6 y1.2.Index] 29], [bx b4 #[v1] 44], [bx b3 #[vt_1] 44], [bx b2 #[vq_1] 41], [bx b1 #[vp_1] 41]] fr w := S
       refine dv_nx ⟨yl_ev rfl rfl (ev_loadA tu44 rfl (cs := [vt_1]) ts44 rfl (box_ptr (cells := [vt_1]) 8 rfl 0 rfl (lb rfl))) F S, trivial⟩ ?_
       refine dv_et ok1 7 rfl (ev_build (parts := [(0, .tmp 51)]) (vs := [(0, v5)]) rfl (fun w => tb41_0 v5 (OwnS.isSl h6) w)) F rfl fun a F=>?_
       refine dv_op ok1 9 rfl [] ?_
       obtain ⟨g5, l5, S, h7⟩ : ∃ gz, Le g3 gz ∧ St gz [[bx b9 #[.i6 0, .i6 0] 29], [bx b8 #[nilS] 44], [bx b7 #[.i6 y2.2.Code, .i6 y2.2.Index] 29], [bx b6 #[v2] 44], c2, [bx b5 #[.i6 y1.2.Code, .i6 y1.2.Index] 29], [bx b4 #[v1] 44], [bx b3 #[vt_1] 44], [bx b2 #[vq_1] 41], [bx b1 #[vp_1] 41]] fr w ∧ RepSl gz y5 v5 := ⟨_, Le.add _ _, S.freeze 1 rfl, OwnS.freeze (S.front 1 rfl) h6⟩
       refine wl_call0 (wn rfl) rfl F rfl (treepatch_Apply_ok (fr := (fl [[bx b9 #[.i6 0, .i6 0] 29], [bx b8 #[nilS] 44], [bx b7 #[.i6 y2.2.Code, .i6 y2.2.Index] 29], [bx b6 #[v2] 44], c2, [bx b5 #[.i6 y1.2.Code, .i6 y1.2.Index] 29], [bx b4 #[v1] 44], [bx b3 #[vt_1] 44], [bx b2 #[vq_1] 41], [bx b1 #[vp_1] 41]] fr)) ({ Changes := y5 } : TreePatch) v5 h7 t_ vt_1 (ht_1.mono (((l1.trans l2).trans l3).trans l5)) S hy6) rfl tc18 rfl rfl ?_; clear F a S
       rintro _ a w ⟨g6, v6, c6, l6, S, h8, rfl⟩ F; replace S : St g6 [c6, [bx b9 #[.i6 0, .i6 0] 29], [bx b8 #[nilS] 44], [bx b7 #[.i6 y2.2.Code, .i6 y2.2.Index] 29], [bx b6 #[v2] 44], c2, [bx b5 #[.i6 y1.2.Code, .i6 y1.2.Index] 29], [bx b4 #[v1] 44], [bx b3 #[vt_1] 44], [bx b2 #[vq_1] 41], [bx b1 #[vp_1] 41]] fr w := S
       refine dv_nx trivial ?_
       refine dv_et ok1 10 rfl (ev_move rfl) F rfl fun a F=>?_
       refine dv_et ok1 11 rfl (ev_extract rfl rfl) F rfl fun a F=>?_
       refine dv_et ok1 12 rfl (ev_extract rfl rfl) F rfl fun a F=>?_
       refine dv_join (HJ _ _ ?_)
       replace S : St g6 [[bx b9 #[.i6 0, .i6 0] 29], [bx b8 #[nilS] 44], c6, [bx b6 #[v2] 44], c2] fr w := St.tail [[bx b9 #[.i6 0, .i6 0] 29], [bx b8 #[nilS] 44], c6, [bx b6 #[v2] 44], c2] _ (((((S.frontC 5 rfl).frontC 5 rfl).frontC 2 rfl).frontC 5 rfl).frontC 5 rfl)
       exact ⟨v6, b9, b8, c6, g6, F.sub ⟨rfl, rfl, rfl, rfl, rfl, trivial⟩, (l5.trans l6), S, h8, hm⟩
     ·refine wl_alloc (wn rfl) rfl tz29 (cs := [.i6 0, .i6 0]) rfl F S rfl rfl ?_; clear F a S; rintro b9 a w F S
      refine dv_nx ⟨yl_ev rfl rfl (ev_loadA tu44 rfl (cs := [vt_1]) ts44 rfl (box_ptr (cells := [vt_1]) 8 rfl 0 rfl (lb rfl))) F S, yl_ev rfl rfl (ev_load1 tu39 rfl rfl (box_ptr (cells := [vq_1]) 9 rfl 0 rfl (lb rfl))) F S, yl_ev rfl rfl (ev_load1 tu39 rfl rfl (box_ptr (cells := [vp_1]) 10 rfl 0 rfl (lb rfl))) F S, trivial⟩ ?_
      refine dv_op ok1 3 rfl [(8, .agg #[vt_1]), (5, vq_1)] ?_
      obtain ⟨cs1, hk1, hr1⟩ := RepSl.reads (hp_1.mono ((l1.trans l2).trans l3))
      refine wl_append (wn rfl) rfl tu39 tu39 te27 (by decide) (by decide) F S rfl rfl (k := 1) rfl h4 hk1 rfl (hr1 _ _ S) hy4 rfl rfl ?_; clear F a S
      rintro v4 c4 a w h5 S F; replace S : St g3 [[bx b9 #[.i6 0, .i6 0] 29], c4, [bx b8 #[nilS] 44], [bx b7 #[.i6 y2.2.Code, .i6 y2.2.Index] 29], [bx b6 #[v2] 44], c2, [bx b5 #[.i6 y1.2.Code, .i6 y1.2.Index] 29], [bx b4 #[v1] 44], [bx b3 #[vt_1] 44], [bx b2 #[vq_1] 41], [bx b1 #[vp_1] 41]] fr w := S
      refine dv_nx ⟨yl_ev rfl rfl (ev_loadA tu44 rfl (cs := [vt_1]) ts44 rfl (box_ptr (cells := [vt_1]) 8 rfl 0 rfl (lb rfl))) F S, yl_ev rfl rfl (ev_load1 tu39 rfl rfl (box_ptr (cells := [vq_1]) 9 rfl 0 rfl (lb rfl))) F S, trivial⟩ ?_
      refine dv_op ok1 6 rfl [(8, .agg #[vt_1])] ?_
      obtain ⟨cs2, hk2, hr2⟩ := RepSl.reads (hq_1.mono ((l1.trans l2).trans l3))
      refine wl_append (wn rfl) rfl tu39 tu39 te27 (by decide) (by decide) F S rfl rfl (k := 1) rfl h5 hk2 rfl (hr2 _ _ S) hy5 rfl rfl ?_; clear F a S
      rintro v5 c5 a w h6 S F; replace S : St g3 [[bx b9 #[.i6 0, .i6 0] 29], c5, [bx b8 #[nilS] 44], [bx b7 #[.i6 y2.2.Code, .i6 y2.2.Index] 29], [bx b6 #[v2] 44], c2, [bx b5 #[.i6 y1.2.Code, .i6 y1.2.Index] 29], [bx b4 #[v1] 44], [bx b3 #[vt_1] 44], [bx b2 #[vq_1] 41], [bx b1 #[vp_1] 41]] fr w := S
      refine dv_nx ⟨yl_ev rfl rfl (ev_loadA tu44 rfl (cs := [vt_1]) ts44 rfl (box_ptr (cells := [vt_1]) 8 rfl 0 rfl (lb rfl))) F S, trivial⟩ ?_
      refine dv_et ok1 7 rfl (ev_build (parts := [(0, .tmp 51)]) (vs := [(0, v5)]) rfl (fun w => tb41_0 v5 (OwnS.isSl h6) w)) F rfl fun a F=>?_
      refine dv_op ok1 9 rfl [] ?_
      obtain ⟨g5, l5, S, h7⟩ : ∃ gz, Le g3 gz ∧ St gz [[bx b9 #[.i6 0, .i6 0] 29], [bx b8 #[nilS] 44], [bx b7 #[.i6 y2.2.Code, .i6 y2.2.Index] 29], [bx b6 #[v2] 44], c2, [bx b5 #[.i6 y1.2.Code, .i6 y1.2.Index] 29], [bx b4 #[v1] 44], [bx b3 #[vt_1] 44], [bx b2 #[vq_1] 41], [bx b1 #[vp_1] 41]] fr w ∧ RepSl gz y5 v5 := ⟨_, Le.add _ _, S.freeze 1 rfl, OwnS.freeze (S.front 1 rfl) h6⟩
      refine wl_call0 (wn rfl) rfl F rfl (treepatch_Apply_ok (fr := (fl [[bx b9 #[.i6 0, .i6 0] 29], [bx b8 #[nilS] 44], [bx b7 #[.i6 y2.2.Code, .i6 y2.2.Index] 29], [bx b6 #[v2] 44], c2, [bx b5 #[.i6 y1.2.Code, .i6 y1.2.Index] 29], [bx b4 #[v1] 44], [bx b3 #[vt_1] 44], [bx b2 #[vq_1] 41], [bx b1 #[vp_1] 41]] fr)) ({ Changes := y5 } : TreePatch) v5 h7 t_ vt_1 (ht_1.mono (((l1.trans l2).trans l3).trans l5)) S hy6) rfl tc18 rfl rfl ?_; clear F a S
      rintro _ a w ⟨g6, v6, c6, l6, S, h8, rfl⟩ F; replace S : St g6 [c6, [bx b9 #[.i6 0, .i6 0] 29], [bx b8 #[nilS] 44], [bx b7 #[.i6 y2.2.Code, .i6 y2.2.Index] 29], [bx b6 #[v2] 44], c2, [bx b5 #[.i6 y1.2.Code, .i6 y1.2.Index] 29], [bx b4 #[v1] 44], [bx b3 #[vt_1] 44], [bx b2 #[vq_1] 41], [bx b1 #[vp_1] 41]] fr w := S
      refine dv_nx trivial ?_
      refine dv_et ok1 10 rfl (ev_move rfl) F rfl fun a F=>?_
      refine dv_et ok1 11 rfl (ev_extract rfl rfl) F rfl fun a F=>?_
      refine dv_et ok1 12 rfl (ev_extract rfl rfl) F rfl fun a F=>?_
      refine dv_join (HJ _ _ ?_)
      replace S : St g6 [[bx b9 #[.i6 0, .i6 0] 29], [bx b8 #[nilS] 44], c6, [bx b6 #[v2] 44], c2] fr w := St.tail [[bx b9 #[.i6 0, .i6 0] 29], [bx b8 #[nilS] 44], c6, [bx b6 #[v2] 44], c2] _ (((((S.frontC 5 rfl).frontC 5 rfl).frontC 2 rfl).frontC 5 rfl).frontC 5 rfl)
      exact ⟨v6, b9, b8, c6, g6, F.sub ⟨rfl, rfl, rfl, rfl, rfl, trivial⟩, (l5.trans l6), S, h8, hm⟩
    ·refine wl_alloc (wn rfl) rfl tz29 (cs := [.i6 0, .i6 0]) rfl F S rfl rfl ?_; clear F a S; rintro b9 a w F S
     refine dv_nx ⟨yl_ev rfl rfl (ev_loadA tu44 rfl (cs := [vt_1]) ts44 rfl (box_ptr (cells := [vt_1]) 7 rfl 0 rfl (lb rfl))) F S, yl_ev rfl rfl (ev_load1 tu39 rfl rfl (box_ptr (cells := [vq_1]) 8 rfl 0 rfl (lb rfl))) F S, yl_ev rfl rfl (ev_load1 tu39 rfl rfl (box_ptr (cells := [vp_1]) 9 rfl 0 rfl (lb rfl))) F S, trivial⟩ ?_
     refine dv_op ok1 0 rfl [(8, .agg #[vt_1]), (5, vq_1), (2, vp_1)] ?_
     refine wl_lit (l := ([] : List TreeChange)) (vs := []) (parts := []) (wn rfl) rfl rfl rfl tu39 te27 sz_nil rfl (Cat.nil _) coa_nil rfl F S rfl rfl ?_; clear F a S
     rintro v3 c3 a w h4 F S
     refine dv_nx ⟨yl_ev rfl rfl (ev_loadA tu44 rfl (cs := [vt_1]) ts44 rfl (box_ptr (cells := [vt_1]) 8 rfl 0 rfl (lb rfl))) F S, yl_ev rfl rfl (ev_load1 tu39 rfl rfl (box_ptr (cells := [vq_1]) 9 rfl 0 rfl (lb rfl))) F S, yl_ev rfl rfl (ev_load1 tu39 rfl rfl (box_ptr (cells := [vp_1]) 10 rfl 0 rfl (lb rfl))) F S, trivial⟩ ?_
     refine dv_op ok1 3 rfl [(8, .agg #[vt_1]), (5, vq_1)] ?_
     obtain ⟨cs1, hk1, hr1⟩ := RepSl.reads (hp_1.mono ((l1.trans l2).trans l3))
     refine wl_append (wn rfl) rfl tu39 tu39 te27 (by decide) (by decide) F S rfl rfl (k := 0) rfl h4 hk1 rfl (hr1 _ _ S) hy4 rfl rfl ?_; clear F a S
     rintro v4 c4 a w h5 S F; replace S : St g3 [c4, [bx b9 #[.i6 0, .i6 0] 29], [bx b8 #[nilS] 44], [bx b7 #[.i6 y2.2.Code, .i6 y2.2.Index] 29], [bx b6 #[v2] 44], c2, [bx b5 #[.i6 y1.2.Code, .i6 y1.2.Index] 29], [bx b4 #[v1] 44], [bx b3 #[vt_1] 44], [bx b2 #[vq_1] 41], [bx b1 #[vp_1] 41]] fr w := S
     refine dv_nx ⟨yl_ev rfl rfl (ev_loadA tu44 rfl (cs := [vt_1]) ts44 rfl (box_ptr (cells := [vt_1]) 8 rfl 0 rfl (lb rfl))) F S, yl_ev rfl rfl (ev_load1 tu39 rfl rfl (box_ptr (cells := [vq_1]) 9 rfl 0 rfl (lb rfl))) F S, trivial⟩ ?_
     refine dv_op ok1 6 rfl [(8, .agg #[vt_1])] ?_
     obtain ⟨cs2, hk2, hr2⟩ := RepSl.reads (hq_1.mono ((l1.trans l2).trans l3))
     refine wl_append (wn rfl) rfl tu39 tu39 te27 (by decide) (by decide) F S rfl rfl (k := 0) rfl h5 hk2 rfl (hr2 _ _ S) hy5 rfl rfl ?_; clear F a S
     rintro v5 c5 a w h6 S F; replace S : St g3 [c5, [bx b9 #[.i6 0, .i6 0] 29], [bx b8 #[nilS] 44], [bx b7 #[.i6 y2.2.Code, .i6 y2.2.Index] 29], [bx b6 #[v2] 44], c2, [bx b5 #[.i6 y1.2.Code, .i6 y1.2.Index] 29], [bx b4 #[v1] 44], [bx b3 #[vt_1] 44], [bx b2 #[vq_1] 41], [bx b1 #[vp_1] 41]] fr w := S
     refine dv_nx ⟨yl_ev rfl rfl (ev_loadA tu44 rfl (cs := [vt_1]) ts44 rfl (box_ptr (cells := [vt_1]) 8 rfl 0 rfl (lb rfl))) F S, trivial⟩ ?_
     refine dv_et ok1 7 rfl (ev_build (parts := [(0, .tmp 51)]) (vs := [(0, v5)]) rfl (fun w => tb41_0 v5 (OwnS.isSl h6) w)) F rfl fun a F=>?_
     refine dv_op ok1 9 rfl [] ?_
     obtain ⟨g5, l5, S, h7⟩ : ∃ gz, Le g3 gz ∧ St gz [[bx b9 #[.i6 0, .i6 0] 29], [bx b8 #[nilS] 44], [bx b7 #[.i6 y2.2.Code, .i6 y2.2.Index] 29], [bx b6 #[v2] 44], c2, [bx b5 #[.i6 y1.2.Code, .i6 y1.2.Index] 29], [bx b4 #[v1] 44], [bx b3 #[vt_1] 44], [bx b2 #[vq_1] 41], [bx b1 #[vp_1] 41]] fr w ∧ RepSl gz y5 v5 := ⟨_, Le.add _ _, S.freeze 0 rfl, OwnS.freeze (S.front 0 rfl) h6⟩
     refine wl_call0 (wn rfl) rfl F rfl (treepatch_Apply_ok (fr := (fl [[bx b9 #[.i6 0, .i6 0] 29], [bx b8 #[nilS] 44], [bx b7 #[.i6 y2.2.Code, .i6 y2.2.Index] 29], [bx b6 #[v2] 44], c2, [bx b5 #[.i6 y1.2.Code, .i6 y1.2.Index] 29], [bx b4 #[v1] 44], [bx b3 #[vt_1] 44], [bx b2 #[vq_1] 41], [bx b1 #[vp_1] 41]] fr)) ({ Changes := y5 } : TreePatch) v5 h7 t_ vt_1 (ht_1.mono (((l1.trans l2).trans l3).trans l5)) S hy6) rfl tc18 rfl rfl ?_; clear F a S
     rintro _ a w ⟨g6, v6, c6, l6, S, h8, rfl⟩ F; replace S : St g6 [c6, [bx b9 #[.i6 0, .i6 0] 29], [bx b8 #[nilS] 44], [bx b7 #[.i6 y2.2.Code, .i6 y2.2.Index] 29], [bx b6 #[v2] 44], c2, [bx b5 #[.i6 y1.2.Code, .i6 y1.2.Index] 29], [bx b4 #[v1] 44], [bx b3 #[vt_1] 44], [bx b2 #[vq_1] 41], [bx b1 #[vp_1] 41]] fr w := S
     refine dv_nx trivial ?_
     refine dv_et ok1 10 rfl (ev_move rfl) F rfl fun a F=>?_
     refine dv_et ok1 11 rfl (ev_extract rfl rfl) F rfl fun a F=>?_
     refine dv_et ok1 12 rfl (ev_extract rfl rfl) F rfl fun a F=>?_
     refine dv_join (HJ _ _ ?_)
     replace S : St g6 [[bx b9 #[.i6 0, .i6 0] 29], [bx b8 #[nilS] 44], c6, [bx b6 #[v2] 44], c2] fr w := St.tail [[bx b9 #[.i6 0, .i6 0] 29], [bx b8 #[nilS] 44], c6, [bx b6 #[v2] 44], c2] _ (((((S.frontC 5 rfl).frontC 5 rfl).frontC 2 rfl).frontC 5 rfl).frontC 5 rfl)
     exact ⟨v6, b9, b8, c6, g6, F.sub ⟨rfl, rfl, rfl, rfl, rfl, trivial⟩, (l5.trans l6), S, h8, hm⟩
   ·refine wl_alloc (wn rfl) rfl tz29 (cs := [.i6 0, .i6 0]) rfl F S rfl rfl ?_; clear F a S; rintro b9 a w F S
    refine dv_nx ⟨yl_ev rfl rfl (ev_loadA tu44 rfl (cs := [vt_1]) ts44 rfl (box_ptr (cells := [vt_1]) 6 rfl 0 rfl (lb rfl))) F S, yl_ev rfl rfl (ev_load1 tu39 rfl rfl (box_ptr (cells := [vq_1]) 7 rfl 0 rfl (lb rfl))) F S, yl_ev rfl rfl (ev_load1 tu39 rfl rfl (box_ptr (cells := [vp_1]) 8 rfl 0 rfl (lb rfl))) F S, trivial⟩ ?_
    refine dv_fork ok1 0 [13] (fk 0 rfl [(8, .agg #[vt_1]), (5, vq_1), (2, vp_1)] ?_ (fk 13 rfl [(8, .agg #[vt_1]), (5, vq_1), (2, vp_1)] ?_ trivial))
    ·refine wl_lit (l := ([] : List TreeChange)) (vs := []) (parts := []) (wn rfl) rfl rfl rfl tu39 te27 sz_nil rfl (Cat.nil _) coa_nil rfl F S rfl rfl ?_; clear F a S
     rintro v3 c3 a w h4 F S
     refine dv_nx ⟨yl_ev rfl rfl (ev_loadA tu44 rfl (cs := [vt_1]) ts44 rfl (box_ptr (cells := [vt_1]) 7 rfl 0 rfl (lb rfl))) F S, yl_ev rfl rfl (ev_load1 tu39 rfl rfl (box_ptr (cells := [vq_1]) 8 rfl 0 rfl (lb rfl))) F S, yl_ev rfl rfl (ev_load1 tu39 rfl rfl (box_ptr (cells := [vp_1]) 9 rfl 0 rfl (lb rfl))) F S, trivial⟩ ?_
     refine dv_fork ok1 3 [13] (fk 3 rfl [(8, .agg #[vt_1]), (5, vq_1)] ?_ (fk 13 rfl [(8, .agg #[vt_1]), (5, vq_1), (2, vp_1)] ?_ trivial))
     ·obtain ⟨cs1, hk1, hr1⟩ := RepSl.reads (hp_1.mono ((l1.trans l2).trans l3))
      refine wl_append (wn rfl) rfl tu39 tu39 te27 (by decide) (by decide) F S rfl rfl (k := 0) rfl h4 hk1 rfl (hr1 _ _ S) hy4 rfl rfl ?_; clear F a S
      rintro v4 c4 a w h5 S F; replace S : St g3 [c4, [bx b9 #[.i6 0, .i6 0] 29], [bx b7 #[.i6 y2.2.Code, .i6 y2.2.Index] 29], [bx b6 #[v2] 44], c2, [bx b5 #[.i6 y1.2.Code, .i6 y1.2.Index] 29], [bx b4 #[v1] 44], [bx b3 #[vt_1] 44], [bx b2 #[vq_1] 41], [bx b1 #[vp_1] 41]] fr w := S
      refine dv_nx ⟨yl_ev rfl rfl (ev_loadA tu44 rfl (cs := [vt_1]) ts44 rfl (box_ptr (cells := [vt_1]) 7 rfl 0 rfl (lb rfl))) F S, yl_ev rfl rfl (ev_load1 tu39 rfl rfl (box_ptr (cells := [vq_1]) 8 rfl 0 rfl (lb rfl))) F S, trivial⟩ ?_
      refine dv_fork ok1 6 [13] (fk 6 rfl [(8, .agg #[vt_1])] ?_ (fk 13 rfl [(8, .agg #[vt_1]), (5, vq_1)] ?_ trivial))
      ·obtain ⟨cs2, hk2, hr2⟩ := RepSl.reads (hq_1.mono ((l1.trans l2).trans l3))
       refine wl_append (wn rfl) rfl tu39 tu39 te27 (by decide) (by decide) F S rfl rfl (k := 0) rfl h5 hk2 rfl (hr2 _ _ S) hy5 rfl rfl ?_; clear F a S
       rintro v5 c5 a w h6 S F; replace S : St g3 [c5, [bx b9 #[.i6 0, .i6 0] 29], [bx b7 #[.i6 y2.2.Code, .i6 y2.2.Index] 29], [bx b6 #[v2] 44], c2, [bx b5 #[.i6 y1.2.Code, .i6 y1.2.Index] 29], [bx b4 #[v1] 44], [bx b3 #[vt_1] 44], [bx b2 #[vq_1] 41], [bx b1 #[vp_1] 41]] fr w := S
       refine dv_nx ⟨yl_ev rfl rfl (ev_loadA tu44 rfl (cs := [vt_1]) ts44 rfl (box_ptr (cells := [vt_1]) 7 rfl 0 rfl (lb rfl))) F S, trivial⟩ ?_
       refine dv_et ok1 7 rfl (ev_build (parts := [(0, .tmp 51)]) (vs := [(0, v5)]) rfl (fun w => tb41_0 v5 (OwnS.isSl h6) w)) F rfl fun a F=>?_
       refine dv_fork ok1 9 [13] (fk 9 rfl [] ?_ (fk 13 rfl [(8, .agg #[vt_1])] ?_ trivial))
       ·obtain ⟨g5, l5, S, h7⟩ : ∃ gz, Le g3 gz ∧ St gz [[bx b9 #[.i6 0, .i6 0] 29], [bx b7 #[.i6 y2.2.Code, .i6 y2.2.Index] 29], [bx b6 #[v2] 44], c2, [bx b5 #[.i6 y1.2.Code, .i6 y1.2.Index] 29], [bx b4 #[v1] 44], [bx b3 #[vt_1] 44], [bx b2 #[vq_1] 41], [bx b1 #[vp_1] 41]] fr w ∧ RepSl gz y5 v5 := ⟨_, Le.add _ _, S.freeze 0 rfl, OwnS.freeze (S.front 0 rfl) h6⟩
        refine wl_call0 (wn rfl) rfl F rfl (treepatch_Apply_ok (fr := (fl [[bx b9 #[.i6 0, .i6 0] 29], [bx b7 #[.i6 y2.2.Code, .i6 y2.2.Index] 29], [bx b6 #[v2] 44], c2, [bx b5 #[.i6 y1.2.Code, .i6 y1.2.Index] 29], [bx b4 #[v1] 44], [bx b3 #[vt_1] 44], [bx b2 #[vq_1] 41], [bx b1 #[vp_1] 41]] fr)) ({ Changes := y5 } : TreePatch) v5 h7 t_ vt_1 (ht_1.mono (((l1.trans l2).trans l3).trans l5)) S hy6) rfl tc18 rfl rfl ?_; clear F a S
        rintro _ a w ⟨g6, v6, c6, l6, S, h8, rfl⟩ F; replace S : St g6 [c6, [bx b9 #[.i6 0, .i6 0] 29], [bx b7 #[.i6 y2.2.Code, .i6 y2.2.Index] 29], [bx b6 #[v2] 44], c2, [bx b5 #[.i6 y1.2.Code, .i6 y1.2.Index] 29], [bx b4 #[v1] 44], [bx b3 #[vt_1] 44], [bx b2 #[vq_1] 41], [bx b1 #[vp_1] 41]] fr w := S
        refine dv_nx trivial ?_
        refine dv_et ok1 10 rfl (ev_move rfl) F rfl fun a F=>?_
        refine dv_et ok1 11 rfl (ev_extract rfl rfl) F rfl fun a F=>?_
        refine dv_et ok1 12 rfl (ev_extract rfl rfl) F rfl fun a F=>?_
        refine dv_op ok1 13 rfl [] ?_
        refine wl_alloc (wn rfl) rfl tz44 (cs := [nilS]) rfl F S rfl rfl ?_; clear F a S; rintro b8 a w F S
        refine dv_nx trivial ?_
        refine dv_join (HJ _ _ ?_)
        replace S : St g6 [[bx b9 #[.i6 0, .i6 0] 29], [bx b8 #[nilS] 44], c6, [bx b6 #[v2] 44], c2] fr w := St.tail [[bx b9 #[.i6 0, .i6 0] 29], [bx b8 #[nilS] 44], c6, [bx b6 #[v2] 44], c2] _ (((((S.frontC 5 rfl).frontC 5 rfl).frontC 3 rfl).frontC 3 rfl).frontC 6 rfl)
        exact ⟨v6, b9, b8, c6, g6, F.sub ⟨rfl, rfl, rfl, rfl, rfl, trivial⟩, (l5.trans l6), S, h8, hm⟩
       ·refine wl_alloc (wn rfl) rfl tz44 (cs := [nilS]) rfl F S rfl rfl ?_; clear F a S; rintro b8 a w F S
        refine dv_nx ⟨yl_ev rfl rfl (ev_loadA tu44 rfl (cs := [vt_1]) ts44 rfl (box_ptr (cells := [vt_1]) 8 rfl 0 rfl (lb rfl))) F S, trivial⟩ ?_
        refine dv_op ok1 9 rfl [] ?_
        obtain ⟨g5, l5, S, h7⟩ : ∃ gz, Le g3 gz ∧ St gz [[bx b8 #[nilS] 44], [bx b9 #[.i6 0, .i6 0] 29], [bx b7 #[.i6 y2.2.Code, .i6 y2.2.Index] 29], [bx b6 #[v2] 44], c2, [bx b5 #[.i6 y1.2.Code, .i6 y1.2.Index] 29], [bx b4 #[v1] 44], [bx b3 #[vt_1] 44], [bx b2 #[vq_1] 41], [bx b1 #[vp_1] 41]] fr w ∧ RepSl gz y5 v5 := ⟨_, Le.add _ _, S.freeze 1 rfl, OwnS.freeze (S.front 1 rfl) h6⟩
        refine wl_call0 (wn rfl) rfl F rfl (treepatch_Apply_ok (fr := (fl [[bx b8 #[nilS] 44], [bx b9 #[.i6 0, .i6 0] 29], [bx b7 #[.i6 y2.2.Code, .i6 y2.2.Index] 29], [bx b6 #[v2] 44], c2, [bx b5 #[.i6 y1.2.Code, .i6 y1.2.Index] 29], [bx b4 #[v1] 44], [bx b3 #[vt_1] 44], [bx b2 #[vq_1] 41], [bx b1 #[vp_1] 41]] fr)) ({ Changes := y5 } : TreePatch) v5 h7 t_ vt_1 (ht_1.mono (((l1.trans l2).trans l3).trans l5)) S hy6) rfl tc18 rfl rfl ?_; clear F a S
        rintro _ a w ⟨g6, v6, c6, l6, S, h8, rfl⟩ F; replace S : St g6 [c6, [bx b8 #[nilS] 44], [bx b9 #[.i6 0, .i6 0] 29], [bx b7 #[.i6 y2.2.Code, .i6 y2.2.Index] 29], [bx b6 #[v2] 44], c2, [bx b5 #[.i6 y1.2.Code, .i6 y1.2.Index] 29], [bx b4 #[v1] 44], [bx b3 #[vt_1] 44], [bx b2 #[vq_1] 41], [bx b1 #[vp_1] 41]] fr w := S
        refine dv_nx trivial ?_
        refine dv_et ok1 10 rfl (ev_move rfl) F rfl fun a F=>?_
        refine dv_et ok1 11 rfl (ev_extract rfl rfl) F rfl fun a F=>?_
        refine dv_et ok1 12 rfl (ev_extract rfl rfl) F rfl fun a F=>?_
        refine dv_join (HJ _ _ ?_)
        replace S : St g6 [[bx b9 #[.i6 0, .i6 0] 29], [bx b8 #[nilS] 44], c6, [bx b6 #[v2] 44], c2] fr w := St.tail [[bx b9 #[.i6 0, .i6 0] 29], [bx b8 #[nilS] 44], c6, [bx b6 #[v2] 44], c2] _ (((((S.frontC 5 rfl).frontC 5 rfl).frontC 2 rfl).frontC 4 rfl).frontC 6 rfl)
        exact ⟨v6, b9, b8, c6, g6, F.sub ⟨rfl, rfl, rfl, rfl, rfl, trivial⟩, (l5.trans l6), S, h8, hm⟩
      ·refine wl_alloc (wn rfl) rfl tz44 (cs := [nilS]) rfl F S rfl rfl ?_; clear F a S; rintro b8 a w F S
       refine dv_nx ⟨yl_ev rfl rfl (ev_loadA tu44 rfl (cs := [vt_1]) ts44 rfl (box_ptr (cells := [vt_1]) 8 rfl 0 rfl (lb rfl))) F S, yl_ev rfl rfl (ev_load1 tu39 rfl rfl (box_ptr (cells := [vq_1]) 9 rfl 0 rfl (lb rfl))) F S, trivial⟩ ?_
       refine dv_op ok1 6 rfl [(8, .agg #[vt_1])] ?_
       obtain ⟨cs2, hk2, hr2⟩ := RepSl.reads (hq_1.mono ((l1.trans l2).trans l3))
       refine wl_append (wn rfl) rfl tu39 tu39 te27 (by decide) (by decide) F S rfl rfl (k := 1) rfl h5 hk2 rfl (hr2 _ _ S) hy5 rfl rfl ?_; clear F a S
       rintro v5 c5 a w h6 S F; replace S : St g3 [[bx b8 #[nilS] 44], c5, [bx b9 #[.i6 0, .i6 0] 29], [bx b7 #[.i6 y2.2.Code, .i6 y2.2.Index] 29], [bx b6 #[v2] 44], c2, [bx b5 #[.i6 y1.2.Code, .i6 y1.2.Index] 29], [bx b4 #[v1] 44], [bx b3 #[vt_1] 44], [bx b2 #[vq_1] 41], [bx b1 #[vp_1] 41]] fr w := S
       refine dv_nx ⟨yl_ev rfl rfl (ev_loadA tu44 rfl (cs := [vt_1]) ts44 rfl (box_ptr (cells := [vt_1]) 8 rfl 0 rfl (lb rfl))) F S, trivial⟩ ?_
       refine dv_et ok1 7 rfl (ev_build (parts := [(0, .tmp 51)]) (vs := [(0, v5)]) rfl (fun w => tb41_0 v5 (OwnS.isSl h6) w)) F rfl fun a F=>?_
       refine dv_op ok1 9 rfl [] ?_
       obtain ⟨g5, l5, S, h7⟩ : ∃ gz, Le g3 gz ∧ St gz [[bx b8 #[nilS] 44], [bx b9 #[.i6 0, .i6 0] 29], [bx b7 #[.i6 y2.2.Code, .i6 y2.2.Index] 29], [bx b6 #[v2] 44], c2, [bx b5 #[.i6 y1.2.Code, .i6 y1.2.Index] 29], [bx b4 #[v1] 44], [bx b3 #[vt_1] 44], [bx b2 #[vq_1] 41], [bx b1 #[vp_1] 41]] fr w ∧ RepSl gz y5 v5 := ⟨_, Le.add _ _, S.freeze 1 rfl, OwnS.freeze (S.front 1 rfl) h6⟩
       refine wl_call0 (wn rfl) rfl F rfl (treepatch_Apply_ok (fr := (fl [[bx b8 #[nilS] 44], [bx b9 #[.i6 0, .i6 0] 29], [bx b7 #[.i6 y2.2.Code, .i6 y2.2.Index] 29], [bx b6 #[v2] 44], c2, [bx b5 #[.i6 y1.2.Code, .i6 y1.2.Index] 29], [bx b4 #[v1] 44], [bx b3 #[vt_1] 44], [bx b2 #[vq_1] 41], [bx b1 #[vp_1] 41]] fr)) ({ Changes := y5 } : TreePatch) v5 h7 t_ vt_1 (ht_1.mono (((l1.trans l2).trans l3).trans l5)) S hy6) rfl tc18 rfl rfl ?_; clear F a S
       rintro _ a w ⟨g6, v6, c6, l6, S, h8, rfl⟩ F; replace S : St g6 [c6, [bx b8 #[nilS] 44], [bx b9 #[.i6 0, .i6 0] 29], [bx b7 #[.i6 y2.2.Code, .i6 y2.2.Index] 29], [bx b6 #[v2] 44], c2, [bx b5 #[.i6 y1.2.Code, .i6 y1.2.Index] 29], [bx b4 #[v1] 44], [bx b3 #[vt_1] 44], [bx b2 #[vq_1] 41], [bx b1 #[vp_1] 41]] fr w := S
       refine dv_nx trivial ?_
       refine dv_et ok1 10 rfl (ev_move rfl) F rfl fun a F=>?_
       refine dv_et ok1 11 rfl (ev_extract rfl rfl) F rfl fun a F=>?_
       refine dv_et ok1 12 rfl (ev_extract rfl rfl) F rfl fun a F=>?_
       refine dv_join (HJ _ _ ?_)
       replace S : St g6 [[bx b9 #[.i6 0, .i6 0] 29], [bx b8 #[nilS] 44], c6, [bx b6 #[v2] 44], c2] fr w := St.tail [[bx b9 #[.i6 0, .i6 0] 29], [bx b8 #[nilS] 44], c6, [bx b6 #[v2] 44], c2] _ (((((S.frontC 5 rfl).frontC 5 rfl).frontC 2 rfl).frontC 4 rfl).frontC 6 rfl)
       exact ⟨v6, b9, b8, c6, g6, F.sub ⟨rfl, rfl, rfl, rfl, rfl, trivial⟩, (l5.trans l6), S, h8, hm⟩
     ·refine wl_alloc (wn rfl) rfl tz44 (cs := [nilS]) rfl F S rfl rfl ?_; clear F a S; rintro b8 a w F S
      refine dv_nx ⟨yl_ev rfl rfl (ev_loadA tu44 rfl (cs := [vt_1]) ts44 rfl (box_ptr (cells := [vt_1]) 8 rfl 0 rfl (lb rfl))) F S, yl_ev rfl rfl (ev_load1 tu39 rfl rfl (box_ptr (cells := [vq_1]) 9 rfl 0 rfl (lb rfl))) F S, yl_ev rfl rfl (ev_load1 tu39 rfl rfl (box_ptr (cells := [vp_1]) 10 rfl 0 rfl (lb rfl))) F S, trivial⟩ ?_
      refine dv_op ok1 3 rfl [(8, .agg #[vt_1]), (5, vq_1)] ?_
      obtain ⟨cs1, hk1, hr1⟩ := RepSl.reads (hp_1.mono ((l1.trans l2).trans l3))
      refine wl_append (wn rfl) rfl tu39 tu39 te27 (by decide) (by decide) F S rfl rfl (k := 1) rfl h4 hk1 rfl (hr1 _ _ S) hy4 rfl rfl ?_; clear F a S
      rintro v4 c4 a w h5 S F; replace S : St g3 [[bx b8 #[nilS] 44], c4, [bx b9 #[.i6 0, .i6 0] 29], [bx b7 #[.i6 y2.2.Code, .i6 y2.2.Index] 29], [bx b6 #[v2] 44], c2, [bx b5 #[.i6 y1.2.Code, .i6 y1.2.Index] 29], [bx b4 #[v1] 44], [bx b3 #[vt_1] 44], [bx b2 #[vq_1] 41], [bx b1 #[vp_1] 41]] fr w := S
      refine dv_nx ⟨yl_ev rfl rfl (ev_loadA tu44 rfl (cs := [vt_1]) ts44 rfl (box_ptr (cells := [vt_1]) 8 rfl 0 rfl (lb rfl))) F S, yl_ev rfl rfl (ev_load1 tu39 rfl rfl (box_ptr (cells := [vq_1]) 9 rfl 0 rfl (lb rfl))) F S, trivial⟩ ?_
      refine dv_op ok1 6 rfl [(8, .agg #[vt_1])] ?_
      obtain ⟨cs2, hk2, hr2⟩ := RepSl.reads (hq_1.mono ((l1.trans l2).trans l3))
      refine wl_append (wn rfl) rfl tu39 tu39 te27 (by decide) (by decide) F S rfl rfl (k := 1) rfl h5 hk2 rfl (hr2 _ _ S) hy5 rfl rfl ?_; clear F a S
      rintro v5 c5 a w h6 S F; replace S : St g3 [[bx b8 #[nilS] 44], c5, [bx b9 #[.i6 0, .i6 0] 29], [bx b7 #[.i6 y2.2.Code, .i6 y2.2.Index] 29], [bx b6 #[v2] 44], c2, [bx b5 #[.i6 y1.2.Code, .i6 y1.2.Index] 29], [bx b4 #[v1] 44], [bx b3 #[vt_1] 44], [bx b2 #[vq_1] 41], [bx b1 #[vp_1] 41]] fr w := S
      refine dv_nx ⟨yl_ev rfl rfl (ev_loadA tu44 rfl (cs := [vt_1]) ts44 rfl (box_ptr (cells := [vt_1]) 8 rfl 0 rfl (lb rfl))) F S, trivial⟩ ?_
      refine dv_et ok1 7 rfl (ev_build (parts := [(0, .tmp 51)]) (vs := [(0, v5)]) rfl (fun w => tb41_0 v5 (OwnS.isSl h6) w)) F rfl fun a F=>?_
      refine dv_op ok1 9 rfl [] ?_
      obtain ⟨g5, l5, S, h7⟩ : ∃ gz, Le g3 gz ∧ St gz [[bx b8 #[nilS] 44], [bx b9 #[.i6 0, .i6 0] 29], [bx b7 #[.i6 y2.2.Code, .i6 y2.2.Index] 29], [bx b6 #[v2] 44], c2, [bx b5 #[.i6 y1.2.Code, .i6 y1.2.Index] 29], [bx b4 #[v1] 44], [bx b3 #[vt_1] 44], [bx b2 #[vq_1] 41], [bx b1 #[vp_1] 41]] fr w ∧ RepSl gz y5 v5 := ⟨_, Le.add _ _, S.freeze 1 rfl, OwnS.freeze (S.front 1 rfl) h6⟩
      refine wl_call0 (wn rfl) rfl F rfl (treepatch_Apply_ok (fr := (fl [[bx b8 #[nilS] 44], [bx b9 #[.i6 0, .i6 0] 29], [bx b7 #[.i6 y2.2.Code, .i6 y2.2.Index] 29], [bx b6 #[v2] 44], c2, [bx b5 #[.i6 y1.2.Code, .i6 y1.2.Index] 29], [bx b4 #[v1] 44], [bx b3 #[vt_1] 44], [bx b2 #[vq_1] 41], [bx b1 #[vp_1] 41]] fr)) ({ Changes := y5 } : TreePatch) v5 h7 t_ vt_1 (ht_1.mono (((l1.trans l2).trans l3).trans l5)) S hy6) rfl tc18 rfl rfl ?_; clear F a S
      rintro _ a w ⟨g6, v6, c6, l6, S, h8, rfl⟩ F; replace S : St g6 [c6, [bx b8 #[nilS] 44], [bx b9 #[.i6 0, .i6 0] 29], [bx b7 #[.i6 y2.2.Code, .i6 y2.2.Index] 29], [bx b6 #[v2] 44], c2, [bx b5 #[.i6 y1.2.Code, .i6 y1.2.Index] 29], [bx b4 #[v1] 44], [bx b3 #[vt_1] 44], [bx b2 #[vq_1] 41], [bx b1 #[vp_1] 41]] fr w := S
      refine dv_nx trivial ?_
      refine dv_et ok1 10 rfl (ev_move rfl) F rfl fun a F=>?_
      refine dv_et ok1 11 rfl (ev_extract rfl rfl) F rfl fun a F=>?_
      refine dv_et ok1 12 rfl (ev_extract rfl rfl) F rfl fun a F=>?_
      refine dv_join (HJ _ _ ?_)
      replace S : St g6 [[bx b9 #[.i6 0, .i6 0] 29], [bx b8 #[nilS] 44], c6, [bx b6 #[v2] 44], c2] fr w := St.tail [[bx b9 #[.i6 0, .i6 0] 29], [bx b8 #[nilS] 44], c6, [bx b6 #[v2] 44], c2] _ (((((S.frontC 5 rfl).frontC 5 rfl).frontC 2 rfl).frontC 4 rfl).frontC 6 rfl)
      exact ⟨v6, b9, b8, c6, g6, F.sub ⟨rfl, rfl, rfl, rfl, rfl, trivial⟩, (l5.trans l6), S, h8, hm⟩
    ·refine wl_alloc (wn rfl) rfl tz44 (cs := [nilS]) rfl F S rfl rfl ?_; clear F a S; rintro b8 a w F S
     refine dv_nx ⟨yl_ev rfl rfl (ev_loadA tu44 rfl (cs := [vt_1]) ts44 rfl (box_ptr (cells := [vt_1]) 7 rfl 0 rfl (lb rfl))) F S, yl_ev rfl rfl (ev_load1 tu39 rfl rfl (box_ptr (cells := [vq_1]) 8 rfl 0 rfl (lb rfl))) F S, yl_ev rfl rfl (ev_load1 tu39 rfl rfl (box_ptr (cells := [vp_1]) 9 rfl 0 rfl (lb rfl))) F S, trivial⟩ ?_
     refine dv_op ok1 0 rfl [(8, .agg #[vt_1]), (5, vq_1), (2, vp_1)] ?_
     refine wl_lit (l := ([] : List TreeChange)) (vs := []) (parts := []) (wn rfl) rfl rfl rfl tu39 te27 sz_nil rfl (Cat.nil _) coa_nil rfl F S rfl rfl ?_; clear F a S
     rintro v3 c3 a w h4 F S
     refine dv_nx ⟨yl_ev rfl rfl (ev_loadA tu44 rfl (cs := [vt_1]) ts44 rfl (box_ptr (cells := [vt_1]) 8 rfl 0 rfl (lb rfl))) F S, yl_ev rfl rfl (ev_load1 tu39 rfl rfl (box_ptr (cells := [vq_1]) 9 rfl 0 rfl (lb rfl))) F S, yl_ev rfl rfl (ev_load1 tu39 rfl rfl (box_ptr (cells := [vp_1]) 10 rfl 0 rfl (lb rfl))) F S, trivial⟩ ?_
     refine dv_op ok1 3 rfl [(8, .agg #[vt_1]), (5, vq_1)] ?_
     obtain ⟨cs1, hk1, hr1⟩ := RepSl.reads (hp_1.mono ((l1.trans l2).trans l3))
     refine wl_append (wn rfl) rfl tu39 tu39 te27 (by decide) (by decide) F S rfl rfl (k := 0) rfl h4 hk1 rfl (hr1 _ _ S) hy4 rfl rfl ?_; clear F a S
     rintro v4 c4 a w h5 S F; replace S : St g3 [c4, [bx b8 #[nilS] 44], [bx b9 #[.i6 0, .i6 0] 29], [bx b7 #[.i6 y2.2.Code, .i6 y2.2.Index] 29], [bx b6 #[v2] 44], c2, [bx b5 #[.i6 y1.2.Code, .i6 y1.2.Index] 29], [bx b4 #[v1] 44], [bx b3 #[vt_1] 44], [bx b2 #[vq_1] 41], [bx b1 #[vp_1] 41]] fr w := S
     refine dv_nx ⟨yl_ev rfl rfl (ev_loadA tu44 rfl (cs := [vt_1]) ts44 rfl (box_ptr (cells := [vt_1]) 8 rfl 0 rfl (lb rfl))) F S, yl_ev rfl rfl (ev_load1 tu39 rfl rfl (box_ptr (cells := [vq_1]) 9 rfl 0 rfl (lb rfl))) F S, trivial⟩ ?_
     refine dv_op ok1 6 rfl [(8, .agg #[vt_1])] ?_
     obtain ⟨cs2, hk2, hr2⟩ := RepSl.reads (hq_1.mono ((l1.trans l2).trans l3))
     refine wl_append (wn rfl) rfl tu39 tu39 te27 (by decide) (by decide) F S rfl rfl (k := 0) rfl h5 hk2 rfl (hr2 _ _ S) hy5 rfl rfl ?_; clear F a S
     rintro v5 c5 a w h6 S F; replace S : St g3 [c5, [bx b8 #[nilS] 44], [bx b9 #[.i6 0, .i6 0] 29], [bx b7 #[.i6 y2.2.Code, .i6 y2.2.Index] 29], [bx b6 #[v2] 44], c2, [bx b5 #[.i6 y1.2.Code, .i6 y1.2.Index] 29], [bx b4 #[v1] 44], [bx b3 #[vt_1] 44], [bx b2 #[vq_1] 41], [bx b1 #[vp_1] 41]] fr w := S
     refine dv_nx ⟨yl_ev rfl rfl (ev_loadA tu44 rfl (cs := [vt_1]) ts44 rfl (box_ptr (cells := [vt_1]) 8 rfl 0 rfl (lb rfl))) F S, trivial⟩ ?_
     refine dv_et ok1 7 rfl (ev_build (parts := [(0, .tmp 51)]) (vs := [(0, v5)]) rfl (fun w => tb41_0 v5 (OwnS.isSl h6) w)) F rfl fun a F=>?_
     refine dv_op ok1 9 rfl [] ?_
     obtain ⟨g5, l5, S, h7⟩ : ∃ gz, Le g3 gz ∧ St gz [[bx b8 #[nilS] 44], [bx b9 #[.i6 0, .i6 0] 29], [bx b7 #[.i6 y2.2.Code, .i6 y2.2.Index] 29], [bx b6 #[v2] 44], c2, [bx b5 #[.i6 y1.2.Code, .i6 y1.2.Index] 29], [bx b4 #[v1] 44], [bx b3 #[vt_1] 44], [bx b2 #[vq_1] 41], [bx b1 #[vp_1] 41]] fr w ∧ RepSl gz y5 v5 := ⟨_, Le.add _ _, S.freeze 0 rfl, OwnS.freeze (S.front 0 rfl) h6⟩
     refine wl_call0 (wn rfl) rfl F rfl (treepatch_Apply_ok (fr := (fl [[bx b8 #[nilS] 44], [bx b9 #[.i6 0, .i6 0] 29], [bx b7 #[.i6 y2.2.Code, .i6 y2.2.Index] 29], [bx b6 #[v2] 44], c2, [bx b5 #[.i6 y1.2.Code, .i6 y1.2.Index] 29], [bx b4 #[v1] 44], [bx b3 #[vt_1] 44], [bx b2 #[vq_1] 41], [bx b1 #[vp_1] 41]] fr)) ({ Changes := y5 } : TreePatch) v5 h7 t_ vt_1 (ht_1.mono (((l1.trans l2).trans l3).trans l5)) S hy6) rfl tc18 rfl rfl ?_; clear F a S
     rintro _ a w ⟨g6, v6, c6, l6, S, h8, rfl⟩ F; replace S : St g6 [c6, [bx b8 #[nilS] 44], [bx b9 #[.i6 0, .i6 0] 29], [bx b7 #[.i6 y2.2.Code, .i6 y2.2.Index] 29], [bx b6 #[v2] 44], c2, [bx b5 #[.i6 y1.2.Code, .i6 y1.2.Index] 29], [bx b4 #[v1] 44], [bx b3 #[vt_1] 44], [bx b2 #[vq_1] 41], [bx b1 #[vp_1] 41]] fr w := S
     refine dv_nx trivial ?_
     refine dv_et ok1 10 rfl (ev_move rfl) F rfl fun a F=>?_
     refine dv_et ok1 11 rfl (ev_extract rfl rfl) F rfl fun a F=>?_
     refine dv_et ok1 12 rfl (ev_extract rfl rfl) F rfl fun a F=>?_
     refine dv_join (HJ _ _ ?_)
     replace S : St g6 [[bx b9 #[.i6 0, .i6 0] 29], [bx b8 #[nilS] 44], c6, [bx b6 #[v2] 44], c2] fr w := St.tail [[bx b9 #[.i6 0, .i6 0] 29], [bx b8 #[nilS] 44], c6, [bx b6 #[v2] 44], c2] _ (((((S.frontC 5 rfl).frontC 5 rfl).frontC 2 rfl).frontC 4 rfl).frontC 6 rfl)
     exact ⟨v6, b9, b8, c6, g6, F.sub ⟨rfl, rfl, rfl, rfl, rfl, trivial⟩, (l5.trans l6), S, h8, hm⟩
  ·clear F S hm; rintro a w ⟨v7, b10, b11, c7, g7, F, l7, S, h9, hm⟩
   refine dv_op ok1 15 rfl [] ?_
   refine wl_storeC (wn rfl) rfl F S rfl rfl (vs := [v7]) rfl ts44 (one_cons (OwnS.one h9) one_nil) (k := 1) rfl (lb rfl) (c' := #[v7]) rfl rfl ?_; clear S; intro w S
   refine dv_nx trivial ?_
   refine dv_op ok1 16 rfl [] ?_
   refine wl_storeC (wn rfl) rfl F S rfl rfl (vs := [.i6 y6.2.Code, .i6 y6.2.Index]) rfl ts29 (one_cons rfl (one_cons rfl one_nil)) (k := 0) rfl (lb rfl) (c' := #[.i6 y6.2.Code, .i6 y6.2.Index]) rfl rfl ?_; clear S; intro w S
   refine dv_nx trivial ?_
   refine dv_fin ok1 ?_
   refine then_n ?_
   refine wp_seq ?_
   refine wp_region_lit ?_
   refine wE (ev_fieldAddr' tu29 tf29_0 (z := 0) ts3 rfl ⟨_, rfl⟩ rfl) F S rfl fun a F=>?_
   refine wE (ev_load1 tu3 rfl rfl (box_ptr (cells := [.i6 y6.2.Code]) 0 rfl 0 rfl (lb rfl))) F S rfl fun a F=>?_
   refine wE (ev_int rfl rfl (bo_eql _ _ _ _)) F S rfl fun a F=>?_
   refine wE (ev_move rfl) F S rfl fun a F=>?_
   obtain ⟨g8, l8, S, h10⟩ : ∃ gz, Le g7 gz ∧ St gz [[bx b10 #[.i6 y6.2.Code, .i6 y6.2.Index] 29], [bx b11 #[v7] 44], [bx b6 #[v2] 44], c2] fr w ∧ RepSl gz y6.1.Files v7 := ⟨_, Le.add _ _, S.freeze 2 rfl, OwnS.freeze (S.front 2 rfl) h9⟩
   obtain ⟨g9, l9, S, h11⟩ : ∃ gz, Le g8 gz ∧ St gz [[bx b10 #[.i6 y6.2.Code, .i6 y6.2.Index] 29], [bx b11 #[v7] 44], [bx b6 #[v2] 44]] fr w ∧ RepSl gz y2.1.Files v2 := ⟨_, Le.add _ _, S.freeze 3 rfl, OwnS.freeze (S.front 3 rfl) (h3.mono (l7.trans l8))⟩
   obtain ⟨x4, hx3, hm⟩ := bind_some hm
   refine wl_cut 4 (fun a w => ∃ g10, Fr 68 a [(64, .bool x4)] ∧ Le g9 g10 ∧ St g10 [[bx b10 #[.i6 y6.2.Code, .i6 y6.2.Index] 29], [bx b11 #[v7] 44], [bx b6 #[v2] 44]] fr w) ?_ ?_
   ·clear hm; obtain ⟨hc4, hm⟩ | ⟨hc4, hm⟩ := ite_or hx3
    ·refine wl_ev (wg F rfl rfl rfl rfl hc4) (ev_loadA tu44 rfl (cs := [v7]) ts44 rfl (box_ptr (cells := [v7]) 1 rfl 0 rfl (lb rfl))) F S rfl rfl ?_; clear F a; intro a F
     refine wl_ev (wg F rfl rfl rfl rfl hc4) (ev_loadA tu44 rfl (cs := [v2]) ts44 rfl (box_ptr (cells := [v2]) 2 rfl 0 rfl (lb rfl))) F S rfl rfl ?_; clear F a; intro a F
     obtain ⟨y7, hy7, hm⟩ := bind_some hm
     refine wl_call0 (wg F rfl rfl rfl rfl hc4) rfl F rfl (changeforgeequal_Tree_ok (fr := (fl [[bx b10 #[.i6 y6.2.Code, .i6 y6.2.Index] 29], [bx b11 #[v7] 44], [bx b6 #[v2] 44]] fr)) y6.1 v7 (h10.mono l9) y2.1 v2 h11 S hy7) rfl tc26 rfl rfl ?_; clear F a S
     rintro _ a w ⟨g11, l11, S, rfl⟩ F; replace S : St g11 [[bx b10 #[.i6 y6.2.Code, .i6 y6.2.Index] 29], [bx b11 #[v7] 44], [bx b6 #[v2] 44]] fr w := S
     refine wE (ev_pickT rfl hc4 rfl) F S rfl fun a F=>?_
     obtain rfl := sinj hm
     refine wpList_nil (then_n ?_); exact ⟨g11, F.sub ⟨rfl, trivial⟩, l11, S⟩
    ·refine wl_skip rfl rfl rfl rfl (ne_tf hc4) F rfl rfl ?_; clear F a; intro a F
     refine wl_skip rfl rfl rfl rfl (ne_tf hc4) F rfl rfl ?_; clear F a; intro a F
     refine wl_skip rfl rfl rfl rfl (ne_tf hc4) F rfl rfl ?_; clear F a; intro a F
     refine wE (ev_pickF rfl hc4 rfl) F S rfl fun a F=>?_
     obtain rfl := sinj hm
     refine wpList_nil (then_n ?_); exact ⟨g9, F.sub ⟨rfl, trivial⟩, (Le.refl _), S⟩
   clear F S; rintro a w ⟨g10, F, l10, S⟩
   refine wE (ev_move rfl) F S rfl fun a F=>?_
   obtain ⟨x5, hx4, hm⟩ := bind_some hm
   refine wl_cut 2 (fun a w => ∃ g12, Fr 68 a [(67, .bool x5)] ∧ Le g10 g12 ∧ St g12 [[bx b10 #[.i6 y6.2.Code, .i6 y6.2.Index] 29], [bx b11 #[v7] 44], [bx b6 #[v2] 44]] fr w) ?_ ?_
   ·clear hm; obtain ⟨hc5, hm⟩ | ⟨hc5, hm⟩ := ite_or hx4
    ·obtain ⟨y8, hy8, hm⟩ := bind_some hm
     refine wl_call0 (wg F rfl rfl rfl rfl hc5) rfl F rfl (changeforgelaw2_renamed_ok (fr := (fl [[bx b10 #[.i6 y6.2.Code, .i6 y6.2.Index] 29], [bx b11 #[v7] 44], [bx b6 #[v2] 44]] fr))  S hy8) rfl tc27 rfl rfl ?_; clear F a S
     rintro _ a w ⟨g13, l13, S, rfl⟩ F; replace S : St g13 [[bx b10 #[.i6 y6.2.Code, .i6 y6.2.Index] 29], [bx b11 #[v7] 44], [bx b6 #[v2] 44]] fr w := S
     refine wE (ev_pickT rfl hc5 rfl) F S rfl fun a F=>?_
     obtain rfl := sinj hm
     refine wpList_nil (then_n ?_); exact ⟨g13, F.sub ⟨rfl, trivial⟩, l13, S⟩
    ·refine wl_skip rfl rfl rfl rfl (ne_tf hc5) F rfl rfl ?_; clear F a; intro a F
     refine wE (ev_pickF rfl hc5 rfl) F S rfl fun a F=>?_
     obtain rfl := sinj hm
     refine wpList_nil (then_n ?_); exact ⟨g10, F.sub ⟨rfl, trivial⟩, (Le.refl _), S⟩
   clear F S; rintro a w ⟨g12, F, l12, S⟩
   refine wE (ev_assign rfl) F S rfl fun a F=>?_
   refine wpList_nil ?_
   refine then_n ?_
   refine wp_ret ?_
   obtain rfl := sinj hm
   refine post_r _ F rfl (ar_cons (resT rfl) ar_nil) ?_
   replace S : St g12 [] fr w := St.tail [] _ S
   exact ⟨_, rfl, g12, (((((((l1.trans l2).trans l3).trans l7).trans l8).trans l9).trans l10).trans l12), S, rfl⟩
end Go.Dc
