/- Walks: each function comes to what its model says. -/
import Derived.Test.YtjmigclbilnajaaDoorDcTab
import Derived.Test.YtjmigclbilnajaaDoorDcM
import Derived.Test.YtjmigclbilnajaaDoorDcW1
import Derived.Test.YtjmigclbilnajaaDoorDcW18
import Derived.Test.YtjmigclbilnajaaDoorDcW20
import Derived.Test.YtjmigclbilnajaaDoorDcW3
import Derived.Test.YtjmigclbilnajaaDoorDcW4
namespace Go.Dc
open Go Go.Proofs
set_option maxRecDepth 100000
set_option maxHeartbeats 4000000
set_option linter.unusedVariables false
theorem textpatch_Invert_ok {g : Gh} {fr : Hl} {w : World} {r : Patch × Fault} (p_ : Patch) (vp_1 : Value) (hp_1 : RepSl g p_.Hunks vp_1) (S : St g [] fr w) (hm : textpatch_Invert p_ = some r) :
  Calls Tryd.prog 61 [.agg #[vp_1]].toArray w (fun en w' => ∃ v, en = .returned v ∧ ∃ (g' : Gh) (v1 : Value), Le g g' ∧ St g' [] fr w' ∧ RepSl g' r.1.Hunks v1 ∧ .tuple #[.agg #[v1], .agg #[.i6 r.2.Code, .i6 r.2.Index]] = v) := by
 unfold textpatch_Invert at hm
 refine calls_enter (fn := Tryd.f61) Tryd.func61 rfl Tryd.ntmps61 (lb rfl) ?_
 intro a F
 replace F : Fr 36 a [(0, .agg #[vp_1])] := F
 refine wp_seq ?_
 refine wp_region_lit ?_
 refine wl_boxC (wn rfl) rfl rfl rfl F S rfl rfl ?_; clear F a S; rintro b1 a w F S
 refine wl_alloc (wn rfl) rfl tz25 (cs := [nilS]) rfl F S rfl rfl ?_; clear F a S; rintro b2 a w F S
 refine wl_alloc (wn rfl) rfl tz29 (cs := [.i6 0, .i6 0]) rfl F S rfl rfl ?_; clear F a S; rintro b3 a w F S
 refine wpList_nil ?_
 refine then_n ?_
 refine wp_seq ?_
 refine wp_seq ?_
 refine wp_region_lit ?_
 refine wE (ev_loadA tu25 rfl (cs := [vp_1]) ts25 rfl (box_ptr (cells := [vp_1]) 2 rfl 0 rfl (lb rfl))) F S rfl fun a F=>?_
 obtain ⟨y1, hy1, hm⟩ := bind_some hm
 refine wl_call0 (wn rfl) rfl F rfl (textpatch_Validate_ok (fr := (fl [[bx b3 #[.i6 0, .i6 0] 29], [bx b2 #[nilS] 25], [bx b1 #[vp_1] 25]] fr)) p_ vp_1 hp_1 S hy1) rfl tc41 rfl rfl ?_; clear F a S
 rintro _ a w ⟨g1, l1, S, rfl⟩ F; replace S : St g1 [[bx b3 #[.i6 0, .i6 0] 29], [bx b2 #[nilS] 25], [bx b1 #[vp_1] 25]] fr w := S
 refine wl_alloc (wn rfl) rfl tz29 (cs := [.i6 0, .i6 0]) rfl F S rfl rfl ?_; clear F a S; rintro b4 a w F S
 refine wl_storeC (wn rfl) rfl F S rfl rfl (vs := [.i6 y1.Code, .i6 y1.Index]) rfl ts29 (one_cons rfl (one_cons rfl one_nil)) (k := 0) rfl (lb rfl) (c' := #[.i6 y1.Code, .i6 y1.Index]) rfl rfl ?_; clear S; intro w S
 refine wpList_nil ?_
 refine then_n ?_
 refine wp_seq ?_
 refine wp_region_lit ?_
 refine wE (ev_loadA tu29 rfl (cs := [.i6 y1.Code, .i6 y1.Index]) ts29 rfl (box_ptr (cells := [.i6 y1.Code, .i6 y1.Index]) 0 rfl 0 rfl (lb rfl))) F S rfl fun a F=>?_
 refine wE (ev_build (parts := []) (vs := []) rfl (fun w => tb29_  w)) F S rfl fun a F=>?_
 refine wE (ev_neS tu29 tqa29 tqb29 tqc29 (xs := [.i6 y1.Code, .i6 y1.Index]) (ys := [.i6 0, .i6 0]) rfl rfl ⟨_, _, rfl, by decide, ⟨_, _, rfl, rfl, leaf_int tu3⟩, ⟨_, _, rfl, by decide, ⟨_, _, rfl, rfl, leaf_int tu3⟩, rfl⟩⟩) F S rfl fun a F=>?_
 refine wpList_nil ?_
 refine then_n ?_
 obtain ⟨hc1, hm⟩ | ⟨hc1, hm⟩ := ite_or hm
 ·refine wp_condT F rfl hc1 ?_
  refine wp_seq ?_
  refine wp_dv [] mo S ?_; clear S; intro ok1 w S
  refine dv_et ok1 0 rfl (ev_build (parts := []) (vs := []) rfl (fun w => tb25_  w)) F rfl fun a F=>?_
  refine dv_ev ok1 1 rfl (ev_loadA tu29 rfl (cs := [.i6 y1.Code, .i6 y1.Index]) ts29 rfl (box_ptr (cells := [.i6 y1.Code, .i6 y1.Index]) 0 rfl 0 rfl (lb rfl))) F S rfl fun a F=>?_
  refine dv_op ok1 2 rfl [(1, .agg #[.i6 y1.Code, .i6 y1.Index])] ?_
  refine wl_storeC (wn rfl) rfl F S rfl rfl (vs := [nilS]) rfl ts25 (one_cons rfl one_nil) (k := 2) rfl (lb rfl) (c' := #[nilS]) rfl rfl ?_; clear S; intro w S
  refine dv_nx ⟨yl_ev rfl rfl (ev_loadA tu29 rfl (cs := [.i6 y1.Code, .i6 y1.Index]) ts29 rfl (box_ptr (cells := [.i6 y1.Code, .i6 y1.Index]) 0 rfl 0 rfl (lb rfl))) F S, trivial⟩ ?_
  refine dv_op ok1 3 rfl [] ?_
  refine wl_storeC (wn rfl) rfl F S rfl rfl (vs := [.i6 y1.Code, .i6 y1.Index]) rfl ts29 (one_cons rfl (one_cons rfl one_nil)) (k := 1) rfl (lb rfl) (c' := #[.i6 y1.Code, .i6 y1.Index]) rfl rfl ?_; clear S; intro w S
  refine dv_nx trivial ?_
  refine dv_fin ok1 ?_
  refine then_n ?_
  refine wp_ret ?_
  refine then_r ?_
  obtain rfl := sinj hm
  refine post_r _ F rfl (ar_cons (resA rfl tu25 rfl (box_ptr (cells := [nilS]) 2 rfl 0 rfl (lb rfl) w S) ts25) (ar_cons (resA rfl tu29 rfl (box_ptr (cells := [.i6 y1.Code, .i6 y1.Index]) 1 rfl 0 rfl (lb rfl) w S) ts29) ar_nil)) ?_
  replace S : St g1 [] fr w := St.tail [] _ S
  exact ⟨_, rfl, g1, (nilS), l1, S, (RepSl.nil _), rfl⟩
 ·refine wp_condF F rfl hc1 ?_
  refine wp_skip ?_
  refine then_n ?_
  refine wp_seq ?_
  refine wp_region_lit ?_
  refine wE (ev_loadA tu25 rfl (cs := [vp_1]) ts25 rfl (box_ptr (cells := [vp_1]) 3 rfl 0 rfl (lb rfl))) F S rfl fun a F=>?_
  obtain ⟨y2, hy2, hm⟩ := bind_some hm
  refine wl_call0 (wn rfl) rfl F rfl (textpatch_Copy_ok (fr := (fl [[bx b4 #[.i6 y1.Code, .i6 y1.Index] 29], [bx b3 #[.i6 0, .i6 0] 29], [bx b2 #[nilS] 25], [bx b1 #[vp_1] 25]] fr)) p_ vp_1 (hp_1.mono l1) S hy2) rfl tc66 rfl rfl ?_; clear F a S
  rintro _ a w ⟨g2, v1, c1, l2, S, h1, rfl⟩ F; replace S : St g2 [c1, [bx b4 #[.i6 y1.Code, .i6 y1.Index] 29], [bx b3 #[.i6 0, .i6 0] 29], [bx b2 #[nilS] 25], [bx b1 #[vp_1] 25]] fr w := S
  refine wl_alloc (wn rfl) rfl tz25 (cs := [nilS]) rfl F S rfl rfl ?_; clear F a S; rintro b5 a w F S
  refine wl_storeC (wn rfl) rfl F S rfl rfl (vs := [v1]) rfl ts25 (one_cons (OwnS.one h1) one_nil) (k := 0) rfl (lb rfl) (c' := #[v1]) rfl rfl ?_; clear S; intro w S
  refine wpList_nil ?_
  refine then_n ?_
  refine wp_seq ?_
  refine wp_region_lit ?_
  refine wl_alloc (wn rfl) rfl tz3 (cs := [.i6 0]) rfl F S rfl rfl ?_; clear F a S; rintro b6 a w F S
  refine wl_storeC (wn rfl) rfl F S rfl rfl (vs := [.i6 0]) rfl ts3 (one_cons rfl one_nil) (k := 0) rfl (lb rfl) (c' := #[.i6 0]) rfl rfl ?_; clear S; intro w S
  refine wpList_nil ?_
  refine then_n ?_
  refine wp_seq ?_
  refine wp_region_lit ?_
  refine wE (ev_makeFunc (xs := [.tmp 6]) (vs := [bp b6 0]) rfl) F S rfl fun a F=>?_
  refine wE (ev_assign rfl) F S rfl fun a F=>?_
  refine wpList_nil ?_
  refine then_n ?_
  refine wp_cut (fun a w => ∃ (x1 : List Hunk) (v2 : Value) (c2 : Hl) (g3 : Gh), Fr 36 a [(5, bp b5 0), (3, bp b3 0), (2, bp b2 0)] ∧ Le g2 g3 ∧ St g3 [[bx b5 #[v2] 25], [bx b3 #[.i6 0, .i6 0] 29], [bx b2 #[nilS] 25], c2] fr w ∧ OwnS g3 x1 v2 c2 ∧ textpatch_Invert.j1 x1 = some r) ?_ ?_
  ·refine wp_seq ?_
   refine wp_region_lit ?_
   refine wE (ev_fieldAddr' tu25 tf25_0 (z := 0) ts23 rfl ⟨_, rfl⟩ rfl) F S rfl fun a F=>?_
   refine wE (ev_load1 tu23 rfl rfl (box_ptr (cells := [v1]) 1 rfl 0 rfl (lb rfl))) F S rfl fun a F=>?_
   refine wE (ev_lenOw h1 rfl tu23) F S rfl fun a F=>?_
   refine wE (ev_move rfl) F S rfl fun a F=>?_
   refine wpList_nil ?_
   refine then_n ?_
   refine wp_block ?_
   obtain ⟨r1, hr1, hm⟩ := bind_some hm
   have hmo1 := hm; clear hm
   refine wp_iter (σ := Int × Int × (List Hunk)) (ρ := (List Hunk)) (m := fun s => textpatch_Invert.l1 y2 s.1 s.2.1 s.2.2) (I := fun s a w => match s with | (x2, x3, x4) => ∃ (v4 : Value) (c3 : Hl) (g6 : Gh), Fr 36 a [(22, .i6 x2), (21, .i6 (y2.Hunks.length : Int)), (7, .func (.func 99) #[] #[bp b6 0]), (5, bp b5 0), (3, bp b3 0), (2, bp b2 0)] ∧ Le g2 g6 ∧ St g6 [[bx b6 #[.i6 x3] 3], [bx b5 #[v4] 25], [bx b3 #[.i6 0, .i6 0] 29], [bx b2 #[nilS] 25], c3] fr w ∧ OwnS g6 x4 v4 c3) hr1 ?_ ?_
   ·dsimp only
    replace S : St g2 [[bx b6 #[.i6 0] 3], [bx b5 #[v1] 25], [bx b3 #[.i6 0, .i6 0] 29], [bx b2 #[nilS] 25], c1] fr w := St.tail [[bx b6 #[.i6 0] 3], [bx b5 #[v1] 25], [bx b3 #[.i6 0, .i6 0] 29], [bx b2 #[nilS] 25], c1] _ (((((S.frontC 2 rfl).frontC 6 rfl).frontC 6 rfl).frontC 4 rfl).frontC 4 rfl)
    exact ⟨v1, c1, g2, F.sub ⟨rfl, rfl, rfl, rfl, rfl, rfl, trivial⟩, (Le.refl _), S, h1⟩
   ·clear F S; rintro ⟨x2, x3, x4⟩ a w x5 ⟨v4, c3, g6, F, l6, S, h5⟩ hx1 hfin1
    have hm : textpatch_Invert.l1 y2 x2 x3 x4 = some x5 := hx1; clear hx1
    unfold textpatch_Invert.l1 at hm
    refine wp_seq ?_
    refine wp_region_lit ?_
    refine wE (ev_int rfl rfl (bo_lss _ _ _ _)) F S rfl fun a F=>?_
    refine wpList_nil ?_
    refine then_n ?_
    refine wp_seq ?_
    obtain ⟨hc2, hm⟩ | ⟨hc2, hm⟩ := ite_or hm
    ·refine wp_condT F rfl hc2 ?_
     refine wp_skip ?_
     refine then_n ?_
     refine wp_seq ?_
     refine wp_block ?_
     refine wp_seq ?_
     refine wp_region_lit ?_
     refine wE (ev_move rfl) F S rfl fun a F=>?_
     refine wE (ev_assign rfl) F S rfl fun a F=>?_
     refine wpList_nil ?_
     refine then_n ?_
     refine wp_region_lit ?_
     refine wE (ev_move rfl) F S rfl fun a F=>?_
     refine wE (ev_fieldAddr' tu25 tf25_0 (z := 0) ts23 rfl ⟨_, rfl⟩ rfl) F S rfl fun a F=>?_
     refine wE (ev_load1 tu23 rfl rfl (box_ptr (cells := [v4]) 1 rfl 0 rfl (lb rfl))) F S rfl fun a F=>?_
     refine wE (ev_move rfl) F S rfl fun a F=>?_
     obtain ⟨y4, hy4, hm⟩ := bind_some hm
     refine wE (ev_idxO h5 hy4 tu23 ts69 rfl rfl) F S rfl fun a F=>?_
     replace F := F.sub (e' := [(29, elemP v4 x2 3), (25, .func (.func 99) #[] #[bp b6 0]), (22, .i6 x2), (21, .i6 (y2.Hunks.length : Int)), (7, .func (.func 99) #[] #[bp b6 0]), (5, bp b5 0), (3, bp b3 0), (2, bp b2 0)]) ⟨rfl, rfl, rfl, rfl, rfl, rfl, rfl, rfl, trivial⟩
     refine wl_callK (wn rfl) rfl (xs := [.tmp 29]) (vs := [elemP v4 x2 3]) (cap := [bp b6 0]) (e' := [(22, .i6 x2), (21, .i6 (y2.Hunks.length : Int)), (7, .func (.func 99) #[] #[bp b6 0]), (5, bp b5 0), (3, bp b3 0), (2, bp b2 0)]) ⟨rfl, rfl, rfl, rfl, rfl, rfl, trivial⟩ F rfl rfl tc99 rfl rfl (calls_enter (fn := Tryd.f99) Tryd.func99 rfl Tryd.ntmps99 (lb rfl) ?_); clear F a; intro a F
     replace F : Fr 34 a [(0, elemP v4 x2 3), (1, bp b6 0)] := F
     refine wp_seq ?_
     refine wp_region_lit ?_
     refine wE (ev_move rfl) F S rfl fun a F=>?_
     refine wE (ev_nilP (elemO_ptr h5 hy4) rfl) F S rfl fun a F=>?_
     obtain ⟨cs1, hr2, hq1⟩ := elemO h5 hy4
     obtain ⟨v5, v6, rfl, h6, h7⟩ := rep_Hunk hr2
     refine wE (ev_loadA tu69 rfl (cs := [.i6 y4.At, v5, v6]) ts69 rfl (hq1 _ _ 4 rfl)) F S rfl fun a F=>?_
     obtain ⟨y5, hy5, hm⟩ := bind_some hm
     refine wl_call0 (wn rfl) rfl F rfl (textpatch_Growth_ok (fr := (fl [[bx b6 #[.i6 x3] 3], [bx b5 #[v4] 25], [bx b3 #[.i6 0, .i6 0] 29], [bx b2 #[nilS] 25], c3] fr)) y4 v5 h6 v6 h7 S hy5) rfl tc100 rfl rfl ?_; clear F a S
     rintro _ a w ⟨g7, l7, S, rfl⟩ F; replace S : St g7 [[bx b6 #[.i6 x3] 3], [bx b5 #[v4] 25], [bx b3 #[.i6 0, .i6 0] 29], [bx b2 #[nilS] 25], c3] fr w := S
     refine wE (ev_assign rfl) F S rfl fun a F=>?_
     refine wpList_nil ?_
     refine then_n ?_
     refine wp_seq ?_
     refine wp_dv [] mo S ?_; clear S; intro ok2 w S
     refine dv_et ok2 0 rfl (ev_move rfl) F rfl fun a F=>?_
     refine dv_et ok2 1 rfl (ev_move rfl) F rfl fun a F=>?_
     refine dv_et ok2 2 rfl (ev_move rfl) F rfl fun a F=>?_
     refine dv_et ok2 3 rfl (ev_move rfl) F rfl fun a F=>?_
     refine dv_et ok2 4 rfl (ev_nilP (elemO_ptr (h5.mono l7) hy4) rfl) F rfl fun a F=>?_
     refine dv_et ok2 5 rfl (ev_fieldAddr' tu69 tf69_0 (z := 0) ts3 rfl (elemO_ptr (h5.mono l7) hy4) addP_zero) F rfl fun a F=>?_
     obtain ⟨cs2, hr3, hq2⟩ := elemO (h5.mono l7) hy4
     obtain ⟨v7, v8, rfl, h8, h9⟩ := rep_Hunk hr3
     refine dv_ev ok2 6 rfl (ev_load1 tu3 rfl rfl (fun w s => addP_zero ▸ fieldP (cells := [.i6 y4.At]) 0 (hq2 _ _ 4 rfl w s) rfl (lb rfl))) F S rfl fun a F=>?_
     refine dv_ev ok2 7 rfl (ev_load1 tu3 rfl rfl (box_ptr (cells := [.i6 x3]) 0 rfl 0 rfl (lb rfl))) F S rfl fun a F=>?_
     obtain ⟨z1, hz1, hm⟩ := bind_some hm
     refine dv_et ok2 8 rfl (ev_int rfl rfl (bo_add hz1)) F rfl fun a F=>?_
     refine dv_et ok2 9 rfl (ev_move rfl) F rfl fun a F=>?_
     refine dv_et ok2 10 rfl (ev_nilP (elemO_ptr (h5.mono l7) hy4) rfl) F rfl fun a F=>?_
     refine dv_et ok2 11 rfl (ev_fieldAddr' tu69 tf69_2 (z := 0) ts22 rfl (elemO_ptr (h5.mono l7) hy4) rfl) F rfl fun a F=>?_
     obtain ⟨cs3, hr4, hq3⟩ := elemO (h5.mono l7) hy4
     obtain ⟨v9, v10, rfl, h10, h11⟩ := rep_Hunk hr4
     refine dv_ev ok2 12 rfl (ev_load1 tu22 rfl rfl (fun w s => fieldP (cells := [v10]) 2 (hq3 _ _ 4 rfl w s) rfl (lb rfl))) F S rfl fun a F=>?_
     refine dv_et ok2 13 rfl (ev_move rfl) F rfl fun a F=>?_
     refine dv_et ok2 14 rfl (ev_nilP (elemO_ptr (h5.mono l7) hy4) rfl) F rfl fun a F=>?_
     refine dv_et ok2 15 rfl (ev_fieldAddr' tu69 tf69_1 (z := 0) ts22 rfl (elemO_ptr (h5.mono l7) hy4) rfl) F rfl fun a F=>?_
     obtain ⟨cs4, hr5, hq4⟩ := elemO (h5.mono l7) hy4
     obtain ⟨v11, v12, rfl, h12, h13⟩ := rep_Hunk hr5
     refine dv_ev ok2 16 rfl (ev_load1 tu22 rfl rfl (fun w s => fieldP (cells := [v11]) 1 (hq4 _ _ 4 rfl w s) rfl (lb rfl))) F S rfl fun a F=>?_
     refine dv_et ok2 17 rfl (ev_nilP (elemO_ptr (h5.mono l7) hy4) rfl) F rfl fun a F=>?_
     refine dv_et ok2 18 rfl (ev_fieldAddr' tu69 tf69_0 (z := 0) ts3 rfl (elemO_ptr (h5.mono l7) hy4) addP_zero) F rfl fun a F=>?_
     refine dv_op ok2 19 rfl [] ?_
     obtain ⟨y6, hy6, hm⟩ := bind_some hm
     refine wl_storeE (z' := ({ At := z1, Old := y4.Old, New := y4.New } : Hunk)) 0 (wn rfl) rfl F S (h5.mono l7) hy4 addP_zero rfl rfl (us := [.i6 z1]) rfl ts3 (one_cons rfl one_nil) (k := 4) rfl (lb rfl) (fun cs hcs => by obtain ⟨v13, v14, rfl, h15, h16⟩ := rep_Hunk hcs; exact (rep_Hunk_mk (x := ({ At := z1, Old := y4.Old, New := y4.New } : Hunk)) h15 h16)) rfl ?_; clear S
     rintro c4 w h14 S; replace S : St g7 [[bx b6 #[.i6 x3] 3], [bx b5 #[v4] 25], [bx b3 #[.i6 0, .i6 0] 29], [bx b2 #[nilS] 25], c4] fr w := S; replace h14 : OwnS g7 y6 v4 c4 := sinj hy6 ▸ h14
     refine dv_nx trivial ?_
     refine dv_et ok2 20 rfl (ev_nilP (elemO_ptr h14 (sinj hy6 ▸ at_set hy4)) rfl) F rfl fun a F=>?_
     refine dv_et ok2 21 rfl (ev_fieldAddr' tu69 tf69_1 (z := 0) ts22 rfl (elemO_ptr h14 (sinj hy6 ▸ at_set hy4)) rfl) F rfl fun a F=>?_
     refine dv_op ok2 22 rfl [] ?_
     obtain ⟨y7, hy7, hm⟩ := bind_some hm
     refine wl_storeE (z' := ({ At := ({ At := z1, Old := y4.Old, New := y4.New } : Hunk).At, Old := y4.New, New := ({ At := z1, Old := y4.Old, New := y4.New } : Hunk).New } : Hunk)) 1 (wn rfl) rfl F S h14 (sinj hy6 ▸ at_set hy4) rfl rfl rfl (us := [v10]) (RepSl.cl h11) ts22 (one_cons h11.one one_nil) (k := 4) rfl (lb rfl) (fun cs hcs => by obtain ⟨v15, v16, rfl, h18, h19⟩ := rep_Hunk hcs; exact (rep_Hunk_mk (x := ({ At := ({ At := z1, Old := y4.Old, New := y4.New } : Hunk).At, Old := y4.New, New := ({ At := z1, Old := y4.Old, New := y4.New } : Hunk).New } : Hunk)) h11 h19)) rfl ?_; clear S
     rintro c5 w h17 S; replace S : St g7 [[bx b6 #[.i6 x3] 3], [bx b5 #[v4] 25], [bx b3 #[.i6 0, .i6 0] 29], [bx b2 #[nilS] 25], c5] fr w := S; replace h17 : OwnS g7 y7 v4 c5 := sinj hy7 ▸ h17
     refine dv_nx trivial ?_
     refine dv_et ok2 23 rfl (ev_nilP (elemO_ptr h17 (sinj hy7 ▸ at_set (sinj hy6 ▸ at_set hy4))) rfl) F rfl fun a F=>?_
     refine dv_et ok2 24 rfl (ev_fieldAddr' tu69 tf69_2 (z := 0) ts22 rfl (elemO_ptr h17 (sinj hy7 ▸ at_set (sinj hy6 ▸ at_set hy4))) rfl) F rfl fun a F=>?_
     refine dv_op ok2 25 rfl [] ?_
     obtain ⟨y8, hy8, hm⟩ := bind_some hm
     refine wl_storeE (z' := ({ At := ({ At := ({ At := z1, Old := y4.Old, New := y4.New } : Hunk).At, Old := y4.New, New := ({ At := z1, Old := y4.Old, New := y4.New } : Hunk).New } : Hunk).At, Old := ({ At := ({ At := z1, Old := y4.Old, New := y4.New } : Hunk).At, Old := y4.New, New := ({ At := z1, Old := y4.Old, New := y4.New } : Hunk).New } : Hunk).Old, New := y4.Old } : Hunk)) 2 (wn rfl) rfl F S h17 (sinj hy7 ▸ at_set (sinj hy6 ▸ at_set hy4)) rfl rfl rfl (us := [v11]) (RepSl.cl h12) ts22 (one_cons h12.one one_nil) (k := 4) rfl (lb rfl) (fun cs hcs => by obtain ⟨v17, v18, rfl, h21, h22⟩ := rep_Hunk hcs; exact (rep_Hunk_mk (x := ({ At := ({ At := ({ At := z1, Old := y4.Old, New := y4.New } : Hunk).At, Old := y4.New, New := ({ At := z1, Old := y4.Old, New := y4.New } : Hunk).New } : Hunk).At, Old := ({ At := ({ At := z1, Old := y4.Old, New := y4.New } : Hunk).At, Old := y4.New, New := ({ At := z1, Old := y4.Old, New := y4.New } : Hunk).New } : Hunk).Old, New := y4.Old } : Hunk)) h21 h12)) rfl ?_; clear S
     rintro c6 w h20 S; replace S : St g7 [[bx b6 #[.i6 x3] 3], [bx b5 #[v4] 25], [bx b3 #[.i6 0, .i6 0] 29], [bx b2 #[nilS] 25], c6] fr w := S; replace h20 : OwnS g7 y8 v4 c6 := sinj hy8 ▸ h20
     refine dv_nx trivial ?_
     refine dv_fin ok2 ?_
     refine then_n ?_
     refine wp_region_lit ?_
     refine wE (ev_load1 tu3 rfl rfl (box_ptr (cells := [.i6 x3]) 0 rfl 0 rfl (lb rfl))) F S rfl fun a F=>?_
     refine wE (ev_move rfl) F S rfl fun a F=>?_
     obtain ⟨z2, hz2, hm⟩ := bind_some hm
     refine wE (ev_int rfl rfl (bo_add hz2)) F S rfl fun a F=>?_
     refine wl_storeC (wn rfl) rfl F S rfl rfl (vs := [.i6 z2]) rfl ts3 (one_cons rfl one_nil) (k := 0) rfl (lb rfl) (c' := #[.i6 z2]) rfl rfl ?_; clear S; intro w S
     refine wpList_nil ?_
     refine post_n _ F rfl ar_nil ?_
     refine ⟨_, rfl, ?_⟩; clear F a; intro a F
     replace F : Fr 36 a [(30, .tuple #[]), (22, .i6 x2), (21, .i6 (y2.Hunks.length : Int)), (7, .func (.func 99) #[] #[bp b6 0]), (5, bp b5 0), (3, bp b3 0), (2, bp b2 0)] := F
     refine wpList_nil ?_
     refine inb_n ?_
     refine then_n ?_
     refine wp_region_lit ?_
     obtain ⟨z3, hz3, hm⟩ := bind_some hm
     refine wE (ev_int rfl rfl (bo_add hz3)) F S rfl fun a F=>?_
     refine wE (ev_move rfl) F S rfl fun a F=>?_
     refine wpList_nil ?_
     refine then_n ?_
     obtain rfl := sinj hm
     refine ⟨_, rfl, ?_⟩
     dsimp only
     exact ⟨v4, c6, g7, F.sub ⟨rfl, rfl, rfl, rfl, rfl, rfl, trivial⟩, (l6.trans l7), S, h20⟩
    ·refine wp_condF F rfl hc2 ?_
     refine wp_exit ?_
     refine then_e ?_
     refine then_e ?_
     refine inb_x ?_
     refine then_n ?_
     obtain rfl := sinj hm
     obtain rfl := hfin1 _ rfl
     clear hm
     have hm : (textpatch_Invert.j1 x4 : Option (Patch × Fault)) = some _ := hmo1
     replace S : St g6 [[bx b5 #[v4] 25], [bx b3 #[.i6 0, .i6 0] 29], [bx b2 #[nilS] 25], c3] fr w := St.tail [[bx b5 #[v4] 25], [bx b3 #[.i6 0, .i6 0] 29], [bx b2 #[nilS] 25], c3] _ ((((S.frontC 4 rfl).frontC 4 rfl).frontC 4 rfl).frontC 4 rfl)
     exact ⟨x4, v4, c3, g6, F.sub ⟨rfl, rfl, rfl, trivial⟩, l6, S, h5, hm⟩
  ·clear F S hm; rintro a w ⟨x1, v2, c2, g3, F, l3, S, h2, hm⟩
   refine wp_seq ?_
   refine wp_region_lit ?_
   refine wE (ev_loadA tu25 rfl (cs := [v2]) ts25 rfl (box_ptr (cells := [v2]) 0 rfl 0 rfl (lb rfl))) F S rfl fun a F=>?_
   obtain ⟨g4, l4, S, h3⟩ : ∃ gz, Le g3 gz ∧ St gz [[bx b5 #[v2] 25], [bx b3 #[.i6 0, .i6 0] 29], [bx b2 #[nilS] 25]] fr w ∧ RepSl gz x1 v2 := ⟨_, Le.add _ _, S.freeze 3 rfl, OwnS.freeze (S.front 3 rfl) h2⟩
   obtain ⟨y3, hy3, hm⟩ := bind_some hm
   refine wl_call0 (wn rfl) rfl F rfl (textpatch_Made_ok (fr := (fl [[bx b5 #[v2] 25], [bx b3 #[.i6 0, .i6 0] 29], [bx b2 #[nilS] 25]] fr)) ({ Hunks := x1 } : Patch) v2 h3 S hy3) rfl tc75 rfl rfl ?_; clear F a S
   rintro _ a w ⟨g5, v3, l5, S, h4, rfl⟩ F; replace S : St g5 [[bx b5 #[v2] 25], [bx b3 #[.i6 0, .i6 0] 29], [bx b2 #[nilS] 25]] fr w := S
   refine wE (ev_extract rfl rfl) F S rfl fun a F=>?_
   refine wE (ev_extract rfl rfl) F S rfl fun a F=>?_
   refine wl_storeC (wn rfl) rfl F S rfl rfl (vs := [v3]) rfl ts25 (one_cons h4.one one_nil) (k := 2) rfl (lb rfl) (c' := #[v3]) rfl rfl ?_; clear S; intro w S
   refine wl_storeC (wn rfl) rfl F S rfl rfl (vs := [.i6 y3.2.Code, .i6 y3.2.Index]) rfl ts29 (one_cons rfl (one_cons rfl one_nil)) (k := 1) rfl (lb rfl) (c' := #[.i6 y3.2.Code, .i6 y3.2.Index]) rfl rfl ?_; clear S; intro w S
   refine wpList_nil ?_
   refine then_n ?_
   refine wp_ret ?_
   obtain rfl := sinj hm
   refine post_r _ F rfl (ar_cons (resA rfl tu25 rfl (box_ptr (cells := [v3]) 2 rfl 0 rfl (lb rfl) w S) ts25) (ar_cons (resA rfl tu29 rfl (box_ptr (cells := [.i6 y3.2.Code, .i6 y3.2.Index]) 1 rfl 0 rfl (lb rfl) w S) ts29) ar_nil)) ?_
   replace S : St g5 [] fr w := St.tail [] _ S
   exact ⟨_, rfl, g5, v3, ((((l1.trans l2).trans l3).trans l4).trans l5), S, h4, rfl⟩

theorem treepatch_Invert_ok {g : Gh} {fr : Hl} {w : World} {r : TreePatch × Fault} (p_ : TreePatch) (vp_1 : Value) (hp_1 : RepSl g p_.Changes vp_1) (S : St g [] fr w) (hm : treepatch_Invert p_ = some r) :
  Calls Tryd.prog 28 [.agg #[vp_1]].toArray w (fun en w' => ∃ v, en = .returned v ∧ ∃ (g' : Gh) (v1 : Value) (c1 : Hl), Le g g' ∧ St g' [c1] fr w' ∧ OwnS g' r.1.Changes v1 c1 ∧ .tuple #[.agg #[v1], .agg #[.i6 r.2.Code, .i6 r.2.Index]] = v) := by
 unfold treepatch_Invert at hm
 refine calls_enterM (fn := Tryd.f28) Tryd.func28 rfl Tryd.ntmps28 (lb rfl) ?_
 intro a F
 replace F : Fr 65 a [(0, .agg #[vp_1])] := F
 refine wp_seq ?_
 refine wp_region_lit ?_
 refine wl_boxC (wn rfl) rfl rfl rfl F S rfl rfl ?_; clear F a S; rintro b1 a w F S
 refine wl_alloc (wn rfl) rfl tz41 (cs := [nilS]) rfl F S rfl rfl ?_; clear F a S; rintro b2 a w F S
 refine wl_alloc (wn rfl) rfl tz29 (cs := [.i6 0, .i6 0]) rfl F S rfl rfl ?_; clear F a S; rintro b3 a w F S
 refine wpList_nil ?_
 refine then_n ?_
 refine wp_seq ?_
 refine wp_seq ?_
 refine wp_region_lit ?_
 refine wE (ev_loadA tu41 rfl (cs := [vp_1]) ts41 rfl (box_ptr (cells := [vp_1]) 2 rfl 0 rfl (lb rfl))) F S rfl fun a F=>?_
 obtain ⟨y1, hy1, hm⟩ := bind_some hm
 refine wl_call0 (wn rfl) rfl F rfl (treepatch_ValidatePatch_ok (fr := (fl [[bx b3 #[.i6 0, .i6 0] 29], [bx b2 #[nilS] 41], [bx b1 #[vp_1] 41]] fr)) p_ vp_1 hp_1 S hy1) rfl tc24 rfl rfl ?_; clear F a S
 rintro _ a w ⟨g1, l1, S, rfl⟩ F; replace S : St g1 [[bx b3 #[.i6 0, .i6 0] 29], [bx b2 #[nilS] 41], [bx b1 #[vp_1] 41]] fr w := S
 refine wl_alloc (wn rfl) rfl tz29 (cs := [.i6 0, .i6 0]) rfl F S rfl rfl ?_; clear F a S; rintro b4 a w F S
 refine wl_storeC (wn rfl) rfl F S rfl rfl (vs := [.i6 y1.Code, .i6 y1.Index]) rfl ts29 (one_cons rfl (one_cons rfl one_nil)) (k := 0) rfl (lb rfl) (c' := #[.i6 y1.Code, .i6 y1.Index]) rfl rfl ?_; clear S; intro w S
 refine wpList_nil ?_
 refine then_n ?_
 refine wp_seq ?_
 refine wp_region_lit ?_
 refine wE (ev_loadA tu29 rfl (cs := [.i6 y1.Code, .i6 y1.Index]) ts29 rfl (box_ptr (cells := [.i6 y1.Code, .i6 y1.Index]) 0 rfl 0 rfl (lb rfl))) F S rfl fun a F=>?_
 refine wE (ev_build (parts := []) (vs := []) rfl (fun w => tb29_  w)) F S rfl fun a F=>?_
 refine wE (ev_neS tu29 tqa29 tqb29 tqc29 (xs := [.i6 y1.Code, .i6 y1.Index]) (ys := [.i6 0, .i6 0]) rfl rfl ⟨_, _, rfl, by decide, ⟨_, _, rfl, rfl, leaf_int tu3⟩, ⟨_, _, rfl, by decide, ⟨_, _, rfl, rfl, leaf_int tu3⟩, rfl⟩⟩) F S rfl fun a F=>?_
 refine wpList_nil ?_
 refine then_n ?_
 obtain ⟨hc1, hm⟩ | ⟨hc1, hm⟩ := ite_or hm
 ·refine wp_condT F rfl hc1 ?_
  refine wp_seq ?_
  refine wp_dv [] mo S ?_; clear S; intro ok1 w S
  refine dv_et ok1 0 rfl (ev_build (parts := []) (vs := []) rfl (fun w => tb41_  w)) F rfl fun a F=>?_
  refine dv_ev ok1 1 rfl (ev_loadA tu29 rfl (cs := [.i6 y1.Code, .i6 y1.Index]) ts29 rfl (box_ptr (cells := [.i6 y1.Code, .i6 y1.Index]) 0 rfl 0 rfl (lb rfl))) F S rfl fun a F=>?_
  refine dv_op ok1 2 rfl [(1, .agg #[.i6 y1.Code, .i6 y1.Index])] ?_
  refine wl_storeC (wn rfl) rfl F S rfl rfl (vs := [nilS]) rfl ts41 (one_cons rfl one_nil) (k := 2) rfl (lb rfl) (c' := #[nilS]) rfl rfl ?_; clear S; intro w S
  refine dv_nx ⟨yl_ev rfl rfl (ev_loadA tu29 rfl (cs := [.i6 y1.Code, .i6 y1.Index]) ts29 rfl (box_ptr (cells := [.i6 y1.Code, .i6 y1.Index]) 0 rfl 0 rfl (lb rfl))) F S, trivial⟩ ?_
  refine dv_op ok1 3 rfl [] ?_
  refine wl_storeC (wn rfl) rfl F S rfl rfl (vs := [.i6 y1.Code, .i6 y1.Index]) rfl ts29 (one_cons rfl (one_cons rfl one_nil)) (k := 1) rfl (lb rfl) (c' := #[.i6 y1.Code, .i6 y1.Index]) rfl rfl ?_; clear S; intro w S
  refine dv_nx trivial ?_
  refine dv_fin ok1 ?_
  refine then_n ?_
  refine wp_ret ?_
  refine then_r ?_
  obtain rfl := sinj hm
  replace S : St g1 [[], [bx b4 #[.i6 y1.Code, .i6 y1.Index] 29], [bx b3 #[.i6 y1.Code, .i6 y1.Index] 29], [bx b2 #[nilS] 41], [bx b1 #[vp_1] 41]] fr w := S
  refine post_r0 _ F rfl (ar_cons (resA rfl tu41 rfl (box_ptr (cells := [nilS]) 3 rfl 0 rfl (lb rfl) w S) ts41) (ar_cons (resA rfl tu29 rfl (box_ptr (cells := [.i6 y1.Code, .i6 y1.Index]) 2 rfl 0 rfl (lb rfl) w S) ts29) ar_nil)) ?_
  replace S : St g1 [[]] fr w := St.tail [[]] _ (S.frontC 0 rfl)
  exact ⟨_, rfl, g1, (nilS), [], l1, S, (OwnS.nil _), rfl⟩
 ·refine wp_condF F rfl hc1 ?_
  refine wp_skip ?_
  refine then_n ?_
  refine wp_seq ?_
  refine wp_region_lit ?_
  refine wl_alloc (wn rfl) rfl tz41 (cs := [nilS]) rfl F S rfl rfl ?_; clear F a S; rintro b5 a w F S
  refine wpList_nil ?_
  refine then_n ?_
  refine wp_seq ?_
  refine wp_seq ?_
  refine wp_region_lit ?_
  refine wE (ev_fieldAddr' tu41 tf41_0 (z := 0) ts39 rfl ⟨_, rfl⟩ rfl) F S rfl fun a F=>?_
  refine wE (ev_load1 tu39 rfl rfl (box_ptr (cells := [vp_1]) 4 rfl 0 rfl (lb rfl))) F S rfl fun a F=>?_
  replace F := F.sub (e' := [(19, vp_1), (5, bp b5 0), (3, bp b3 0), (2, bp b2 0)]) ⟨rfl, rfl, rfl, rfl, trivial⟩
  refine wl_callK (wn rfl) rfl (xs := [.tmp 19]) (vs := [vp_1]) (cap := []) (e' := [(5, bp b5 0), (3, bp b3 0), (2, bp b2 0)]) ⟨rfl, rfl, rfl, trivial⟩ F rfl rfl tc60 rfl rfl (calls_enter (fn := Tryd.f60) Tryd.func60 rfl Tryd.ntmps60 (lb rfl) ?_); clear F a; intro a F
  replace F : Fr 4 a [(0, vp_1)] := F
  refine wp_seq ?_
  refine wp_region_lit ?_
  refine wl_boxC (wn rfl) rfl rfl (RepSl.cl hp_1) F S rfl rfl ?_; clear F a S; rintro b6 a w F S
  refine wE (ev_assign rfl) F S rfl fun a F=>?_
  refine wpList_nil ?_
  refine then_n ?_
  refine wp_seq ?_
  refine wp_region_lit ?_
  refine wE (ev_makeFunc (xs := [.tmp 1]) (vs := [bp b6 0]) rfl) F S rfl fun a F=>?_
  refine wE (ev_assign rfl) F S rfl fun a F=>?_
  refine wpList_nil ?_
  refine then_n ?_
  refine wp_ret ?_
  refine post_r _ F rfl (ar_cons (resT rfl) ar_nil) ?_
  refine ⟨_, rfl, ?_⟩; clear F a; intro a F
  replace F : Fr 65 a [(20, .func (.func 98) #[] #[bp b6 0]), (5, bp b5 0), (3, bp b3 0), (2, bp b2 0)] := F
  refine wpList_nil ?_
  refine then_n ?_
  refine wp_block ?_
  refine wp_range (ps := [21, 22]) (cap := [bp b6 0]) (e0 := [(5, bp b5 0), (3, bp b3 0), (2, bp b2 0)]) F ⟨rfl, rfl, rfl, trivial⟩ S rfl tc98 ?_; clear F S a; intro R1 l2 D1 w hR1 S
  replace S : St g1 [[(l2, .loop (R1 .ready Option.none))], [(D1, .deferred (some []))], [bx b6 #[vp_1] 39], [bx b5 #[nilS] 41], [bx b4 #[.i6 y1.Code, .i6 y1.Index] 29], [bx b3 #[.i6 0, .i6 0] 29], [bx b2 #[nilS] 41], [bx b1 #[vp_1] 41]] fr w := S
  refine calls_enter (fn := Tryd.f98) Tryd.func98 rfl Tryd.ntmps98 (lb rfl) ?_; intro a F
  replace F : Fr 19 a [(0, .func (.yield l2) #[] #[]), (1, bp b6 0)] := F
  refine wp_seq ?_
  refine wp_region_lit ?_
  refine wE (ev_load1 tu39 rfl rfl (box_ptr (cells := [vp_1]) 2 rfl 0 rfl (lb rfl))) F S rfl fun a F=>?_
  refine wE (ev_lenSh hp_1 rfl tu39) F S rfl fun a F=>?_
  obtain ⟨z1, hz1, hm⟩ := bind_some hm
  refine wE (ev_int rfl rfl (bo_sub hz1)) F S rfl fun a F=>?_
  refine wE (ev_assign rfl) F S rfl fun a F=>?_
  refine wpList_nil ?_
  refine then_n ?_
  refine wp_cut1 (fun a w => ∃ (x1 : List TreeChange) (v1 : Value) (c1 : Hl) (g2 : Gh), Fr 19 a [] ∧ Le g1 g2 ∧ St g2 [[(l2, .loop (R1 .ready Option.none))], [(D1, .deferred (some []))], [bx b5 #[v1] 41], [bx b3 #[.i6 0, .i6 0] 29], [bx b2 #[nilS] 41], c1] fr w ∧ OwnS g2 x1 v1 c1 ∧ treepatch_Invert.j1 x1 = some r) ?_ ?_
  ·refine wp_block ?_
   obtain ⟨r1, hr1, hm⟩ := bind_some hm
   have hmo1 := hm; clear hm
   refine wp_iter (σ := Int × (List TreeChange)) (ρ := (TreePatch × Fault) ⊕ (List TreeChange)) (m := fun s => treepatch_Invert.l1 p_ s.1 s.2) (I := fun s a w => match s with | (x2, x3) => ∃ (v2 : Value) (c2 : Hl) (g3 : Gh), Fr 19 a [(3, .i6 x2), (0, .func (.yield l2) #[] #[]), (1, bp b6 0)] ∧ Le g1 g3 ∧ St g3 [[(l2, .loop (R1 .ready Option.none))], [(D1, .deferred (some []))], [bx b6 #[vp_1] 39], [bx b5 #[v2] 41], [bx b3 #[.i6 0, .i6 0] 29], [bx b2 #[nilS] 41], c2] fr w ∧ OwnS g3 x3 v2 c2) hr1 ?_ ?_
   ·dsimp only
    replace S : St g1 [[], [(l2, .loop (R1 .ready Option.none))], [(D1, .deferred (some []))], [bx b6 #[vp_1] 39], [bx b5 #[nilS] 41], [bx b4 #[.i6 y1.Code, .i6 y1.Index] 29], [bx b3 #[.i6 0, .i6 0] 29], [bx b2 #[nilS] 41], [bx b1 #[vp_1] 41]] fr w := S
    replace S : St g1 [[(l2, .loop (R1 .ready Option.none))], [(D1, .deferred (some []))], [bx b6 #[vp_1] 39], [bx b5 #[nilS] 41], [bx b3 #[.i6 0, .i6 0] 29], [bx b2 #[nilS] 41], []] fr w := St.tail [[(l2, .loop (R1 .ready Option.none))], [(D1, .deferred (some []))], [bx b6 #[vp_1] 39], [bx b5 #[nilS] 41], [bx b3 #[.i6 0, .i6 0] 29], [bx b2 #[nilS] 41], []] _ (((((((S.frontC 0 rfl).frontC 8 rfl).frontC 8 rfl).frontC 7 rfl).frontC 7 rfl).frontC 7 rfl).frontC 7 rfl)
    exact ⟨(nilS), [], g1, F.sub ⟨rfl, rfl, rfl, trivial⟩, (Le.refl _), S, (OwnS.nil _)⟩
   ·clear F S; rintro ⟨x2, x3⟩ a w x4 ⟨v2, c2, g3, F, l4, S, h2⟩ hx1 hfin1
    have hm : treepatch_Invert.l1 p_ x2 x3 = some x4 := hx1; clear hx1
    unfold treepatch_Invert.l1 at hm
    refine wp_seq ?_
    refine wp_seq ?_
    refine wp_region_lit ?_
    refine wE (ev_move rfl) F S rfl fun a F=>?_
    refine wE (ev_int rfl rfl (bo_geq _ _ _ _)) F S rfl fun a F=>?_
    refine wpList_nil ?_
    refine then_n ?_
    obtain ⟨hc2, hm⟩ | ⟨hc2, hm⟩ := ite_or hm
    ·refine wp_condT F rfl hc2 ?_
     refine wp_skip ?_
     refine then_n ?_
     refine wp_seq ?_
     refine wp_block ?_
     refine wp_seq ?_
     refine wp_region_lit ?_
     refine wE (ev_move rfl) F S rfl fun a F=>?_
     refine wE (ev_move rfl) F S rfl fun a F=>?_
     refine wE (ev_load1 tu39 rfl rfl (box_ptr (cells := [vp_1]) 2 rfl 0 rfl (lb rfl))) F S rfl fun a F=>?_
     refine wE (ev_move rfl) F S rfl fun a F=>?_
     obtain ⟨y2, hy2, hm⟩ := bind_some hm
     obtain ⟨cs1, hr2, hp1⟩ := elemS (hp_1.mono (l1.trans l4)) hy2
     obtain ⟨v3, v4, rfl, h3, h4⟩ := rep_TreeChange hr2
     refine wE (ev_idxS (hp_1.mono (l1.trans l4)) hy2 tu39 ts27 rfl rfl) F S rfl fun a F=>?_
     refine wE (ev_loadA tu27 rfl (cs := [.i6 y2.Kind, .string y2.Path, .string y2.To, v3, v4]) ts27 rfl (ptr_mono (cks := [[(l2, .loop (R1 .ready Option.none))], [(D1, .deferred (some []))], [bx b6 #[vp_1] 39], [bx b5 #[v2] 41], [bx b3 #[.i6 0, .i6 0] 29], [bx b2 #[nilS] 41], c2]) (fr := fr) hp1 (Le.refl _))) F S rfl fun a F=>?_
     refine wl_yield (wn rfl) rfl (xs := [.tmp 12, .tmp 16]) (vs := [.i6 x2, .agg #[.i6 y2.Kind, .string y2.Path, .string y2.To, v3, v4]]) (e' := [(3, .i6 x2), (0, .func (.yield l2) #[] #[]), (1, bp b6 0)]) ⟨rfl, rfl, rfl, trivial⟩ F S rfl rfl rfl rfl 0 rfl hR1 rfl rfl ?_; clear F a; intro a F
     replace F : Fr 65 a [(22, .agg #[.i6 y2.Kind, .string y2.Path, .string y2.To, v3, v4]), (21, .i6 x2), (5, bp b5 0), (3, bp b3 0), (2, bp b2 0)] := F
     refine wp_seq ?_
     refine wp_region_lit ?_
     refine wE (ev_assign rfl) F S rfl fun a F=>?_
     refine wpList_nil ?_
     refine then_n ?_
     refine wp_region_lit ?_
     refine wl_alloc (wn rfl) rfl tz27 (cs := [.i6 0, .string ByteArray.empty, .string ByteArray.empty, nilS, nilS]) rfl F S rfl rfl ?_; clear F a S; rintro b7 a w F S
     refine wl_storeC (wn rfl) rfl F S rfl rfl (vs := [.i6 y2.Kind, .string y2.Path, .string y2.To, v3, v4]) rfl ts27 (one_cons rfl (one_cons rfl (one_cons rfl (one_cons h3.one (one_cons h4.one one_nil))))) (k := 0) rfl (lb rfl) (c' := #[.i6 y2.Kind, .string y2.Path, .string y2.To, v3, v4]) rfl rfl ?_; clear S; intro w S
     refine wpList_nil ?_
     refine then_n ?_
     refine begin_round S 1 rfl hR1 ?_; clear S; intro w S
     replace S : St g3 [[bx b7 #[.i6 y2.Kind, .string y2.Path, .string y2.To, v3, v4] 27], [(l2, .loop (R1 .busy Option.none))], [(D1, .deferred (some []))], [bx b6 #[vp_1] 39], [bx b5 #[v2] 41], [bx b3 #[.i6 0, .i6 0] 29], [bx b2 #[nilS] 41], c2] fr w := S
     refine wp_block ?_
     refine wp_seq ?_
     refine wp_region_lit ?_
     refine wE (ev_loadA tu27 rfl (cs := [.i6 y2.Kind, .string y2.Path, .string y2.To, v3, v4]) ts27 rfl (box_ptr (cells := [.i6 y2.Kind, .string y2.Path, .string y2.To, v3, v4]) 0 rfl 0 rfl (lb rfl))) F S rfl fun a F=>?_
     obtain ⟨y3, hy3, hm⟩ := bind_some hm
     refine wl_call0 (wn rfl) rfl F rfl (treepatch_CopyChange_ok (fr := (fl [[bx b7 #[.i6 y2.Kind, .string y2.Path, .string y2.To, v3, v4] 27], [(l2, .loop (R1 .busy Option.none))], [(D1, .deferred (some []))], [bx b6 #[vp_1] 39], [bx b5 #[v2] 41], [bx b3 #[.i6 0, .i6 0] 29], [bx b2 #[nilS] 41], c2] fr)) y2 v3 h3 v4 h4 S hy3) rfl tc31 rfl rfl ?_; clear F a S
     rintro _ a w ⟨g4, v5, v6, c3, c4, l5, S, h5, h6, rfl⟩ F; replace S : St g4 [c3, c4, [bx b7 #[.i6 y2.Kind, .string y2.Path, .string y2.To, v3, v4] 27], [(l2, .loop (R1 .busy Option.none))], [(D1, .deferred (some []))], [bx b6 #[vp_1] 39], [bx b5 #[v2] 41], [bx b3 #[.i6 0, .i6 0] 29], [bx b2 #[nilS] 41], c2] fr w := S
     refine wl_alloc (wn rfl) rfl tz27 (cs := [.i6 0, .string ByteArray.empty, .string ByteArray.empty, nilS, nilS]) rfl F S rfl rfl ?_; clear F a S; rintro b8 a w F S
     refine wl_storeC (wn rfl) rfl F S rfl rfl (vs := [.i6 y3.Kind, .string y3.Path, .string y3.To, v5, v6]) rfl ts27 (one_cons rfl (one_cons rfl (one_cons rfl (one_cons (OwnS.one h5) (one_cons (OwnS.one h6) one_nil))))) (k := 0) rfl (lb rfl) (c' := #[.i6 y3.Kind, .string y3.Path, .string y3.To, v5, v6]) rfl rfl ?_; clear S; intro w S
     refine wpList_nil ?_
     refine then_n ?_
     refine wp_cut (fun a w => ∃ (x5 : Int) (x6 : ByteArray) (x7 : ByteArray) (x8 : List Hunk) (v7 : Value) (g5 : Gh), Fr 65 a [(8, bp b8 0), (5, bp b5 0)] ∧ Le g4 g5 ∧ St g5 [[(l2, .loop (R1 .busy Option.none))], [(D1, .deferred (some []))], [bx b8 #[.i6 x5, .string x6, .string x7, v5, v7] 27], [bx b5 #[v2] 41], [bx b3 #[.i6 0, .i6 0] 29], [bx b2 #[nilS] 41], [bx b6 #[vp_1] 39], c3, c2] fr w ∧ RepSl g5 x8 v7 ∧ treepatch_Invert.j2 x2 x3 y3 x5 x6 x7 x8 = some x4) ?_ ?_
     ·refine wp_seq ?_
      refine wp_region_lit ?_
      refine wE (ev_fieldAddr' tu27 tf27_0 (z := 0) ts3 rfl ⟨_, rfl⟩ rfl) F S rfl fun a F=>?_
      refine wE (ev_load1 tu3 rfl rfl (box_ptr (cells := [.i6 y2.Kind]) 3 rfl 0 rfl (lb rfl))) F S rfl fun a F=>?_
      refine wpList_nil ?_
      refine then_n ?_
      refine wp_block ?_
      refine wp_seq ?_
      refine wp_region_lit ?_
      refine wE (ev_int rfl rfl (bo_eql _ _ _ _)) F S rfl fun a F=>?_
      refine wE (ev_assign rfl) F S rfl fun a F=>?_
      refine wpList_nil ?_
      refine then_n ?_
      obtain ⟨hc4, hm⟩ | ⟨hc4, hm⟩ := ite_or hm
      ·refine wp_condT F rfl hc4 ?_
       refine wp_region_lit ?_
       refine wE (ev_fieldAddr' tu27 tf27_0 (z := 0) ts3 rfl ⟨_, rfl⟩ rfl) F S rfl fun a F=>?_
       refine wl_storeC (wn rfl) rfl F S rfl rfl (vs := [.i6 2]) rfl ts3 (one_cons rfl one_nil) (k := 0) rfl (lb rfl) (c' := #[.i6 2, .string y3.Path, .string y3.To, v5, v6]) rfl rfl ?_; clear S; intro w S
       refine wpList_nil ?_
       refine inb_n ?_
       refine then_n ?_
       obtain ⟨g7, l8, S, h11⟩ : ∃ gz, Le g4 gz ∧ St gz [[bx b8 #[.i6 2, .string y3.Path, .string y3.To, v5, v6] 27], c3, [bx b7 #[.i6 y2.Kind, .string y2.Path, .string y2.To, v3, v4] 27], [(l2, .loop (R1 .busy Option.none))], [(D1, .deferred (some []))], [bx b6 #[vp_1] 39], [bx b5 #[v2] 41], [bx b3 #[.i6 0, .i6 0] 29], [bx b2 #[nilS] 41], c2] fr w ∧ RepSl gz y3.Patch.Hunks v6 := ⟨_, Le.add _ _, S.freeze 2 rfl, OwnS.freeze (S.front 2 rfl) h6⟩
       replace S : St g7 [[(l2, .loop (R1 .busy Option.none))], [(D1, .deferred (some []))], [bx b8 #[.i6 2, .string y3.Path, .string y3.To, v5, v6] 27], [bx b5 #[v2] 41], [bx b3 #[.i6 0, .i6 0] 29], [bx b2 #[nilS] 41], [bx b6 #[vp_1] 39], c3, c2] fr w := St.tail [[(l2, .loop (R1 .busy Option.none))], [(D1, .deferred (some []))], [bx b8 #[.i6 2, .string y3.Path, .string y3.To, v5, v6] 27], [bx b5 #[v2] 41], [bx b3 #[.i6 0, .i6 0] 29], [bx b2 #[nilS] 41], [bx b6 #[vp_1] 39], c3, c2] _ (((((((((S.frontC 9 rfl).frontC 2 rfl).frontC 7 rfl).frontC 11 rfl).frontC 11 rfl).frontC 11 rfl).frontC 6 rfl).frontC 11 rfl).frontC 11 rfl)
       exact ⟨2, y3.Path, y3.To, y3.Patch.Hunks, v6, g7, F.sub ⟨rfl, rfl, trivial⟩, l8, S, h11, hm⟩
      ·refine wp_condF F rfl hc4 ?_
       refine wp_seq ?_
       refine wp_region_lit ?_
       refine wE (ev_int rfl rfl (bo_eql _ _ _ _)) F S rfl fun a F=>?_
       refine wE (ev_assign rfl) F S rfl fun a F=>?_
       refine wpList_nil ?_
       refine then_n ?_
       obtain ⟨hc5, hm⟩ | ⟨hc5, hm⟩ := ite_or hm
       ·refine wp_condT F rfl hc5 ?_
        refine wp_region_lit ?_
        refine wE (ev_fieldAddr' tu27 tf27_0 (z := 0) ts3 rfl ⟨_, rfl⟩ rfl) F S rfl fun a F=>?_
        refine wl_storeC (wn rfl) rfl F S rfl rfl (vs := [.i6 1]) rfl ts3 (one_cons rfl one_nil) (k := 0) rfl (lb rfl) (c' := #[.i6 1, .string y3.Path, .string y3.To, v5, v6]) rfl rfl ?_; clear S; intro w S
        refine wpList_nil ?_
        refine inb_n ?_
        refine then_n ?_
        obtain ⟨g8, l9, S, h12⟩ : ∃ gz, Le g4 gz ∧ St gz [[bx b8 #[.i6 1, .string y3.Path, .string y3.To, v5, v6] 27], c3, [bx b7 #[.i6 y2.Kind, .string y2.Path, .string y2.To, v3, v4] 27], [(l2, .loop (R1 .busy Option.none))], [(D1, .deferred (some []))], [bx b6 #[vp_1] 39], [bx b5 #[v2] 41], [bx b3 #[.i6 0, .i6 0] 29], [bx b2 #[nilS] 41], c2] fr w ∧ RepSl gz y3.Patch.Hunks v6 := ⟨_, Le.add _ _, S.freeze 2 rfl, OwnS.freeze (S.front 2 rfl) h6⟩
        replace S : St g8 [[(l2, .loop (R1 .busy Option.none))], [(D1, .deferred (some []))], [bx b8 #[.i6 1, .string y3.Path, .string y3.To, v5, v6] 27], [bx b5 #[v2] 41], [bx b3 #[.i6 0, .i6 0] 29], [bx b2 #[nilS] 41], [bx b6 #[vp_1] 39], c3, c2] fr w := St.tail [[(l2, .loop (R1 .busy Option.none))], [(D1, .deferred (some []))], [bx b8 #[.i6 1, .string y3.Path, .string y3.To, v5, v6] 27], [bx b5 #[v2] 41], [bx b3 #[.i6 0, .i6 0] 29], [bx b2 #[nilS] 41], [bx b6 #[vp_1] 39], c3, c2] _ (((((((((S.frontC 9 rfl).frontC 2 rfl).frontC 7 rfl).frontC 11 rfl).frontC 11 rfl).frontC 11 rfl).frontC 6 rfl).frontC 11 rfl).frontC 11 rfl)
        exact ⟨1, y3.Path, y3.To, y3.Patch.Hunks, v6, g8, F.sub ⟨rfl, rfl, trivial⟩, l9, S, h12, hm⟩
       ·refine wp_condF F rfl hc5 ?_
        refine wp_seq ?_
        refine wp_region_lit ?_
        refine wE (ev_int rfl rfl (bo_eql _ _ _ _)) F S rfl fun a F=>?_
        refine wE (ev_assign rfl) F S rfl fun a F=>?_
        refine wpList_nil ?_
        refine then_n ?_
        obtain ⟨hc6, hm⟩ | ⟨hc6, hm⟩ := ite_or hm
        ·refine wp_condT F rfl hc6 ?_
         refine wp_dv [] mo S ?_; clear S; intro ok2 w S
         refine dv_et ok2 0 rfl (ev_fieldAddr' tu27 tf27_2 (z := 0) ts9 rfl ⟨_, rfl⟩ rfl) F rfl fun a F=>?_
         refine dv_ev ok2 1 rfl (ev_load1 tu9 rfl rfl (box_ptr (cells := [.string y2.To]) 3 rfl 2 rfl (lb rfl))) F S rfl fun a F=>?_
         refine dv_et ok2 2 rfl (ev_fieldAddr' tu27 tf27_1 (z := 0) ts9 rfl ⟨_, rfl⟩ rfl) F rfl fun a F=>?_
         refine dv_ev ok2 3 rfl (ev_load1 tu9 rfl rfl (box_ptr (cells := [.string y2.Path]) 3 rfl 1 rfl (lb rfl))) F S rfl fun a F=>?_
         refine dv_et ok2 4 rfl (ev_fieldAddr' tu27 tf27_1 (z := 0) ts9 rfl ⟨_, rfl⟩ rfl) F rfl fun a F=>?_
         refine dv_op ok2 5 rfl [(3, .string y2.Path)] ?_
         refine wl_storeC (wn rfl) rfl F S rfl rfl (vs := [.string y2.To]) rfl ts9 (one_cons rfl one_nil) (k := 0) rfl (lb rfl) (c' := #[.i6 y3.Kind, .string y2.To, .string y3.To, v5, v6]) rfl rfl ?_; clear S; intro w S
         refine dv_nx ⟨yl_ev rfl rfl (ev_load1 tu9 rfl rfl (box_ptr (cells := [.string y2.Path]) 3 rfl 1 rfl (lb rfl))) F S, trivial⟩ ?_
         refine dv_et ok2 6 rfl (ev_fieldAddr' tu27 tf27_2 (z := 0) ts9 rfl ⟨_, rfl⟩ rfl) F rfl fun a F=>?_
         refine dv_op ok2 7 rfl [] ?_
         refine wl_storeC (wn rfl) rfl F S rfl rfl (vs := [.string y2.Path]) rfl ts9 (one_cons rfl one_nil) (k := 0) rfl (lb rfl) (c' := #[.i6 y3.Kind, .string y2.To, .string y2.Path, v5, v6]) rfl rfl ?_; clear S; intro w S
         refine dv_nx trivial ?_
         refine dv_fin ok2 ?_
         refine inb_n ?_
         refine then_n ?_
         obtain ⟨g9, l10, S, h13⟩ : ∃ gz, Le g4 gz ∧ St gz [[bx b8 #[.i6 y3.Kind, .string y2.To, .string y2.Path, v5, v6] 27], c3, [bx b7 #[.i6 y2.Kind, .string y2.Path, .string y2.To, v3, v4] 27], [(l2, .loop (R1 .busy Option.none))], [(D1, .deferred (some []))], [bx b6 #[vp_1] 39], [bx b5 #[v2] 41], [bx b3 #[.i6 0, .i6 0] 29], [bx b2 #[nilS] 41], c2] fr w ∧ RepSl gz y3.Patch.Hunks v6 := ⟨_, Le.add _ _, S.freeze 2 rfl, OwnS.freeze (S.front 2 rfl) h6⟩
         replace S : St g9 [[(l2, .loop (R1 .busy Option.none))], [(D1, .deferred (some []))], [bx b8 #[.i6 y3.Kind, .string y2.To, .string y2.Path, v5, v6] 27], [bx b5 #[v2] 41], [bx b3 #[.i6 0, .i6 0] 29], [bx b2 #[nilS] 41], [bx b6 #[vp_1] 39], c3, c2] fr w := St.tail [[(l2, .loop (R1 .busy Option.none))], [(D1, .deferred (some []))], [bx b8 #[.i6 y3.Kind, .string y2.To, .string y2.Path, v5, v6] 27], [bx b5 #[v2] 41], [bx b3 #[.i6 0, .i6 0] 29], [bx b2 #[nilS] 41], [bx b6 #[vp_1] 39], c3, c2] _ (((((((((S.frontC 9 rfl).frontC 2 rfl).frontC 7 rfl).frontC 11 rfl).frontC 11 rfl).frontC 11 rfl).frontC 6 rfl).frontC 11 rfl).frontC 11 rfl)
         exact ⟨y3.Kind, y2.To, y2.Path, y3.Patch.Hunks, v6, g9, F.sub ⟨rfl, rfl, trivial⟩, l10, S, h13, hm⟩
        ·refine wp_condF F rfl hc6 ?_
         refine wp_seq ?_
         refine wp_region_lit ?_
         refine wE (ev_fieldAddr' tu27 tf27_4 (z := 0) ts25 rfl ⟨_, rfl⟩ rfl) F S rfl fun a F=>?_
         refine wE (ev_loadA tu25 rfl (cs := [v4]) ts25 rfl (box_ptr (cells := [v4]) 3 rfl 4 rfl (lb rfl))) F S rfl fun a F=>?_
         obtain ⟨y5, hy5, hm⟩ := bind_some hm
         refine wl_call0 (wn rfl) rfl F rfl (textpatch_Invert_ok (fr := (fl [[bx b8 #[.i6 y3.Kind, .string y3.Path, .string y3.To, v5, v6] 27], c3, c4, [bx b7 #[.i6 y2.Kind, .string y2.Path, .string y2.To, v3, v4] 27], [(l2, .loop (R1 .busy Option.none))], [(D1, .deferred (some []))], [bx b6 #[vp_1] 39], [bx b5 #[v2] 41], [bx b3 #[.i6 0, .i6 0] 29], [bx b2 #[nilS] 41], c2] fr)) y2.Patch v4 (h4.mono l5) S hy5) rfl tc61 rfl rfl ?_; clear F a S
         rintro _ a w ⟨g10, v10, l11, S, h14, rfl⟩ F; replace S : St g10 [[bx b8 #[.i6 y3.Kind, .string y3.Path, .string y3.To, v5, v6] 27], c3, c4, [bx b7 #[.i6 y2.Kind, .string y2.Path, .string y2.To, v3, v4] 27], [(l2, .loop (R1 .busy Option.none))], [(D1, .deferred (some []))], [bx b6 #[vp_1] 39], [bx b5 #[v2] 41], [bx b3 #[.i6 0, .i6 0] 29], [bx b2 #[nilS] 41], c2] fr w := S
         refine wE (ev_move rfl) F S rfl fun a F=>?_
         refine wE (ev_extract rfl rfl) F S rfl fun a F=>?_
         refine wE (ev_extract rfl rfl) F S rfl fun a F=>?_
         refine wl_alloc (wn rfl) rfl tz25 (cs := [nilS]) rfl F S rfl rfl ?_; clear F a S; rintro b9 a w F S
         refine wl_alloc (wn rfl) rfl tz29 (cs := [.i6 0, .i6 0]) rfl F S rfl rfl ?_; clear F a S; rintro b10 a w F S
         refine wl_storeC (wn rfl) rfl F S rfl rfl (vs := [v10]) rfl ts25 (one_cons h14.one one_nil) (k := 1) rfl (lb rfl) (c' := #[v10]) rfl rfl ?_; clear S; intro w S
         refine wl_storeC (wn rfl) rfl F S rfl rfl (vs := [.i6 y5.2.Code, .i6 y5.2.Index]) rfl ts29 (one_cons rfl (one_cons rfl one_nil)) (k := 0) rfl (lb rfl) (c' := #[.i6 y5.2.Code, .i6 y5.2.Index]) rfl rfl ?_; clear S; intro w S
         refine wpList_nil ?_
         refine then_n ?_
         refine wp_seq ?_
         refine wp_seq ?_
         refine wp_region_lit ?_
         refine wE (ev_loadA tu29 rfl (cs := [.i6 y5.2.Code, .i6 y5.2.Index]) ts29 rfl (box_ptr (cells := [.i6 y5.2.Code, .i6 y5.2.Index]) 0 rfl 0 rfl (lb rfl))) F S rfl fun a F=>?_
         refine wE (ev_build (parts := []) (vs := []) rfl (fun w => tb29_  w)) F S rfl fun a F=>?_
         refine wE (ev_neS tu29 tqa29 tqb29 tqc29 (xs := [.i6 y5.2.Code, .i6 y5.2.Index]) (ys := [.i6 0, .i6 0]) rfl rfl ⟨_, _, rfl, by decide, ⟨_, _, rfl, rfl, leaf_int tu3⟩, ⟨_, _, rfl, by decide, ⟨_, _, rfl, rfl, leaf_int tu3⟩, rfl⟩⟩) F S rfl fun a F=>?_
         refine wpList_nil ?_
         refine then_n ?_
         obtain ⟨hc7, hm⟩ | ⟨hc7, hm⟩ := ite_or hm
         ·refine wp_condT F rfl hc7 ?_
          refine wp_seq ?_
          refine wp_dv [] mo S ?_; clear S; intro ok3 w S
          refine dv_et ok3 0 rfl (ev_build (parts := []) (vs := []) rfl (fun w => tb41_  w)) F rfl fun a F=>?_
          refine dv_et ok3 1 rfl (ev_fieldAddr' tu29 tf29_0 (z := 0) ts3 rfl ⟨_, rfl⟩ rfl) F rfl fun a F=>?_
          refine dv_ev ok3 2 rfl (ev_load1 tu3 rfl rfl (box_ptr (cells := [.i6 y5.2.Code]) 0 rfl 0 rfl (lb rfl))) F S rfl fun a F=>?_
          refine dv_et ok3 3 rfl (ev_move rfl) F rfl fun a F=>?_
          refine dv_et ok3 4 rfl (ev_build (parts := [(0, .tmp 38), (1, .tmp 39)]) (vs := [(0, .i6 y5.2.Code), (1, .i6 x2)]) rfl (fun w => tb29_0_1 y5.2.Code x2 w)) F rfl fun a F=>?_
          refine dv_op ok3 5 rfl [(2, .i6 y5.2.Code)] ?_
          refine wl_storeC (wn rfl) rfl F S rfl rfl (vs := [nilS]) rfl ts41 (one_cons rfl one_nil) (k := 11) rfl (lb rfl) (c' := #[nilS]) rfl rfl ?_; clear S; intro w S
          refine dv_nx ⟨yl_ev rfl rfl (ev_load1 tu3 rfl rfl (box_ptr (cells := [.i6 y5.2.Code]) 0 rfl 0 rfl (lb rfl))) F S, trivial⟩ ?_
          refine dv_op ok3 6 rfl [] ?_
          refine wl_storeC (wn rfl) rfl F S rfl rfl (vs := [.i6 y5.2.Code, .i6 x2]) rfl ts29 (one_cons rfl (one_cons rfl one_nil)) (k := 10) rfl (lb rfl) (c' := #[.i6 y5.2.Code, .i6 x2]) rfl rfl ?_; clear S; intro w S
          refine dv_nx trivial ?_
          refine dv_fin ok3 ?_
          refine then_n ?_
          refine wp_ret ?_
          refine then_r ?_
          refine inb_r ?_
          refine then_r ?_
          refine inb_r ?_
          refine round_r S 6 rfl hR1 ?_; clear F S a; intro w S; refine ⟨_, rfl, ?_⟩; intro a F
          replace S : St g10 [[bx b10 #[.i6 y5.2.Code, .i6 y5.2.Index] 29], [bx b9 #[v10] 25], [bx b8 #[.i6 y3.Kind, .string y3.Path, .string y3.To, v5, v6] 27], c3, c4, [bx b7 #[.i6 y2.Kind, .string y2.Path, .string y2.To, v3, v4] 27], [(l2, .loop (R1 .done (some .ret)))], [(D1, .deferred (some []))], [bx b6 #[vp_1] 39], [bx b5 #[v2] 41], [bx b3 #[.i6 y5.2.Code, .i6 x2] 29], [bx b2 #[nilS] 41], c2] fr w := S
          replace F : Fr 19 a [(17, .bool false), (3, .i6 x2), (0, .func (.yield l2) #[] #[]), (1, bp b6 0)] := F
          refine wE (ev_not rfl) F S rfl fun a F=>?_
          refine wpList_nil ?_
          refine then_n ?_
          refine wp_condT F rfl rfl ?_
          refine wp_ret ?_
          refine inb_r ?_
          refine then_r ?_
          refine then_r ?_
          refine inb_r ?_
          refine then_r ?_
          obtain rfl := sinj hm
          obtain rfl := hfin1 _ rfl
          clear hm
          have hm : (some (({ Changes := [] } : TreePatch), ({ Code := y5.2.Code, Index := x2 } : Fault)) : Option (TreePatch × Fault)) = some _ := hmo1
          refine post_r _ F rfl ar_nil ?_
          refine ⟨_, rfl, ?_⟩; refine rp_r S 6 rfl hR1 ?_; clear F S; intro w S a F
          replace S : St g10 [[bx b10 #[.i6 y5.2.Code, .i6 y5.2.Index] 29], [bx b9 #[v10] 25], [bx b8 #[.i6 y3.Kind, .string y3.Path, .string y3.To, v5, v6] 27], c3, c4, [bx b7 #[.i6 y2.Kind, .string y2.Path, .string y2.To, v3, v4] 27], [(D1, .deferred (some []))], [bx b6 #[vp_1] 39], [bx b5 #[v2] 41], [bx b3 #[.i6 y5.2.Code, .i6 x2] 29], [bx b2 #[nilS] 41], c2] fr w := S
          replace F : Fr ⟨65, [mkD D1]⟩ a [(5, bp b5 0), (3, bp b3 0), (2, bp b2 0)] := F
          refine inb_r ?_
          refine then_r ?_
          obtain rfl := sinj hm
          replace S : St g10 [[], [bx b10 #[.i6 y5.2.Code, .i6 y5.2.Index] 29], [bx b9 #[v10] 25], [bx b8 #[.i6 y3.Kind, .string y3.Path, .string y3.To, v5, v6] 27], c3, c4, [bx b7 #[.i6 y2.Kind, .string y2.Path, .string y2.To, v3, v4] 27], [(D1, .deferred (some []))], [bx b6 #[vp_1] 39], [bx b5 #[v2] 41], [bx b3 #[.i6 y5.2.Code, .i6 x2] 29], [bx b2 #[nilS] 41], c2] fr w := S
          refine post_rM (fn := Tryd.f28) (rs := [.cell 2 41, .cell 3 29]) [.agg #[nilS], .agg #[.i6 y5.2.Code, .i6 x2]] F S 7 rfl rfl (fun w S => (ar_cons (resA rfl tu41 rfl (box_ptr (cells := [nilS]) 11 rfl 0 rfl (lb rfl) w S) ts41) (ar_cons (resA rfl tu29 rfl (box_ptr (cells := [.i6 y5.2.Code, .i6 x2]) 10 rfl 0 rfl (lb rfl) w S) ts29) ar_nil))) ?_; clear S; intro w S; replace S : St g10 [[], [bx b10 #[.i6 y5.2.Code, .i6 y5.2.Index] 29], [bx b9 #[v10] 25], [bx b8 #[.i6 y3.Kind, .string y3.Path, .string y3.To, v5, v6] 27], c3, c4, [bx b7 #[.i6 y2.Kind, .string y2.Path, .string y2.To, v3, v4] 27], [bx b6 #[vp_1] 39], [bx b5 #[v2] 41], [bx b3 #[.i6 y5.2.Code, .i6 x2] 29], [bx b2 #[nilS] 41], c2] fr w := S
          replace S : St g10 [[]] fr w := St.tail [[]] _ (S.frontC 0 rfl)
          exact ⟨_, rfl, g10, (nilS), [], (((l1.trans l4).trans l5).trans l11), S, (OwnS.nil _), rfl⟩
         ·refine wp_condF F rfl hc7 ?_
          refine wp_skip ?_
          refine then_n ?_
          refine wp_region_lit ?_
          refine wE (ev_loadA tu25 rfl (cs := [v10]) ts25 rfl (box_ptr (cells := [v10]) 1 rfl 0 rfl (lb rfl))) F S rfl fun a F=>?_
          refine wE (ev_fieldAddr' tu27 tf27_4 (z := 0) ts25 rfl ⟨_, rfl⟩ rfl) F S rfl fun a F=>?_
          refine wl_storeC (wn rfl) rfl F S rfl rfl (vs := [v10]) rfl ts25 (one_cons h14.one one_nil) (k := 2) rfl (lb rfl) (c' := #[.i6 y3.Kind, .string y3.Path, .string y3.To, v5, v10]) rfl rfl ?_; clear S; intro w S
          refine wpList_nil ?_
          refine inb_n ?_
          refine then_n ?_
          replace S : St g10 [[(l2, .loop (R1 .busy Option.none))], [(D1, .deferred (some []))], [bx b8 #[.i6 y3.Kind, .string y3.Path, .string y3.To, v5, v10] 27], [bx b5 #[v2] 41], [bx b3 #[.i6 0, .i6 0] 29], [bx b2 #[nilS] 41], [bx b6 #[vp_1] 39], c3, c2] fr w := St.tail [[(l2, .loop (R1 .busy Option.none))], [(D1, .deferred (some []))], [bx b8 #[.i6 y3.Kind, .string y3.Path, .string y3.To, v5, v10] 27], [bx b5 #[v2] 41], [bx b3 #[.i6 0, .i6 0] 29], [bx b2 #[nilS] 41], [bx b6 #[vp_1] 39], c3, c2] _ (((((((((S.frontC 12 rfl).frontC 4 rfl).frontC 10 rfl).frontC 14 rfl).frontC 14 rfl).frontC 14 rfl).frontC 8 rfl).frontC 14 rfl).frontC 14 rfl)
          exact ⟨y3.Kind, y3.Path, y3.To, y5.1.Hunks, v10, g10, F.sub ⟨rfl, rfl, trivial⟩, l11, S, h14, hm⟩
     ·clear F S hm; rintro a w ⟨x5, x6, x7, x8, v7, g5, F, l6, S, h7, hm⟩
      refine wp_region_lit ?_
      refine wE (ev_fieldAddr' tu41 tf41_0 (z := 0) ts39 rfl ⟨_, rfl⟩ rfl) F S rfl fun a F=>?_
      refine wE (ev_load1 tu39 rfl rfl (box_ptr (cells := [v2]) 3 rfl 0 rfl (lb rfl))) F S rfl fun a F=>?_
      refine wE (ev_loadA tu27 rfl (cs := [.i6 x5, .string x6, .string x7, v5, v7]) ts27 rfl (box_ptr (cells := [.i6 x5, .string x6, .string x7, v5, v7]) 2 rfl 0 rfl (lb rfl))) F S rfl fun a F=>?_
      obtain ⟨g6, l7, S, h8⟩ : ∃ gz, Le g5 gz ∧ St gz [[(l2, .loop (R1 .busy Option.none))], [(D1, .deferred (some []))], [bx b8 #[.i6 x5, .string x6, .string x7, v5, v7] 27], [bx b5 #[v2] 41], [bx b3 #[.i6 0, .i6 0] 29], [bx b2 #[nilS] 41], [bx b6 #[vp_1] 39], c2] fr w ∧ RepSl gz y3.Lines v5 := ⟨_, Le.add _ _, S.freeze 7 rfl, OwnS.freeze (S.front 7 rfl) (h5.mono l6)⟩
      refine wl_lit (l := ([({ Kind := x5, Path := x6, To := x7, Lines := y3.Lines, Patch := ({ Hunks := x8 } : Patch) } : TreeChange)] : List TreeChange)) (vs := [.agg #[.i6 x5, .string x6, .string x7, v5, v7]]) (parts := [(0, .tmp 59)]) (wn rfl) rfl rfl rfl tu39 te27 (sz_cons rfl sz_nil) rfl (Cat.cons (rep_TreeChange_mk (x := ({ Kind := x5, Path := x6, To := x7, Lines := y3.Lines, Patch := ({ Hunks := x8 } : Patch) } : TreeChange)) h8 (h7.mono l7)) (Cat.nil _)) (coa_cons rfl coa_nil) rfl F S rfl rfl ?_; clear F a S
      rintro v8 c5 a w h9 F S
      obtain ⟨cs2, hk1, hr3⟩ := OwnS.reads h9
      obtain ⟨y4, hy4, hm⟩ := bind_some hm
      refine wl_append (wn rfl) rfl tu39 tu39 te27 (by decide) (by decide) F S rfl rfl (k := 8) rfl (h2.mono ((l5.trans l6).trans l7)) hk1 rfl (hr3 _ _ _ 0 rfl S) hy4 rfl rfl ?_; clear F a S
      rintro v9 c6 a w h10 S F; replace S : St g6 [c5, [(l2, .loop (R1 .busy Option.none))], [(D1, .deferred (some []))], [bx b8 #[.i6 x5, .string x6, .string x7, v5, v7] 27], [bx b5 #[v2] 41], [bx b3 #[.i6 0, .i6 0] 29], [bx b2 #[nilS] 41], [bx b6 #[vp_1] 39], c6] fr w := S
      refine wE (ev_fieldAddr' tu41 tf41_0 (z := 0) ts39 rfl ⟨_, rfl⟩ rfl) F S rfl fun a F=>?_
      refine wl_storeC (wn rfl) rfl F S rfl rfl (vs := [v9]) (OwnS.cl h10) ts39 (one_cons (OwnS.one h10) one_nil) (k := 4) rfl (lb rfl) (c' := #[v9]) rfl rfl ?_; clear S; intro w S
      refine wpList_nil ?_
      refine inb_n ?_
      refine round_n S 1 rfl hR1 ?_; clear F S a; intro w S; refine ⟨_, rfl, ?_⟩; intro a F
      replace S : St g6 [c5, [(l2, .loop (R1 .ready Option.none))], [(D1, .deferred (some []))], [bx b8 #[.i6 x5, .string x6, .string x7, v5, v7] 27], [bx b5 #[v9] 41], [bx b3 #[.i6 0, .i6 0] 29], [bx b2 #[nilS] 41], [bx b6 #[vp_1] 39], c6] fr w := S
      replace F : Fr 19 a [(17, .bool true), (3, .i6 x2), (0, .func (.yield l2) #[] #[]), (1, bp b6 0)] := F
      refine wE (ev_not rfl) F S rfl fun a F=>?_
      refine wpList_nil ?_
      refine then_n ?_
      refine wp_condF F rfl rfl ?_
      refine wp_skip ?_
      refine inb_n ?_
      refine then_n ?_
      refine wp_region_lit ?_
      refine wE (ev_move rfl) F S rfl fun a F=>?_
      obtain ⟨z2, hz2, hm⟩ := bind_some hm
      refine wE (ev_int rfl rfl (bo_sub hz2)) F S rfl fun a F=>?_
      refine wE (ev_assign rfl) F S rfl fun a F=>?_
      refine wpList_nil ?_
      refine then_n ?_
      obtain rfl := sinj hm
      refine ⟨_, rfl, ?_⟩
      dsimp only
      replace S : St g6 [[(l2, .loop (R1 .ready Option.none))], [(D1, .deferred (some []))], [bx b6 #[vp_1] 39], [bx b5 #[v9] 41], [bx b3 #[.i6 0, .i6 0] 29], [bx b2 #[nilS] 41], c6] fr w := St.tail [[(l2, .loop (R1 .ready Option.none))], [(D1, .deferred (some []))], [bx b6 #[vp_1] 39], [bx b5 #[v9] 41], [bx b3 #[.i6 0, .i6 0] 29], [bx b2 #[nilS] 41], c6] _ (((((((S.frontC 8 rfl).frontC 7 rfl).frontC 7 rfl).frontC 7 rfl).frontC 11 rfl).frontC 7 rfl).frontC 7 rfl)
      exact ⟨v9, c6, g6, F.sub ⟨rfl, rfl, rfl, trivial⟩, (((l4.trans l5).trans l6).trans l7), S, h10⟩
    ·refine wp_condF F rfl hc2 ?_
     refine wp_exit ?_
     refine then_e ?_
     refine then_e ?_
     refine inb_x ?_
     refine then_n ?_
     obtain rfl := sinj hm
     obtain rfl := hfin1 _ rfl
     clear hm
     have hm : (treepatch_Invert.j1 x3 : Option (TreePatch × Fault)) = some _ := hmo1
     replace S : St g3 [[(l2, .loop (R1 .ready Option.none))], [(D1, .deferred (some []))], [bx b5 #[v2] 41], [bx b3 #[.i6 0, .i6 0] 29], [bx b2 #[nilS] 41], c2] fr w := St.tail [[(l2, .loop (R1 .ready Option.none))], [(D1, .deferred (some []))], [bx b5 #[v2] 41], [bx b3 #[.i6 0, .i6 0] 29], [bx b2 #[nilS] 41], c2] _ ((((((S.frontC 6 rfl).frontC 6 rfl).frontC 6 rfl).frontC 6 rfl).frontC 5 rfl).frontC 5 rfl)
     exact ⟨x3, v2, c2, g3, F.sub trivial, l4, S, h2, hm⟩
  ·clear F S hm; rintro a w ⟨x1, v1, c1, g2, F, l3, S, h1, hm⟩
   refine post_n _ F rfl ar_nil ?_
   refine ⟨_, rfl, ?_⟩; refine rp_n S 0 rfl hR1 ?_; clear F S; intro w S a F
   replace S : St g2 [[(D1, .deferred (some []))], [bx b5 #[v1] 41], [bx b3 #[.i6 0, .i6 0] 29], [bx b2 #[nilS] 41], c1] fr w := S
   replace F : Fr ⟨65, [mkD D1]⟩ a [(5, bp b5 0), (3, bp b3 0), (2, bp b2 0)] := F
   refine inb_n ?_
   refine then_n ?_
   refine wp_seq ?_
   refine wp_region_lit ?_
   refine wE (ev_loadA tu41 rfl (cs := [v1]) ts41 rfl (box_ptr (cells := [v1]) 1 rfl 0 rfl (lb rfl))) F S rfl fun a F=>?_
   refine wE (ev_build (parts := []) (vs := []) rfl (fun w => tb29_  w)) F S rfl fun a F=>?_
   refine wl_storeC (wn rfl) rfl F S rfl rfl (vs := [v1]) rfl ts41 (one_cons (OwnS.one h1) one_nil) (k := 3) rfl (lb rfl) (c' := #[v1]) rfl rfl ?_; clear S; intro w S
   refine wl_storeC (wn rfl) rfl F S rfl rfl (vs := [.i6 0, .i6 0]) rfl ts29 (one_cons rfl (one_cons rfl one_nil)) (k := 2) rfl (lb rfl) (c' := #[.i6 0, .i6 0]) rfl rfl ?_; clear S; intro w S
   refine wpList_nil ?_
   refine then_n ?_
   refine wp_ret ?_
   obtain rfl := sinj hm
   refine post_rM (fn := Tryd.f28) (rs := [.cell 2 41, .cell 3 29]) [.agg #[v1], .agg #[.i6 0, .i6 0]] F S 0 rfl rfl (fun w S => (ar_cons (resA rfl tu41 rfl (box_ptr (cells := [v1]) 3 rfl 0 rfl (lb rfl) w S) ts41) (ar_cons (resA rfl tu29 rfl (box_ptr (cells := [.i6 0, .i6 0]) 2 rfl 0 rfl (lb rfl) w S) ts29) ar_nil))) ?_; clear S; intro w S; replace S : St g2 [[bx b5 #[v1] 41], [bx b3 #[.i6 0, .i6 0] 29], [bx b2 #[v1] 41], c1] fr w := S
   replace S : St g2 [c1] fr w := St.tail [c1] _ (S.frontC 3 rfl)
   exact ⟨_, rfl, g2, v1, c1, (l1.trans l3), S, h1, rfl⟩

theorem changeforgelaw2_TreepatchUndo_ok {g : Gh} {fr : Hl} {w : World} {r : Bool} (p_ : TreePatch) (vp_1 : Value) (hp_1 : RepSl g p_.Changes vp_1) (t_ : FileTree) (vt_1 : Value) (ht_1 : RepSl g t_.Files vt_1) (S : St g [] fr w) (hm : changeforgelaw2_TreepatchUndo p_ t_ = some r) :
  Calls Tryd.prog 9 [.agg #[vp_1], .agg #[vt_1]].toArray w (fun en w' => ∃ v, en = .returned v ∧ ∃ (g' : Gh), Le g g' ∧ St g' [] fr w' ∧ .bool r = v) := by
 unfold changeforgelaw2_TreepatchUndo at hm
 refine calls_enter (fn := Tryd.f9) Tryd.func9 rfl Tryd.ntmps9 (lb rfl) ?_
 intro a F
 replace F : Fr 48 a [(0, .agg #[vp_1]), (1, .agg #[vt_1])] := F
 refine wp_seq ?_
 refine wp_region_lit ?_
 refine wl_boxC (wn rfl) rfl rfl rfl F S rfl rfl ?_; clear F a S; rintro b1 a w F S
 refine wl_boxC (wn rfl) rfl rfl rfl F S rfl rfl ?_; clear F a S; rintro b2 a w F S
 refine wE (ev_assign rfl) F S rfl fun a F=>?_
 refine wpList_nil ?_
 refine then_n ?_
 refine wp_seq ?_
 refine wp_region_lit ?_
 refine wE (ev_loadA tu41 rfl (cs := [vp_1]) ts41 rfl (box_ptr (cells := [vp_1]) 1 rfl 0 rfl (lb rfl))) F S rfl fun a F=>?_
 refine wE (ev_loadA tu44 rfl (cs := [vt_1]) ts44 rfl (box_ptr (cells := [vt_1]) 0 rfl 0 rfl (lb rfl))) F S rfl fun a F=>?_
 obtain ⟨y1, hy1, hm⟩ := bind_some hm
 refine wl_call0 (wn rfl) rfl F rfl (treepatch_Apply_ok (fr := (fl [[bx b2 #[vt_1] 44], [bx b1 #[vp_1] 41]] fr)) p_ vp_1 hp_1 t_ vt_1 ht_1 S hy1) rfl tc18 rfl rfl ?_; clear F a S
 rintro _ a w ⟨g1, v1, c1, l1, S, h1, rfl⟩ F; replace S : St g1 [c1, [bx b2 #[vt_1] 44], [bx b1 #[vp_1] 41]] fr w := S
 refine wE (ev_move rfl) F S rfl fun a F=>?_
 refine wE (ev_extract rfl rfl) F S rfl fun a F=>?_
 refine wE (ev_extract rfl rfl) F S rfl fun a F=>?_
 refine wl_alloc (wn rfl) rfl tz44 (cs := [nilS]) rfl F S rfl rfl ?_; clear F a S; rintro b3 a w F S
 refine wl_alloc (wn rfl) rfl tz29 (cs := [.i6 0, .i6 0]) rfl F S rfl rfl ?_; clear F a S; rintro b4 a w F S
 refine wl_storeC (wn rfl) rfl F S rfl rfl (vs := [v1]) rfl ts44 (one_cons (OwnS.one h1) one_nil) (k := 1) rfl (lb rfl) (c' := #[v1]) rfl rfl ?_; clear S; intro w S
 refine wl_storeC (wn rfl) rfl F S rfl rfl (vs := [.i6 y1.2.Code, .i6 y1.2.Index]) rfl ts29 (one_cons rfl (one_cons rfl one_nil)) (k := 0) rfl (lb rfl) (c' := #[.i6 y1.2.Code, .i6 y1.2.Index]) rfl rfl ?_; clear S; intro w S
 refine wpList_nil ?_
 refine then_n ?_
 refine wp_seq ?_
 refine wp_region_lit ?_
 refine wE (ev_loadA tu41 rfl (cs := [vp_1]) ts41 rfl (box_ptr (cells := [vp_1]) 4 rfl 0 rfl (lb rfl))) F S rfl fun a F=>?_
 obtain ⟨y2, hy2, hm⟩ := bind_some hm
 refine wl_call0 (wn rfl) rfl F rfl (treepatch_Invert_ok (fr := (fl [[bx b4 #[.i6 y1.2.Code, .i6 y1.2.Index] 29], [bx b3 #[v1] 44], c1, [bx b2 #[vt_1] 44], [bx b1 #[vp_1] 41]] fr)) p_ vp_1 (hp_1.mono l1) S hy2) rfl tc28 rfl rfl ?_; clear F a S
 rintro _ a w ⟨g2, v2, c2, l2, S, h2, rfl⟩ F; replace S : St g2 [c2, [bx b4 #[.i6 y1.2.Code, .i6 y1.2.Index] 29], [bx b3 #[v1] 44], c1, [bx b2 #[vt_1] 44], [bx b1 #[vp_1] 41]] fr w := S
 refine wE (ev_move rfl) F S rfl fun a F=>?_
 refine wE (ev_extract rfl rfl) F S rfl fun a F=>?_
 refine wE (ev_extract rfl rfl) F S rfl fun a F=>?_
 refine wl_alloc (wn rfl) rfl tz41 (cs := [nilS]) rfl F S rfl rfl ?_; clear F a S; rintro b5 a w F S
 refine wl_alloc (wn rfl) rfl tz29 (cs := [.i6 0, .i6 0]) rfl F S rfl rfl ?_; clear F a S; rintro b6 a w F S
 refine wl_storeC (wn rfl) rfl F S rfl rfl (vs := [v2]) rfl ts41 (one_cons (OwnS.one h2) one_nil) (k := 1) rfl (lb rfl) (c' := #[v2]) rfl rfl ?_; clear S; intro w S
 refine wl_storeC (wn rfl) rfl F S rfl rfl (vs := [.i6 y2.2.Code, .i6 y2.2.Index]) rfl ts29 (one_cons rfl (one_cons rfl one_nil)) (k := 0) rfl (lb rfl) (c' := #[.i6 y2.2.Code, .i6 y2.2.Index]) rfl rfl ?_; clear S; intro w S
 refine wpList_nil ?_
 refine then_n ?_
 refine wp_seq ?_
 refine wp_seq ?_
 refine wp_region_lit ?_
 refine wE (ev_fieldAddr' tu29 tf29_0 (z := 0) ts3 rfl ⟨_, rfl⟩ rfl) F S rfl fun a F=>?_
 refine wE (ev_load1 tu3 rfl rfl (box_ptr (cells := [.i6 y1.2.Code]) 3 rfl 0 rfl (lb rfl))) F S rfl fun a F=>?_
 refine wE (ev_int rfl rfl (bo_neq _ _ _ _)) F S rfl fun a F=>?_
 refine wE (ev_move rfl) F S rfl fun a F=>?_
 obtain ⟨x1, hx1, hm⟩ := bind_some hm
 refine wl_cut 4 (fun a w' => w = w' ∧ Fr 48 a [(29, .bool x1), (7, bp b5 0), (5, bp b3 0), (3, bp b2 0)]) ?_ ?_
 ·clear hm; obtain ⟨hc1, hm⟩ | ⟨hc1, hm⟩ := ite_or hx1
  ·refine wl_skip rfl rfl rfl rfl (ne_ft hc1) F rfl rfl ?_; clear F a; intro a F
   refine wl_skip rfl rfl rfl rfl (ne_ft hc1) F rfl rfl ?_; clear F a; intro a F
   refine wl_skip rfl rfl rfl rfl (ne_ft hc1) F rfl rfl ?_; clear F a; intro a F
   refine wE (ev_pickT rfl hc1 rfl) F S rfl fun a F=>?_
   obtain rfl := sinj hm
   refine wpList_nil (then_n ?_); exact ⟨rfl, F.sub ⟨rfl, rfl, rfl, rfl, trivial⟩⟩
  ·refine wl_ev (wg F rfl rfl rfl rfl hc1) (ev_fieldAddr' tu29 tf29_0 (z := 0) ts3 rfl ⟨_, rfl⟩ rfl) F S rfl rfl ?_; clear F a; intro a F
   refine wl_ev (wg F rfl rfl rfl rfl hc1) (ev_load1 tu3 rfl rfl (box_ptr (cells := [.i6 y2.2.Code]) 0 rfl 0 rfl (lb rfl))) F S rfl rfl ?_; clear F a; intro a F
   refine wl_ev (wg F rfl rfl rfl rfl hc1) (ev_int rfl rfl (bo_neq _ _ _ _)) F S rfl rfl ?_; clear F a; intro a F
   refine wE (ev_pickF rfl hc1 rfl) F S rfl fun a F=>?_
   obtain rfl := sinj hm
   refine wpList_nil (then_n ?_); exact ⟨rfl, F.sub ⟨rfl, rfl, rfl, rfl, trivial⟩⟩
 clear F; rintro a w' ⟨rfl, F⟩
 refine wpList_nil ?_
 refine then_n ?_
 obtain ⟨hc2, hm⟩ | ⟨hc2, hm⟩ := ite_or hm
 ·refine wp_condT F rfl hc2 ?_
  refine wp_seq ?_
  refine wp_region_lit ?_
  obtain ⟨y3, hy3, hm⟩ := bind_some hm
  refine wl_call0 (wn rfl) rfl F rfl (changeforgelaw2_renamed_ok (fr := (fl [[bx b6 #[.i6 y2.2.Code, .i6 y2.2.Index] 29], [bx b5 #[v2] 41], c2, [bx b4 #[.i6 y1.2.Code, .i6 y1.2.Index] 29], [bx b3 #[v1] 44], c1, [bx b2 #[vt_1] 44], [bx b1 #[vp_1] 41]] fr))  S hy3) rfl tc27 rfl rfl ?_; clear F a S
  rintro _ a w ⟨g3, l3, S, rfl⟩ F; replace S : St g3 [[bx b6 #[.i6 y2.2.Code, .i6 y2.2.Index] 29], [bx b5 #[v2] 41], c2, [bx b4 #[.i6 y1.2.Code, .i6 y1.2.Index] 29], [bx b3 #[v1] 44], c1, [bx b2 #[vt_1] 44], [bx b1 #[vp_1] 41]] fr w := S
  refine wE (ev_assign rfl) F S rfl fun a F=>?_
  refine wpList_nil ?_
  refine then_n ?_
  refine wp_ret ?_
  refine then_r ?_
  obtain rfl := sinj hm
  refine post_r _ F rfl (ar_cons (resT rfl) ar_nil) ?_
  replace S : St g3 [] fr w := St.tail [] _ S
  exact ⟨_, rfl, g3, ((l1.trans l2).trans l3), S, rfl⟩
 ·refine wp_condF F rfl hc2 ?_
  refine wp_skip ?_
  refine then_n ?_
  refine wp_seq ?_
  refine wp_region_lit ?_
  refine wE (ev_loadA tu41 rfl (cs := [v2]) ts41 rfl (box_ptr (cells := [v2]) 1 rfl 0 rfl (lb rfl))) F S rfl fun a F=>?_
  refine wE (ev_loadA tu44 rfl (cs := [v1]) ts44 rfl (box_ptr (cells := [v1]) 4 rfl 0 rfl (lb rfl))) F S rfl fun a F=>?_
  obtain ⟨g4, l4, S, h3⟩ : ∃ gz, Le g2 gz ∧ St gz [[bx b6 #[.i6 y2.2.Code, .i6 y2.2.Index] 29], [bx b5 #[v2] 41], [bx b4 #[.i6 y1.2.Code, .i6 y1.2.Index] 29], [bx b3 #[v1] 44], c1, [bx b2 #[vt_1] 44], [bx b1 #[vp_1] 41]] fr w ∧ RepSl gz y2.1.Changes v2 := ⟨_, Le.add _ _, S.freeze 2 rfl, OwnS.freeze (S.front 2 rfl) h2⟩
  obtain ⟨g5, l5, S, h4⟩ : ∃ gz, Le g4 gz ∧ St gz [[bx b6 #[.i6 y2.2.Code, .i6 y2.2.Index] 29], [bx b5 #[v2] 41], [bx b4 #[.i6 y1.2.Code, .i6 y1.2.Index] 29], [bx b3 #[v1] 44], [bx b2 #[vt_1] 44], [bx b1 #[vp_1] 41]] fr w ∧ RepSl gz y1.1.Files v1 := ⟨_, Le.add _ _, S.freeze 4 rfl, OwnS.freeze (S.front 4 rfl) (h1.mono (l2.trans l4))⟩
  obtain ⟨y4, hy4, hm⟩ := bind_some hm
  refine wl_call0 (wn rfl) rfl F rfl (treepatch_Apply_ok (fr := (fl [[bx b6 #[.i6 y2.2.Code, .i6 y2.2.Index] 29], [bx b5 #[v2] 41], [bx b4 #[.i6 y1.2.Code, .i6 y1.2.Index] 29], [bx b3 #[v1] 44], [bx b2 #[vt_1] 44], [bx b1 #[vp_1] 41]] fr)) y2.1 v2 (h3.mono l5) y1.1 v1 h4 S hy4) rfl tc18 rfl rfl ?_; clear F a S
  rintro _ a w ⟨g6, v3, c3, l6, S, h5, rfl⟩ F; replace S : St g6 [c3, [bx b6 #[.i6 y2.2.Code, .i6 y2.2.Index] 29], [bx b5 #[v2] 41], [bx b4 #[.i6 y1.2.Code, .i6 y1.2.Index] 29], [bx b3 #[v1] 44], [bx b2 #[vt_1] 44], [bx b1 #[vp_1] 41]] fr w := S
  refine wE (ev_move rfl) F S rfl fun a F=>?_
  refine wE (ev_extract rfl rfl) F S rfl fun a F=>?_
  refine wE (ev_extract rfl rfl) F S rfl fun a F=>?_
  refine wl_alloc (wn rfl) rfl tz44 (cs := [nilS]) rfl F S rfl rfl ?_; clear F a S; rintro b7 a w F S
  refine wl_alloc (wn rfl) rfl tz29 (cs := [.i6 0, .i6 0]) rfl F S rfl rfl ?_; clear F a S; rintro b8 a w F S
  refine wl_storeC (wn rfl) rfl F S rfl rfl (vs := [v3]) rfl ts44 (one_cons (OwnS.one h5) one_nil) (k := 1) rfl (lb rfl) (c' := #[v3]) rfl rfl ?_; clear S; intro w S
  refine wl_storeC (wn rfl) rfl F S rfl rfl (vs := [.i6 y4.2.Code, .i6 y4.2.Index]) rfl ts29 (one_cons rfl (one_cons rfl one_nil)) (k := 0) rfl (lb rfl) (c' := #[.i6 y4.2.Code, .i6 y4.2.Index]) rfl rfl ?_; clear S; intro w S
  refine wpList_nil ?_
  refine then_n ?_
  refine wp_seq ?_
  refine wp_region_lit ?_
  refine wE (ev_fieldAddr' tu29 tf29_0 (z := 0) ts3 rfl ⟨_, rfl⟩ rfl) F S rfl fun a F=>?_
  refine wE (ev_load1 tu3 rfl rfl (box_ptr (cells := [.i6 y4.2.Code]) 0 rfl 0 rfl (lb rfl))) F S rfl fun a F=>?_
  refine wE (ev_int rfl rfl (bo_eql _ _ _ _)) F S rfl fun a F=>?_
  refine wE (ev_move rfl) F S rfl fun a F=>?_
  obtain ⟨g7, l7, S, h6⟩ : ∃ gz, Le g6 gz ∧ St gz [[bx b8 #[.i6 y4.2.Code, .i6 y4.2.Index] 29], [bx b7 #[v3] 44], [bx b6 #[.i6 y2.2.Code, .i6 y2.2.Index] 29], [bx b5 #[v2] 41], [bx b4 #[.i6 y1.2.Code, .i6 y1.2.Index] 29], [bx b3 #[v1] 44], [bx b2 #[vt_1] 44], [bx b1 #[vp_1] 41]] fr w ∧ RepSl gz y4.1.Files v3 := ⟨_, Le.add _ _, S.freeze 2 rfl, OwnS.freeze (S.front 2 rfl) h5⟩
  obtain ⟨x2, hx2, hm⟩ := bind_some hm
  refine wl_cut 4 (fun a w => ∃ g8, Fr 48 a [(44, .bool x2)] ∧ Le g7 g8 ∧ St g8 [[bx b8 #[.i6 y4.2.Code, .i6 y4.2.Index] 29], [bx b7 #[v3] 44], [bx b6 #[.i6 y2.2.Code, .i6 y2.2.Index] 29], [bx b5 #[v2] 41], [bx b4 #[.i6 y1.2.Code, .i6 y1.2.Index] 29], [bx b3 #[v1] 44], [bx b2 #[vt_1] 44], [bx b1 #[vp_1] 41]] fr w) ?_ ?_
  ·clear hm; obtain ⟨hc3, hm⟩ | ⟨hc3, hm⟩ := ite_or hx2
   ·refine wl_ev (wg F rfl rfl rfl rfl hc3) (ev_loadA tu44 rfl (cs := [v3]) ts44 rfl (box_ptr (cells := [v3]) 1 rfl 0 rfl (lb rfl))) F S rfl rfl ?_; clear F a; intro a F
    refine wl_ev (wg F rfl rfl rfl rfl hc3) (ev_loadA tu44 rfl (cs := [vt_1]) ts44 rfl (box_ptr (cells := [vt_1]) 6 rfl 0 rfl (lb rfl))) F S rfl rfl ?_; clear F a; intro a F
    obtain ⟨y5, hy5, hm⟩ := bind_some hm
    refine wl_call0 (wg F rfl rfl rfl rfl hc3) rfl F rfl (changeforgeequal_Tree_ok (fr := (fl [[bx b8 #[.i6 y4.2.Code, .i6 y4.2.Index] 29], [bx b7 #[v3] 44], [bx b6 #[.i6 y2.2.Code, .i6 y2.2.Index] 29], [bx b5 #[v2] 41], [bx b4 #[.i6 y1.2.Code, .i6 y1.2.Index] 29], [bx b3 #[v1] 44], [bx b2 #[vt_1] 44], [bx b1 #[vp_1] 41]] fr)) y4.1 v3 h6 t_ vt_1 (ht_1.mono (((((l1.trans l2).trans l4).trans l5).trans l6).trans l7)) S hy5) rfl tc26 rfl rfl ?_; clear F a S
    rintro _ a w ⟨g9, l9, S, rfl⟩ F; replace S : St g9 [[bx b8 #[.i6 y4.2.Code, .i6 y4.2.Index] 29], [bx b7 #[v3] 44], [bx b6 #[.i6 y2.2.Code, .i6 y2.2.Index] 29], [bx b5 #[v2] 41], [bx b4 #[.i6 y1.2.Code, .i6 y1.2.Index] 29], [bx b3 #[v1] 44], [bx b2 #[vt_1] 44], [bx b1 #[vp_1] 41]] fr w := S
    refine wE (ev_pickT rfl hc3 rfl) F S rfl fun a F=>?_
    obtain rfl := sinj hm
    refine wpList_nil (then_n ?_); exact ⟨g9, F.sub ⟨rfl, trivial⟩, l9, S⟩
   ·refine wl_skip rfl rfl rfl rfl (ne_tf hc3) F rfl rfl ?_; clear F a; intro a F
    refine wl_skip rfl rfl rfl rfl (ne_tf hc3) F rfl rfl ?_; clear F a; intro a F
    refine wl_skip rfl rfl rfl rfl (ne_tf hc3) F rfl rfl ?_; clear F a; intro a F
    refine wE (ev_pickF rfl hc3 rfl) F S rfl fun a F=>?_
    obtain rfl := sinj hm
    refine wpList_nil (then_n ?_); exact ⟨g7, F.sub ⟨rfl, trivial⟩, (Le.refl _), S⟩
  clear F S; rintro a w ⟨g8, F, l8, S⟩
  refine wE (ev_move rfl) F S rfl fun a F=>?_
  obtain ⟨x3, hx3, hm⟩ := bind_some hm
  refine wl_cut 2 (fun a w => ∃ g10, Fr 48 a [(47, .bool x3)] ∧ Le g8 g10 ∧ St g10 [[bx b8 #[.i6 y4.2.Code, .i6 y4.2.Index] 29], [bx b7 #[v3] 44], [bx b6 #[.i6 y2.2.Code, .i6 y2.2.Index] 29], [bx b5 #[v2] 41], [bx b4 #[.i6 y1.2.Code, .i6 y1.2.Index] 29], [bx b3 #[v1] 44], [bx b2 #[vt_1] 44], [bx b1 #[vp_1] 41]] fr w) ?_ ?_
  ·clear hm; obtain ⟨hc4, hm⟩ | ⟨hc4, hm⟩ := ite_or hx3
   ·obtain ⟨y6, hy6, hm⟩ := bind_some hm
    refine wl_call0 (wg F rfl rfl rfl rfl hc4) rfl F rfl (changeforgelaw2_renamed_ok (fr := (fl [[bx b8 #[.i6 y4.2.Code, .i6 y4.2.Index] 29], [bx b7 #[v3] 44], [bx b6 #[.i6 y2.2.Code, .i6 y2.2.Index] 29], [bx b5 #[v2] 41], [bx b4 #[.i6 y1.2.Code, .i6 y1.2.Index] 29], [bx b3 #[v1] 44], [bx b2 #[vt_1] 44], [bx b1 #[vp_1] 41]] fr))  S hy6) rfl tc27 rfl rfl ?_; clear F a S
    rintro _ a w ⟨g11, l11, S, rfl⟩ F; replace S : St g11 [[bx b8 #[.i6 y4.2.Code, .i6 y4.2.Index] 29], [bx b7 #[v3] 44], [bx b6 #[.i6 y2.2.Code, .i6 y2.2.Index] 29], [bx b5 #[v2] 41], [bx b4 #[.i6 y1.2.Code, .i6 y1.2.Index] 29], [bx b3 #[v1] 44], [bx b2 #[vt_1] 44], [bx b1 #[vp_1] 41]] fr w := S
    refine wE (ev_pickT rfl hc4 rfl) F S rfl fun a F=>?_
    obtain rfl := sinj hm
    refine wpList_nil (then_n ?_); exact ⟨g11, F.sub ⟨rfl, trivial⟩, l11, S⟩
   ·refine wl_skip rfl rfl rfl rfl (ne_tf hc4) F rfl rfl ?_; clear F a; intro a F
    refine wE (ev_pickF rfl hc4 rfl) F S rfl fun a F=>?_
    obtain rfl := sinj hm
    refine wpList_nil (then_n ?_); exact ⟨g8, F.sub ⟨rfl, trivial⟩, (Le.refl _), S⟩
  clear F S; rintro a w ⟨g10, F, l10, S⟩
  refine wE (ev_assign rfl) F S rfl fun a F=>?_
  refine wpList_nil ?_
  refine then_n ?_
  refine wp_ret ?_
  obtain rfl := sinj hm
  refine post_r _ F rfl (ar_cons (resT rfl) ar_nil) ?_
  replace S : St g10 [] fr w := St.tail [] _ S
  exact ⟨_, rfl, g10, (((((((l1.trans l2).trans l4).trans l5).trans l6).trans l7).trans l8).trans l10), S, rfl⟩
end Go.Dc
