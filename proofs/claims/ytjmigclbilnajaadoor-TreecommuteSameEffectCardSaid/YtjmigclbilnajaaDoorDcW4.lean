/- Walks: each function comes to what its model says. -/
import Derived.Test.YtjmigclbilnajaaDoorDcTab
import Derived.Test.YtjmigclbilnajaaDoorDcM
import Derived.Test.YtjmigclbilnajaaDoorDcW1
import Derived.Test.YtjmigclbilnajaaDoorDcW3
namespace Go.Dc
open Go Go.Proofs
set_option maxRecDepth 100000
set_option maxHeartbeats 4000000
set_option linter.unusedVariables false
theorem textpatch_Copy_ok {g : Gh} {fr : Hl} {w : World} {r : Patch} (p_ : Patch) (vp_1 : Value) (hp_1 : RepSl g p_.Hunks vp_1) (S : St g [] fr w) (hm : textpatch_Copy p_ = some r) :
  Calls Tryd.prog 66 [.agg #[vp_1]].toArray w (fun en w' => ∃ v, en = .returned v ∧ ∃ (g' : Gh) (v1 : Value) (c1 : Hl), Le g g' ∧ St g' [c1] fr w' ∧ OwnS g' r.Hunks v1 c1 ∧ .agg #[v1] = v) := by
 unfold textpatch_Copy at hm
 refine calls_enter (fn := Tryd.f66) Tryd.func66 rfl Tryd.ntmps66 (lb rfl) ?_
 intro a F
 replace F : Fr 29 a [(0, .agg #[vp_1])] := F
 refine wp_seq ?_
 refine wp_region_lit ?_
 refine wl_boxC (wn rfl) rfl rfl rfl F S rfl rfl ?_; clear F a S; rintro b1 a w F S
 refine wl_alloc (wn rfl) rfl tz25 (cs := [nilS]) rfl F S rfl rfl ?_; clear F a S; rintro b2 a w F S
 refine wpList_nil ?_
 refine then_n ?_
 refine wp_seq ?_
 refine wp_region_lit ?_
 refine wl_alloc (wn rfl) rfl tz25 (cs := [nilS]) rfl F S rfl rfl ?_; clear F a S; rintro b3 a w F S
 refine wpList_nil ?_
 refine then_n ?_
 refine wp_cut (fun a w => ∃ (x1 : List Hunk) (v1 : Value) (c1 : Hl) (g1 : Gh), Fr 29 a [(3, bp b3 0), (2, bp b2 0)] ∧ Le g g1 ∧ St g1 [[bx b3 #[v1] 25], [bx b2 #[nilS] 25], c1] fr w ∧ OwnS g1 x1 v1 c1 ∧ textpatch_Copy.j1 x1 = some r) ?_ ?_
 ·refine wp_seq ?_
  refine wp_region_lit ?_
  refine wE (ev_fieldAddr' tu25 tf25_0 (z := 0) ts23 rfl ⟨_, rfl⟩ rfl) F S rfl fun a F=>?_
  refine wE (ev_load1 tu23 rfl rfl (box_ptr (cells := [vp_1]) 2 rfl 0 rfl (lb rfl))) F S rfl fun a F=>?_
  refine wE (ev_lenSh hp_1 rfl tu23) F S rfl fun a F=>?_
  refine wE (ev_move rfl) F S rfl fun a F=>?_
  refine wpList_nil ?_
  refine then_n ?_
  refine wp_block ?_
  obtain ⟨r1, hr1, hm⟩ := bind_some hm
  have hmo1 := hm; clear hm
  refine wp_iter (σ := Int × (List Hunk)) (ρ := (List Hunk)) (m := fun s => textpatch_Copy.l1 p_ s.1 s.2) (I := fun s a w => match s with | (x2, x3) => ∃ (v2 : Value) (c2 : Hl) (g2 : Gh), Fr 29 a [(9, .i6 x2), (8, .i6 (p_.Hunks.length : Int)), (7, vp_1), (3, bp b3 0), (2, bp b2 0)] ∧ Le g g2 ∧ St g2 [[bx b3 #[v2] 25], [bx b2 #[nilS] 25], c2] fr w ∧ OwnS g2 x3 v2 c2) hr1 ?_ ?_
  ·dsimp only
   replace S : St g [[], [bx b3 #[nilS] 25], [bx b2 #[nilS] 25], [bx b1 #[vp_1] 25]] fr w := S
   replace S : St g [[bx b3 #[nilS] 25], [bx b2 #[nilS] 25], []] fr w := St.tail [[bx b3 #[nilS] 25], [bx b2 #[nilS] 25], []] _ (((S.frontC 0 rfl).frontC 3 rfl).frontC 3 rfl)
   exact ⟨(nilS), [], g, F.sub ⟨rfl, rfl, rfl, rfl, rfl, trivial⟩, (Le.refl _), S, (OwnS.nil _)⟩
  ·clear F S; rintro ⟨x2, x3⟩ a w x4 ⟨v2, c2, g2, F, l2, S, h2⟩ hx1 hfin1
   have hm : textpatch_Copy.l1 p_ x2 x3 = some x4 := hx1; clear hx1
   unfold textpatch_Copy.l1 at hm
   refine wp_seq ?_
   refine wp_region_lit ?_
   refine wE (ev_int rfl rfl (bo_lss _ _ _ _)) F S rfl fun a F=>?_
   refine wpList_nil ?_
   refine then_n ?_
   refine wp_seq ?_
   obtain ⟨hc1, hm⟩ | ⟨hc1, hm⟩ := ite_or hm
   ·refine wp_condT F rfl hc1 ?_
    refine wp_skip ?_
    refine then_n ?_
    refine wp_seq ?_
    refine wp_block ?_
    refine wp_seq ?_
    refine wp_region_lit ?_
    obtain ⟨y1, hy1, hm⟩ := bind_some hm
    obtain ⟨cs1, hr2, hp1⟩ := elemS (hp_1.mono l2) hy1
    obtain ⟨v3, v4, rfl, h3, h4⟩ := rep_Hunk hr2
    refine wE (ev_idxS (hp_1.mono l2) hy1 tu23 ts69 rfl rfl) F S rfl fun a F=>?_
    refine wE (ev_loadA tu69 rfl (cs := [.i6 y1.At, v3, v4]) ts69 rfl (ptr_mono (cks := [[bx b3 #[v2] 25], [bx b2 #[nilS] 25], c2]) (fr := fr) hp1 (Le.refl _))) F S rfl fun a F=>?_
    refine wl_alloc (wn rfl) rfl tz69 (cs := [.i6 0, nilS, nilS]) rfl F S rfl rfl ?_; clear F a S; rintro b4 a w F S
    refine wl_storeC (wn rfl) rfl F S rfl rfl (vs := [.i6 y1.At, v3, v4]) rfl ts69 (one_cons rfl (one_cons h3.one (one_cons h4.one one_nil))) (k := 0) rfl (lb rfl) (c' := #[.i6 y1.At, v3, v4]) rfl rfl ?_; clear S; intro w S
    refine wpList_nil ?_
    refine then_n ?_
    refine wp_dv [] mo S ?_; clear S; intro ok1 w S
    refine dv_et ok1 0 rfl (ev_fieldAddr' tu25 tf25_0 (z := 0) ts23 rfl ⟨_, rfl⟩ rfl) F rfl fun a F=>?_
    refine dv_ev ok1 1 rfl (ev_load1 tu23 rfl rfl (box_ptr (cells := [v2]) 1 rfl 0 rfl (lb rfl))) F S rfl fun a F=>?_
    refine dv_et ok1 2 rfl (ev_fieldAddr' tu69 tf69_0 (z := 0) ts3 rfl ⟨_, rfl⟩ rfl) F rfl fun a F=>?_
    refine dv_ev ok1 3 rfl (ev_load1 tu3 rfl rfl (box_ptr (cells := [.i6 y1.At]) 0 rfl 0 rfl (lb rfl))) F S rfl fun a F=>?_
    refine dv_et ok1 4 rfl (ev_fieldAddr' tu69 tf69_1 (z := 0) ts22 rfl ⟨_, rfl⟩ rfl) F rfl fun a F=>?_
    refine dv_ev ok1 5 rfl (ev_load1 tu22 rfl rfl (box_ptr (cells := [v3]) 0 rfl 1 rfl (lb rfl))) F S rfl fun a F=>?_
    refine dv_et ok1 7 rfl (ev_fieldAddr' tu69 tf69_2 (z := 0) ts22 rfl ⟨_, rfl⟩ rfl) F rfl fun a F=>?_
    refine dv_ev ok1 8 rfl (ev_load1 tu22 rfl rfl (box_ptr (cells := [v4]) 0 rfl 2 rfl (lb rfl))) F S rfl fun a F=>?_
    refine dv_op ok1 6 rfl [(8, v4), (3, .i6 y1.At), (1, v2)] ?_
    obtain ⟨y2, hy2, hm⟩ := bind_some hm
    refine wl_call0 (wn rfl) rfl F rfl (slices_Clone_ok (fr := (fl [[bx b4 #[.i6 y1.At, v3, v4] 69], [bx b3 #[v2] 25], [bx b2 #[nilS] 25], c2] fr)) y1.Old v3 h3 S hy2) rfl tc63 rfl rfl ?_; clear F a S
    rintro _ a w ⟨g3, v5, c3, l3, S, h5, rfl⟩ F; replace S : St g3 [c3, [bx b4 #[.i6 y1.At, v3, v4] 69], [bx b3 #[v2] 25], [bx b2 #[nilS] 25], c2] fr w := S
    refine dv_nx ⟨yl_ev rfl rfl (ev_load1 tu22 rfl rfl (box_ptr (cells := [v4]) 1 rfl 2 rfl (lb rfl))) F S, yl_ev rfl rfl (ev_load1 tu3 rfl rfl (box_ptr (cells := [.i6 y1.At]) 1 rfl 0 rfl (lb rfl))) F S, yl_ev rfl rfl (ev_load1 tu23 rfl rfl (box_ptr (cells := [v2]) 2 rfl 0 rfl (lb rfl))) F S, trivial⟩ ?_
    refine dv_op ok1 9 rfl [(3, .i6 y1.At), (1, v2)] ?_
    obtain ⟨y3, hy3, hm⟩ := bind_some hm
    refine wl_call0 (wn rfl) rfl F rfl (slices_Clone_ok (fr := (fl [c3, [bx b4 #[.i6 y1.At, v3, v4] 69], [bx b3 #[v2] 25], [bx b2 #[nilS] 25], c2] fr)) y1.New v4 (h4.mono l3) S hy3) rfl tc63 rfl rfl ?_; clear F a S
    rintro _ a w ⟨g4, v6, c4, l4, S, h6, rfl⟩ F; replace S : St g4 [c4, c3, [bx b4 #[.i6 y1.At, v3, v4] 69], [bx b3 #[v2] 25], [bx b2 #[nilS] 25], c2] fr w := S
    refine dv_nx ⟨yl_ev rfl rfl (ev_load1 tu3 rfl rfl (box_ptr (cells := [.i6 y1.At]) 2 rfl 0 rfl (lb rfl))) F S, yl_ev rfl rfl (ev_load1 tu23 rfl rfl (box_ptr (cells := [v2]) 3 rfl 0 rfl (lb rfl))) F S, trivial⟩ ?_
    refine dv_et ok1 10 rfl (ev_build (parts := [(0, .tmp 16), (1, .tmp 19), (2, .tmp 22)]) (vs := [(0, .i6 y1.At), (1, v5), (2, v6)]) rfl (fun w => tb69_0_1_2 y1.At v5 (OwnS.isSl h5) v6 (OwnS.isSl h6) w)) F rfl fun a F=>?_
    refine dv_op ok1 11 rfl [(1, v2)] ?_
    obtain ⟨g5, l5, S, h7⟩ : ∃ gz, Le g4 gz ∧ St gz [c4, [bx b4 #[.i6 y1.At, v3, v4] 69], [bx b3 #[v2] 25], [bx b2 #[nilS] 25], c2] fr w ∧ RepSl gz y2 v5 := ⟨_, Le.add _ _, S.freeze 1 rfl, OwnS.freeze (S.front 1 rfl) (h5.mono l4)⟩
    obtain ⟨g6, l6, S, h8⟩ : ∃ gz, Le g5 gz ∧ St gz [[bx b4 #[.i6 y1.At, v3, v4] 69], [bx b3 #[v2] 25], [bx b2 #[nilS] 25], c2] fr w ∧ RepSl gz y3 v6 := ⟨_, Le.add _ _, S.freeze 0 rfl, OwnS.freeze (S.front 0 rfl) (h6.mono l5)⟩
    refine wl_lit (l := ([({ At := y1.At, Old := y2, New := y3 } : Hunk)] : List Hunk)) (vs := [.agg #[.i6 y1.At, v5, v6]]) (parts := [(0, .tmp 23)]) (wn rfl) rfl rfl rfl tu23 te69 (sz_cons rfl sz_nil) rfl (Cat.cons (rep_Hunk_mk (x := ({ At := y1.At, Old := y2, New := y3 } : Hunk)) (h7.mono l6) h8) (Cat.nil _)) (coa_cons rfl coa_nil) rfl F S rfl rfl ?_; clear F a S
    rintro v7 c5 a w h9 F S
    refine dv_nx ⟨yl_ev rfl rfl (ev_load1 tu23 rfl rfl (box_ptr (cells := [v2]) 2 rfl 0 rfl (lb rfl))) F S, trivial⟩ ?_
    refine dv_op ok1 12 rfl [] ?_
    obtain ⟨cs2, hk1, hr3⟩ := OwnS.reads h9
    obtain ⟨y4, hy4, hm⟩ := bind_some hm
    refine wl_append (wn rfl) rfl tu23 tu23 te69 (by decide) (by decide) F S rfl rfl (k := 4) rfl (h2.mono (((l3.trans l4).trans l5).trans l6)) hk1 rfl (hr3 _ _ _ 0 rfl S) hy4 rfl rfl ?_; clear F a S
    rintro v8 c6 a w h10 S F; replace S : St g6 [c5, [bx b4 #[.i6 y1.At, v3, v4] 69], [bx b3 #[v2] 25], [bx b2 #[nilS] 25], c6] fr w := S
    refine dv_nx trivial ?_
    refine dv_et ok1 13 rfl (ev_fieldAddr' tu25 tf25_0 (z := 0) ts23 rfl ⟨_, rfl⟩ rfl) F rfl fun a F=>?_
    refine dv_op ok1 14 rfl [] ?_
    refine wl_storeC (wn rfl) rfl F S rfl rfl (vs := [v8]) (OwnS.cl h10) ts23 (one_cons (OwnS.one h10) one_nil) (k := 2) rfl (lb rfl) (c' := #[v8]) rfl rfl ?_; clear S; intro w S
    refine dv_nx trivial ?_
    refine dv_fin ok1 ?_
    refine inb_n ?_
    refine then_n ?_
    refine wp_region_lit ?_
    obtain ⟨z1, hz1, hm⟩ := bind_some hm
    refine wE (ev_int rfl rfl (bo_add hz1)) F S rfl fun a F=>?_
    refine wE (ev_move rfl) F S rfl fun a F=>?_
    refine wpList_nil ?_
    refine then_n ?_
    obtain rfl := sinj hm
    refine ⟨_, rfl, ?_⟩
    dsimp only
    replace S : St g6 [[bx b3 #[v8] 25], [bx b2 #[nilS] 25], c6] fr w := St.tail [[bx b3 #[v8] 25], [bx b2 #[nilS] 25], c6] _ (((S.frontC 4 rfl).frontC 4 rfl).frontC 4 rfl)
    exact ⟨v8, c6, g6, F.sub ⟨rfl, rfl, rfl, rfl, rfl, trivial⟩, ((((l2.trans l3).trans l4).trans l5).trans l6), S, h10⟩
   ·refine wp_condF F rfl hc1 ?_
    refine wp_exit ?_
    refine then_e ?_
    refine then_e ?_
    refine inb_x ?_
    refine then_n ?_
    obtain rfl := sinj hm
    obtain rfl := hfin1 _ rfl
    clear hm
    have hm : (textpatch_Copy.j1 x3 : Option Patch) = some _ := hmo1
    exact ⟨x3, v2, c2, g2, F.sub ⟨rfl, rfl, trivial⟩, l2, S, h2, hm⟩
 ·clear F S hm; rintro a w ⟨x1, v1, c1, g1, F, l1, S, h1, hm⟩
  refine wp_seq ?_
  refine wp_region_lit ?_
  refine wE (ev_loadA tu25 rfl (cs := [v1]) ts25 rfl (box_ptr (cells := [v1]) 0 rfl 0 rfl (lb rfl))) F S rfl fun a F=>?_
  refine wl_storeC (wn rfl) rfl F S rfl rfl (vs := [v1]) rfl ts25 (one_cons (OwnS.one h1) one_nil) (k := 1) rfl (lb rfl) (c' := #[v1]) rfl rfl ?_; clear S; intro w S
  refine wpList_nil ?_
  refine then_n ?_
  refine wp_ret ?_
  obtain rfl := sinj hm
  refine post_r _ F rfl (ar_cons (resA rfl tu25 rfl (box_ptr (cells := [v1]) 1 rfl 0 rfl (lb rfl) w S) ts25) ar_nil) ?_
  replace S : St g1 [c1] fr w := St.tail [c1] _ (S.frontC 2 rfl)
  exact ⟨_, rfl, g1, v1, c1, l1, S, h1, rfl⟩

theorem treepatch_CopyChange_ok {g : Gh} {fr : Hl} {w : World} {r : TreeChange} (c_ : TreeChange) (vc_1 : Value) (hc_1 : RepSl g c_.Lines vc_1) (vc_2 : Value) (hc_2 : RepSl g c_.Patch.Hunks vc_2) (S : St g [] fr w) (hm : treepatch_CopyChange c_ = some r) :
  Calls Tryd.prog 31 [.agg #[.i6 c_.Kind, .string c_.Path, .string c_.To, vc_1, vc_2]].toArray w (fun en w' => ∃ v, en = .returned v ∧ ∃ (g' : Gh) (v1 v2 : Value) (c1 c2 : Hl), Le g g' ∧ St g' [c1, c2] fr w' ∧ OwnS g' r.Lines v1 c1 ∧ OwnS g' r.Patch.Hunks v2 c2 ∧ .agg #[.i6 r.Kind, .string r.Path, .string r.To, v1, v2] = v) := by
 unfold treepatch_CopyChange at hm
 refine calls_enter (fn := Tryd.f31) Tryd.func31 rfl Tryd.ntmps31 (lb rfl) ?_
 intro a F
 replace F : Fr 12 a [(0, .agg #[.i6 c_.Kind, .string c_.Path, .string c_.To, vc_1, vc_2])] := F
 refine wp_seq ?_
 refine wp_region_lit ?_
 refine wl_boxC (wn rfl) rfl rfl rfl F S rfl rfl ?_; clear F a S; rintro b1 a w F S
 refine wl_alloc (wn rfl) rfl tz27 (cs := [.i6 0, .string ByteArray.empty, .string ByteArray.empty, nilS, nilS]) rfl F S rfl rfl ?_; clear F a S; rintro b2 a w F S
 refine wpList_nil ?_
 refine then_n ?_
 refine wp_seq ?_
 refine wp_dv [] mo S ?_; clear S; intro ok1 w S
 refine dv_et ok1 0 rfl (ev_fieldAddr' tu27 tf27_3 (z := 0) ts22 rfl ⟨_, rfl⟩ rfl) F rfl fun a F=>?_
 refine dv_ev ok1 1 rfl (ev_load1 tu22 rfl rfl (box_ptr (cells := [vc_1]) 1 rfl 3 rfl (lb rfl))) F S rfl fun a F=>?_
 refine dv_et ok1 3 rfl (ev_fieldAddr' tu27 tf27_4 (z := 0) ts25 rfl ⟨_, rfl⟩ rfl) F rfl fun a F=>?_
 refine dv_ev ok1 4 rfl (ev_loadA tu25 rfl (cs := [vc_2]) ts25 rfl (box_ptr (cells := [vc_2]) 1 rfl 4 rfl (lb rfl))) F S rfl fun a F=>?_
 refine dv_op ok1 2 rfl [(4, .agg #[vc_2])] ?_
 obtain ⟨y1, hy1, hm⟩ := bind_some hm
 refine wl_call0 (wn rfl) rfl F rfl (slices_Clone_ok (fr := (fl [[bx b2 #[.i6 0, .string ByteArray.empty, .string ByteArray.empty, nilS, nilS] 27], [bx b1 #[.i6 c_.Kind, .string c_.Path, .string c_.To, vc_1, vc_2] 27]] fr)) c_.Lines vc_1 hc_1 S hy1) rfl tc63 rfl rfl ?_; clear F a S
 rintro _ a w ⟨g1, v1, c1, l1, S, h1, rfl⟩ F; replace S : St g1 [c1, [bx b2 #[.i6 0, .string ByteArray.empty, .string ByteArray.empty, nilS, nilS] 27], [bx b1 #[.i6 c_.Kind, .string c_.Path, .string c_.To, vc_1, vc_2] 27]] fr w := S
 refine dv_nx ⟨yl_ev rfl rfl (ev_loadA tu25 rfl (cs := [vc_2]) ts25 rfl (box_ptr (cells := [vc_2]) 2 rfl 4 rfl (lb rfl))) F S, trivial⟩ ?_
 refine dv_et ok1 6 rfl (ev_fieldAddr' tu27 tf27_3 (z := 0) ts22 rfl ⟨_, rfl⟩ rfl) F rfl fun a F=>?_
 refine dv_op ok1 5 rfl [] ?_
 obtain ⟨y2, hy2, hm⟩ := bind_some hm
 refine wl_call0 (wn rfl) rfl F rfl (textpatch_Copy_ok (fr := (fl [c1, [bx b2 #[.i6 0, .string ByteArray.empty, .string ByteArray.empty, nilS, nilS] 27], [bx b1 #[.i6 c_.Kind, .string c_.Path, .string c_.To, vc_1, vc_2] 27]] fr)) c_.Patch vc_2 (hc_2.mono l1) S hy2) rfl tc66 rfl rfl ?_; clear F a S
 rintro _ a w ⟨g2, v2, c2, l2, S, h2, rfl⟩ F; replace S : St g2 [c2, c1, [bx b2 #[.i6 0, .string ByteArray.empty, .string ByteArray.empty, nilS, nilS] 27], [bx b1 #[.i6 c_.Kind, .string c_.Path, .string c_.To, vc_1, vc_2] 27]] fr w := S
 refine dv_nx trivial ?_
 refine dv_op ok1 7 rfl [] ?_
 refine wl_storeC (wn rfl) rfl F S rfl rfl (vs := [v1]) (OwnS.cl h1) ts22 (one_cons (OwnS.one h1) one_nil) (k := 3) rfl (lb rfl) (c' := #[.i6 c_.Kind, .string c_.Path, .string c_.To, v1, vc_2]) rfl rfl ?_; clear S; intro w S
 refine dv_nx trivial ?_
 refine dv_et ok1 8 rfl (ev_fieldAddr' tu27 tf27_4 (z := 0) ts25 rfl ⟨_, rfl⟩ rfl) F rfl fun a F=>?_
 refine dv_op ok1 9 rfl [] ?_
 refine wl_storeC (wn rfl) rfl F S rfl rfl (vs := [v2]) rfl ts25 (one_cons (OwnS.one h2) one_nil) (k := 3) rfl (lb rfl) (c' := #[.i6 c_.Kind, .string c_.Path, .string c_.To, v1, v2]) rfl rfl ?_; clear S; intro w S
 refine dv_nx trivial ?_
 refine dv_fin ok1 ?_
 refine then_n ?_
 refine wp_seq ?_
 refine wp_region_lit ?_
 refine wE (ev_loadA tu27 rfl (cs := [.i6 c_.Kind, .string c_.Path, .string c_.To, v1, v2]) ts27 rfl (box_ptr (cells := [.i6 c_.Kind, .string c_.Path, .string c_.To, v1, v2]) 3 rfl 0 rfl (lb rfl))) F S rfl fun a F=>?_
 refine wl_storeC (wn rfl) rfl F S rfl rfl (vs := [.i6 c_.Kind, .string c_.Path, .string c_.To, v1, v2]) rfl ts27 (one_cons rfl (one_cons rfl (one_cons rfl (one_cons (OwnS.one h1) (one_cons (OwnS.one h2) one_nil))))) (k := 2) rfl (lb rfl) (c' := #[.i6 c_.Kind, .string c_.Path, .string c_.To, v1, v2]) rfl rfl ?_; clear S; intro w S
 refine wpList_nil ?_
 refine then_n ?_
 refine wp_ret ?_
 obtain rfl := sinj hm
 refine post_r _ F rfl (ar_cons (resA rfl tu27 rfl (box_ptr (cells := [.i6 c_.Kind, .string c_.Path, .string c_.To, v1, v2]) 2 rfl 0 rfl (lb rfl) w S) ts27) ar_nil) ?_
 replace S : St g2 [c1, c2] fr w := St.tail [c1, c2] _ ((S.frontC 0 rfl).frontC 2 rfl)
 exact ⟨_, rfl, g2, v1, v2, c1, c2, (l1.trans l2), S, (h1.mono l2), h2, rfl⟩

theorem textpatch_Growth_ok {g : Gh} {fr : Hl} {w : World} {r : Int} (h_ : Hunk) (vh_1 : Value) (hh_1 : RepSl g h_.Old vh_1) (vh_2 : Value) (hh_2 : RepSl g h_.New vh_2) (S : St g [] fr w) (hm : textpatch_Growth h_ = some r) :
  Calls Tryd.prog 100 [.agg #[.i6 h_.At, vh_1, vh_2]].toArray w (fun en w' => ∃ v, en = .returned v ∧ ∃ (g' : Gh), Le g g' ∧ St g' [] fr w' ∧ .i6 r = v) := by
 unfold textpatch_Growth at hm
 refine calls_enter (fn := Tryd.f100) Tryd.func100 rfl Tryd.ntmps100 (lb rfl) ?_
 intro a F
 replace F : Fr 10 a [(0, .agg #[.i6 h_.At, vh_1, vh_2])] := F
 refine wp_seq ?_
 refine wp_region_lit ?_
 refine wl_boxC (wn rfl) rfl rfl rfl F S rfl rfl ?_; clear F a S; rintro b1 a w F S
 refine wE (ev_assign rfl) F S rfl fun a F=>?_
 refine wpList_nil ?_
 refine then_n ?_
 refine wp_seq ?_
 refine wp_region_lit ?_
 refine wE (ev_fieldAddr' tu69 tf69_2 (z := 0) ts22 rfl ⟨_, rfl⟩ rfl) F S rfl fun a F=>?_
 refine wE (ev_load1 tu22 rfl rfl (box_ptr (cells := [vh_2]) 0 rfl 2 rfl (lb rfl))) F S rfl fun a F=>?_
 refine wE (ev_lenSh hh_2 rfl tu22) F S rfl fun a F=>?_
 refine wE (ev_fieldAddr' tu69 tf69_1 (z := 0) ts22 rfl ⟨_, rfl⟩ rfl) F S rfl fun a F=>?_
 refine wE (ev_load1 tu22 rfl rfl (box_ptr (cells := [vh_1]) 0 rfl 1 rfl (lb rfl))) F S rfl fun a F=>?_
 refine wE (ev_lenSh hh_1 rfl tu22) F S rfl fun a F=>?_
 obtain ⟨z1, hz1, hm⟩ := bind_some hm
 refine wE (ev_int rfl rfl (bo_sub hz1)) F S rfl fun a F=>?_
 refine wE (ev_assign rfl) F S rfl fun a F=>?_
 refine wpList_nil ?_
 refine then_n ?_
 refine wp_ret ?_
 obtain rfl := sinj hm
 refine post_r _ F rfl (ar_cons (resT rfl) ar_nil) ?_
 replace S : St g [] fr w := St.tail [] _ S
 exact ⟨_, rfl, g, (Le.refl _), S, rfl⟩

theorem textpatch_Made_ok {g : Gh} {fr : Hl} {w : World} {r : Patch × Fault} (p_ : Patch) (vp_1 : Value) (hp_1 : RepSl g p_.Hunks vp_1) (S : St g [] fr w) (hm : textpatch_Made p_ = some r) :
  Calls Tryd.prog 75 [.agg #[vp_1]].toArray w (fun en w' => ∃ v, en = .returned v ∧ ∃ (g' : Gh) (v1 : Value), Le g g' ∧ St g' [] fr w' ∧ RepSl g' r.1.Hunks v1 ∧ .tuple #[.agg #[v1], .agg #[.i6 r.2.Code, .i6 r.2.Index]] = v) := by
 unfold textpatch_Made at hm
 refine calls_enter (fn := Tryd.f75) Tryd.func75 rfl Tryd.ntmps75 (lb rfl) ?_
 intro a F
 replace F : Fr 12 a [(0, .agg #[vp_1])] := F
 refine wp_seq ?_
 refine wp_region_lit ?_
 refine wl_boxC (wn rfl) rfl rfl rfl F S rfl rfl ?_; clear F a S; rintro b1 a w F S
 refine wl_alloc (wn rfl) rfl tz25 (cs := [nilS]) rfl F S rfl rfl ?_; clear F a S; rintro b2 a w F S
 refine wl_alloc (wn rfl) rfl tz29 (cs := [.i6 0, .i6 0]) rfl F S rfl rfl ?_; clear F a S; rintro b3 a w F S
 refine wpList_nil ?_
 refine then_n ?_
 refine wp_seq ?_
 refine wp_seq ?_
 refine wp_region_lit ?_
 refine wE (ev_loadA tu25 rfl (cs := [vp_1]) ts25 rfl (box_ptr (cells := [vp_1]) 2 rfl 0 rfl (lb rfl))) F S rfl fun a F=>?_
 obtain ⟨y1, hy1, hm⟩ := bind_some hm
 refine wl_call0 (wn rfl) rfl F rfl (textpatch_Validate_ok (fr := (fl [[bx b3 #[.i6 0, .i6 0] 29], [bx b2 #[nilS] 25], [bx b1 #[vp_1] 25]] fr)) p_ vp_1 hp_1 S hy1) rfl tc41 rfl rfl ?_; clear F a S
 rintro _ a w ⟨g1, l1, S, rfl⟩ F; replace S : St g1 [[bx b3 #[.i6 0, .i6 0] 29], [bx b2 #[nilS] 25], [bx b1 #[vp_1] 25]] fr w := S
 refine wE (ev_build (parts := []) (vs := []) rfl (fun w => tb29_  w)) F S rfl fun a F=>?_
 refine wE (ev_neS tu29 tqa29 tqb29 tqc29 (xs := [.i6 y1.Code, .i6 y1.Index]) (ys := [.i6 0, .i6 0]) rfl rfl ⟨_, _, rfl, by decide, ⟨_, _, rfl, rfl, leaf_int tu3⟩, ⟨_, _, rfl, by decide, ⟨_, _, rfl, rfl, leaf_int tu3⟩, rfl⟩⟩) F S rfl fun a F=>?_
 refine wpList_nil ?_
 refine then_n ?_
 obtain ⟨hc1, hm⟩ | ⟨hc1, hm⟩ := ite_or hm
 ·refine wp_condT F rfl hc1 ?_
  refine wp_seq ?_
  refine wp_region_lit ?_
  refine wE (ev_build (parts := []) (vs := []) rfl (fun w => tb25_  w)) F S rfl fun a F=>?_
  refine wE (ev_build (parts := [(0, .const (.i6 10)), (1, .const (.i6 (-1)))]) (vs := [(0, .i6 10), (1, .i6 (-1))]) rfl (fun w => tb29_0_1 10 (-1) w)) F S rfl fun a F=>?_
  refine wl_storeC (wn rfl) rfl F S rfl rfl (vs := [nilS]) rfl ts25 (one_cons rfl one_nil) (k := 1) rfl (lb rfl) (c' := #[nilS]) rfl rfl ?_; clear S; intro w S
  refine wl_storeC (wn rfl) rfl F S rfl rfl (vs := [.i6 10, .i6 (-1)]) rfl ts29 (one_cons rfl (one_cons rfl one_nil)) (k := 0) rfl (lb rfl) (c' := #[.i6 10, .i6 (-1)]) rfl rfl ?_; clear S; intro w S
  refine wpList_nil ?_
  refine then_n ?_
  refine wp_ret ?_
  refine then_r ?_
  obtain rfl := sinj hm
  refine post_r _ F rfl (ar_cons (resA rfl tu25 rfl (box_ptr (cells := [nilS]) 1 rfl 0 rfl (lb rfl) w S) ts25) (ar_cons (resA rfl tu29 rfl (box_ptr (cells := [.i6 10, .i6 (-1)]) 0 rfl 0 rfl (lb rfl) w S) ts29) ar_nil)) ?_
  replace S : St g1 [] fr w := St.tail [] _ S
  exact ⟨_, rfl, g1, (nilS), l1, S, (RepSl.nil _), rfl⟩
 ·refine wp_condF F rfl hc1 ?_
  refine wp_skip ?_
  refine then_n ?_
  refine wp_seq ?_
  refine wp_region_lit ?_
  refine wE (ev_loadA tu25 rfl (cs := [vp_1]) ts25 rfl (box_ptr (cells := [vp_1]) 2 rfl 0 rfl (lb rfl))) F S rfl fun a F=>?_
  refine wE (ev_build (parts := []) (vs := []) rfl (fun w => tb29_  w)) F S rfl fun a F=>?_
  refine wl_storeC (wn rfl) rfl F S rfl rfl (vs := [vp_1]) rfl ts25 (one_cons hp_1.one one_nil) (k := 1) rfl (lb rfl) (c' := #[vp_1]) rfl rfl ?_; clear S; intro w S
  refine wl_storeC (wn rfl) rfl F S rfl rfl (vs := [.i6 0, .i6 0]) rfl ts29 (one_cons rfl (one_cons rfl one_nil)) (k := 0) rfl (lb rfl) (c' := #[.i6 0, .i6 0]) rfl rfl ?_; clear S; intro w S
  refine wpList_nil ?_
  refine then_n ?_
  refine wp_ret ?_
  obtain rfl := sinj hm
  refine post_r _ F rfl (ar_cons (resA rfl tu25 rfl (box_ptr (cells := [vp_1]) 1 rfl 0 rfl (lb rfl) w S) ts25) (ar_cons (resA rfl tu29 rfl (box_ptr (cells := [.i6 0, .i6 0]) 0 rfl 0 rfl (lb rfl) w S) ts29) ar_nil)) ?_
  replace S : St g1 [] fr w := St.tail [] _ S
  exact ⟨_, rfl, g1, vp_1, l1, S, (hp_1.mono l1), rfl⟩
end Go.Dc
