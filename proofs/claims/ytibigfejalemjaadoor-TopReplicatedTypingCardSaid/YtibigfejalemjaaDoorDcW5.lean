/- Walks: each function comes to what its model says. -/
import Derived.Test.YtibigfejalemjaaDoorDcTab
import Derived.Test.YtibigfejalemjaaDoorDcM
import Derived.Test.YtibigfejalemjaaDoorDcW1
import Derived.Test.YtibigfejalemjaaDoorDcW2
import Derived.Test.YtibigfejalemjaaDoorDcW3
namespace Go.Dc
open Go Go.Proofs
set_option maxRecDepth 100000
set_option maxHeartbeats 4000000
set_option linter.unusedVariables false
theorem treepatch_Apply_ok {g : Gh} {fr : Hl} {w : World} {r : FileTree × Fault} (p_ : TreePatch) (vp_1 : Value) (hp_1 : RepSl g p_.Changes vp_1) (t_ : FileTree) (vt_1 : Value) (ht_1 : RepSl g t_.Files vt_1) (S : St g [] fr w) (hm : treepatch_Apply p_ t_ = some r) :
  Calls Tryd.prog 11 [.agg #[vp_1], .agg #[vt_1]].toArray w (fun en w' => ∃ v, en = .returned v ∧ ∃ (g' : Gh) (v1 : Value) (c1 : Hl), Le g g' ∧ St g' [c1] fr w' ∧ OwnS g' r.1.Files v1 c1 ∧ .tuple #[.agg #[v1], .agg #[.i6 r.2.Code, .i6 r.2.Index]] = v) := by
 unfold treepatch_Apply at hm
 refine calls_enter (fn := Tryd.f11) Tryd.func11 rfl Tryd.ntmps11 (lb rfl) ?_
 intro a F
 replace F : Fr 47 a [(0, .agg #[vp_1]), (1, .agg #[vt_1])] := F
 refine wp_seq ?_
 refine wp_region_lit ?_
 refine wl_boxC (wn rfl) rfl rfl rfl F S rfl rfl ?_; clear F a S; rintro b1 a w F S
 refine wl_boxC (wn rfl) rfl rfl rfl F S rfl rfl ?_; clear F a S; rintro b2 a w F S
 refine wl_alloc (wn rfl) rfl tz46 (cs := [nilS]) rfl F S rfl rfl ?_; clear F a S; rintro b3 a w F S
 refine wl_alloc (wn rfl) rfl tz25 (cs := [.i6 0, .i6 0]) rfl F S rfl rfl ?_; clear F a S; rintro b4 a w F S
 refine wpList_nil ?_
 refine then_n ?_
 refine wp_seq ?_
 refine wp_seq ?_
 refine wp_region_lit ?_
 refine wE (ev_loadA tu51 rfl (cs := [vp_1]) ts51 rfl (box_ptr (cells := [vp_1]) 3 rfl 0 rfl (lb rfl))) F S rfl fun a F=>?_
 obtain ⟨y1, hy1, hm⟩ := bind_some hm
 refine wl_call0 (wn rfl) rfl F rfl (treepatch_ValidatePatch_ok (fr := (fl [[bx b4 #[.i6 0, .i6 0] 25], [bx b3 #[nilS] 46], [bx b2 #[vt_1] 46], [bx b1 #[vp_1] 51]] fr)) p_ vp_1 hp_1 S hy1) rfl tc28 rfl rfl ?_; clear F a S
 rintro _ a w ⟨g1, l1, S, rfl⟩ F; replace S : St g1 [[bx b4 #[.i6 0, .i6 0] 25], [bx b3 #[nilS] 46], [bx b2 #[vt_1] 46], [bx b1 #[vp_1] 51]] fr w := S
 refine wl_alloc (wn rfl) rfl tz25 (cs := [.i6 0, .i6 0]) rfl F S rfl rfl ?_; clear F a S; rintro b5 a w F S
 refine wl_storeC (wn rfl) rfl F S rfl rfl (vs := [.i6 y1.Code, .i6 y1.Index]) rfl ts25 (one_cons rfl (one_cons rfl one_nil)) (k := 0) rfl (lb rfl) (c' := #[.i6 y1.Code, .i6 y1.Index]) rfl rfl ?_; clear S; intro w S
 refine wpList_nil ?_
 refine then_n ?_
 refine wp_seq ?_
 refine wp_region_lit ?_
 refine wE (ev_loadA tu25 rfl (cs := [.i6 y1.Code, .i6 y1.Index]) ts25 rfl (box_ptr (cells := [.i6 y1.Code, .i6 y1.Index]) 0 rfl 0 rfl (lb rfl))) F S rfl fun a F=>?_
 refine wE (ev_build (parts := []) (vs := []) rfl (fun w => tb25_  w)) F S rfl fun a F=>?_
 refine wE (ev_neS tu25 tqa25 tqb25 tqc25 (xs := [.i6 y1.Code, .i6 y1.Index]) (ys := [.i6 0, .i6 0]) rfl rfl ⟨_, _, rfl, by decide, ⟨_, _, rfl, rfl, leaf_int tu3⟩, ⟨_, _, rfl, by decide, ⟨_, _, rfl, rfl, leaf_int tu3⟩, rfl⟩⟩) F S rfl fun a F=>?_
 refine wpList_nil ?_
 refine then_n ?_
 obtain ⟨hc1, hm⟩ | ⟨hc1, hm⟩ := ite_or hm
 ·refine wp_condT F rfl hc1 ?_
  refine wp_seq ?_
  refine wp_dv [] mo S ?_; clear S; intro ok1 w S
  refine dv_et ok1 0 rfl (ev_build (parts := []) (vs := []) rfl (fun w => tb46_  w)) F rfl fun a F=>?_
  refine dv_ev ok1 1 rfl (ev_loadA tu25 rfl (cs := [.i6 y1.Code, .i6 y1.Index]) ts25 rfl (box_ptr (cells := [.i6 y1.Code, .i6 y1.Index]) 0 rfl 0 rfl (lb rfl))) F S rfl fun a F=>?_
  refine dv_op ok1 2 rfl [(1, .agg #[.i6 y1.Code, .i6 y1.Index])] ?_
  refine wl_storeC (wn rfl) rfl F S rfl rfl (vs := [nilS]) rfl ts46 (one_cons rfl one_nil) (k := 2) rfl (lb rfl) (c' := #[nilS]) rfl rfl ?_; clear S; intro w S
  refine dv_nx ⟨yl_ev rfl rfl (ev_loadA tu25 rfl (cs := [.i6 y1.Code, .i6 y1.Index]) ts25 rfl (box_ptr (cells := [.i6 y1.Code, .i6 y1.Index]) 0 rfl 0 rfl (lb rfl))) F S, trivial⟩ ?_
  refine dv_op ok1 3 rfl [] ?_
  refine wl_storeC (wn rfl) rfl F S rfl rfl (vs := [.i6 y1.Code, .i6 y1.Index]) rfl ts25 (one_cons rfl (one_cons rfl one_nil)) (k := 1) rfl (lb rfl) (c' := #[.i6 y1.Code, .i6 y1.Index]) rfl rfl ?_; clear S; intro w S
  refine dv_nx trivial ?_
  refine dv_fin ok1 ?_
  refine then_n ?_
  refine wp_ret ?_
  refine then_r ?_
  obtain rfl := sinj hm
  replace S : St g1 [[], [bx b5 #[.i6 y1.Code, .i6 y1.Index] 25], [bx b4 #[.i6 y1.Code, .i6 y1.Index] 25], [bx b3 #[nilS] 46], [bx b2 #[vt_1] 46], [bx b1 #[vp_1] 51]] fr w := S
  refine post_r _ F rfl (ar_cons (resA rfl tu46 rfl (box_ptr (cells := [nilS]) 3 rfl 0 rfl (lb rfl) w S) ts46) (ar_cons (resA rfl tu25 rfl (box_ptr (cells := [.i6 y1.Code, .i6 y1.Index]) 2 rfl 0 rfl (lb rfl) w S) ts25) ar_nil)) ?_
  replace S : St g1 [[]] fr w := St.tail [[]] _ (S.frontC 0 rfl)
  exact ⟨_, rfl, g1, (nilS), [], l1, S, (OwnS.nil _), rfl⟩
 ·refine wp_condF F rfl hc1 ?_
  refine wp_skip ?_
  refine then_n ?_
  refine wp_seq ?_
  refine wp_seq ?_
  refine wp_region_lit ?_
  refine wE (ev_loadA tu46 rfl (cs := [vt_1]) ts46 rfl (box_ptr (cells := [vt_1]) 3 rfl 0 rfl (lb rfl))) F S rfl fun a F=>?_
  obtain ⟨y2, hy2, hm⟩ := bind_some hm
  refine wl_call0 (wn rfl) rfl F rfl (treepatch_Second_ok (fr := (fl [[bx b5 #[.i6 y1.Code, .i6 y1.Index] 25], [bx b4 #[.i6 0, .i6 0] 25], [bx b3 #[nilS] 46], [bx b2 #[vt_1] 46], [bx b1 #[vp_1] 51]] fr)) t_ vt_1 (ht_1.mono l1) (-2) S hy2) rfl tc29 rfl rfl ?_; clear F a S
  rintro _ a w ⟨g2, l2, S, rfl⟩ F; replace S : St g2 [[bx b5 #[.i6 y1.Code, .i6 y1.Index] 25], [bx b4 #[.i6 0, .i6 0] 25], [bx b3 #[nilS] 46], [bx b2 #[vt_1] 46], [bx b1 #[vp_1] 51]] fr w := S
  refine wl_alloc (wn rfl) rfl tz25 (cs := [.i6 0, .i6 0]) rfl F S rfl rfl ?_; clear F a S; rintro b6 a w F S
  refine wl_storeC (wn rfl) rfl F S rfl rfl (vs := [.i6 y2.Code, .i6 y2.Index]) rfl ts25 (one_cons rfl (one_cons rfl one_nil)) (k := 0) rfl (lb rfl) (c' := #[.i6 y2.Code, .i6 y2.Index]) rfl rfl ?_; clear S; intro w S
  refine wpList_nil ?_
  refine then_n ?_
  refine wp_seq ?_
  refine wp_region_lit ?_
  refine wE (ev_loadA tu25 rfl (cs := [.i6 y2.Code, .i6 y2.Index]) ts25 rfl (box_ptr (cells := [.i6 y2.Code, .i6 y2.Index]) 0 rfl 0 rfl (lb rfl))) F S rfl fun a F=>?_
  refine wE (ev_build (parts := []) (vs := []) rfl (fun w => tb25_  w)) F S rfl fun a F=>?_
  refine wE (ev_neS tu25 tqa25 tqb25 tqc25 (xs := [.i6 y2.Code, .i6 y2.Index]) (ys := [.i6 0, .i6 0]) rfl rfl ⟨_, _, rfl, by decide, ⟨_, _, rfl, rfl, leaf_int tu3⟩, ⟨_, _, rfl, by decide, ⟨_, _, rfl, rfl, leaf_int tu3⟩, rfl⟩⟩) F S rfl fun a F=>?_
  refine wpList_nil ?_
  refine then_n ?_
  obtain ⟨hc2, hm⟩ | ⟨hc2, hm⟩ := ite_or hm
  ·refine wp_condT F rfl hc2 ?_
   refine wp_seq ?_
   refine wp_dv [] mo S ?_; clear S; intro ok2 w S
   refine dv_et ok2 0 rfl (ev_build (parts := []) (vs := []) rfl (fun w => tb46_  w)) F rfl fun a F=>?_
   refine dv_ev ok2 1 rfl (ev_loadA tu25 rfl (cs := [.i6 y2.Code, .i6 y2.Index]) ts25 rfl (box_ptr (cells := [.i6 y2.Code, .i6 y2.Index]) 0 rfl 0 rfl (lb rfl))) F S rfl fun a F=>?_
   refine dv_op ok2 2 rfl [(1, .agg #[.i6 y2.Code, .i6 y2.Index])] ?_
   refine wl_storeC (wn rfl) rfl F S rfl rfl (vs := [nilS]) rfl ts46 (one_cons rfl one_nil) (k := 3) rfl (lb rfl) (c' := #[nilS]) rfl rfl ?_; clear S; intro w S
   refine dv_nx ⟨yl_ev rfl rfl (ev_loadA tu25 rfl (cs := [.i6 y2.Code, .i6 y2.Index]) ts25 rfl (box_ptr (cells := [.i6 y2.Code, .i6 y2.Index]) 0 rfl 0 rfl (lb rfl))) F S, trivial⟩ ?_
   refine dv_op ok2 3 rfl [] ?_
   refine wl_storeC (wn rfl) rfl F S rfl rfl (vs := [.i6 y2.Code, .i6 y2.Index]) rfl ts25 (one_cons rfl (one_cons rfl one_nil)) (k := 2) rfl (lb rfl) (c' := #[.i6 y2.Code, .i6 y2.Index]) rfl rfl ?_; clear S; intro w S
   refine dv_nx trivial ?_
   refine dv_fin ok2 ?_
   refine then_n ?_
   refine wp_ret ?_
   refine then_r ?_
   obtain rfl := sinj hm
   replace S : St g2 [[], [bx b6 #[.i6 y2.Code, .i6 y2.Index] 25], [bx b5 #[.i6 y1.Code, .i6 y1.Index] 25], [bx b4 #[.i6 y2.Code, .i6 y2.Index] 25], [bx b3 #[nilS] 46], [bx b2 #[vt_1] 46], [bx b1 #[vp_1] 51]] fr w := S
   refine post_r _ F rfl (ar_cons (resA rfl tu46 rfl (box_ptr (cells := [nilS]) 4 rfl 0 rfl (lb rfl) w S) ts46) (ar_cons (resA rfl tu25 rfl (box_ptr (cells := [.i6 y2.Code, .i6 y2.Index]) 3 rfl 0 rfl (lb rfl) w S) ts25) ar_nil)) ?_
   replace S : St g2 [[]] fr w := St.tail [[]] _ (S.frontC 0 rfl)
   exact ⟨_, rfl, g2, (nilS), [], (l1.trans l2), S, (OwnS.nil _), rfl⟩
  ·refine wp_condF F rfl hc2 ?_
   refine wp_skip ?_
   refine then_n ?_
   refine wp_seq ?_
   refine wp_region_lit ?_
   refine wE (ev_loadA tu46 rfl (cs := [vt_1]) ts46 rfl (box_ptr (cells := [vt_1]) 4 rfl 0 rfl (lb rfl))) F S rfl fun a F=>?_
   obtain ⟨y3, hy3, hm⟩ := bind_some hm
   refine wl_call0 (wn rfl) rfl F rfl (treepatch_CopyTree_ok (fr := (fl [[bx b6 #[.i6 y2.Code, .i6 y2.Index] 25], [bx b5 #[.i6 y1.Code, .i6 y1.Index] 25], [bx b4 #[.i6 0, .i6 0] 25], [bx b3 #[nilS] 46], [bx b2 #[vt_1] 46], [bx b1 #[vp_1] 51]] fr)) t_ vt_1 (ht_1.mono (l1.trans l2)) S hy3) rfl tc30 rfl rfl ?_; clear F a S
   rintro _ a w ⟨g3, v1, c1, l3, S, h1, rfl⟩ F; replace S : St g3 [c1, [bx b6 #[.i6 y2.Code, .i6 y2.Index] 25], [bx b5 #[.i6 y1.Code, .i6 y1.Index] 25], [bx b4 #[.i6 0, .i6 0] 25], [bx b3 #[nilS] 46], [bx b2 #[vt_1] 46], [bx b1 #[vp_1] 51]] fr w := S
   refine wl_alloc (wn rfl) rfl tz46 (cs := [nilS]) rfl F S rfl rfl ?_; clear F a S; rintro b7 a w F S
   refine wl_storeC (wn rfl) rfl F S rfl rfl (vs := [v1]) rfl ts46 (one_cons (OwnS.one h1) one_nil) (k := 0) rfl (lb rfl) (c' := #[v1]) rfl rfl ?_; clear S; intro w S
   refine wpList_nil ?_
   refine then_n ?_
   refine wp_cut (fun a w => ∃ (x1 : List File) (v2 : Value) (c2 : Hl) (g4 : Gh), Fr 47 a [(8, bp b7 0), (5, bp b4 0), (4, bp b3 0)] ∧ Le g3 g4 ∧ St g4 [[bx b7 #[v2] 46], [bx b4 #[.i6 0, .i6 0] 25], [bx b3 #[nilS] 46], c2] fr w ∧ OwnS g4 x1 v2 c2 ∧ treepatch_Apply.j1 x1 = some r) ?_ ?_
   ·refine wp_seq ?_
    refine wp_region_lit ?_
    refine wE (ev_fieldAddr' tu51 tf51_0 (z := 0) ts49 rfl ⟨_, rfl⟩ rfl) F S rfl fun a F=>?_
    refine wE (ev_load1 tu49 rfl rfl (box_ptr (cells := [vp_1]) 7 rfl 0 rfl (lb rfl))) F S rfl fun a F=>?_
    refine wE (ev_lenSh hp_1 rfl tu49) F S rfl fun a F=>?_
    refine wE (ev_move rfl) F S rfl fun a F=>?_
    refine wpList_nil ?_
    refine then_n ?_
    refine wp_block ?_
    obtain ⟨r1, hr1, hm⟩ := bind_some hm
    have hmo1 := hm; clear hm
    refine wp_iter (σ := Int × (List File)) (ρ := (FileTree × Fault) ⊕ (List File)) (m := fun s => treepatch_Apply.l1 p_ s.1 s.2) (I := fun s a w => match s with | (x2, x3) => ∃ (v3 : Value) (c3 : Hl) (g5 : Gh), Fr 47 a [(31, .i6 x2), (30, .i6 (p_.Changes.length : Int)), (29, vp_1), (8, bp b7 0), (5, bp b4 0), (4, bp b3 0)] ∧ Le g3 g5 ∧ St g5 [[bx b7 #[v3] 46], [bx b4 #[.i6 0, .i6 0] 25], [bx b3 #[nilS] 46], c3] fr w ∧ OwnS g5 x3 v3 c3) hr1 ?_ ?_
    ·dsimp only
     replace S : St g3 [[bx b7 #[v1] 46], [bx b4 #[.i6 0, .i6 0] 25], [bx b3 #[nilS] 46], c1] fr w := St.tail [[bx b7 #[v1] 46], [bx b4 #[.i6 0, .i6 0] 25], [bx b3 #[nilS] 46], c1] _ ((((S.frontC 1 rfl).frontC 6 rfl).frontC 6 rfl).frontC 3 rfl)
     exact ⟨v1, c1, g3, F.sub ⟨rfl, rfl, rfl, rfl, rfl, rfl, trivial⟩, (Le.refl _), S, h1⟩
    ·clear F S; rintro ⟨x2, x3⟩ a w x4 ⟨v3, c3, g5, F, l5, S, h3⟩ hx1 hfin1
     have hm : treepatch_Apply.l1 p_ x2 x3 = some x4 := hx1; clear hx1
     unfold treepatch_Apply.l1 at hm
     refine wp_seq ?_
     refine wp_region_lit ?_
     refine wE (ev_int rfl rfl (bo_lss _ _ _ _)) F S rfl fun a F=>?_
     refine wpList_nil ?_
     refine then_n ?_
     refine wp_seq ?_
     obtain ⟨hc3, hm⟩ | ⟨hc3, hm⟩ := ite_or hm
     ·refine wp_condT F rfl hc3 ?_
      refine wp_skip ?_
      refine then_n ?_
      refine wp_seq ?_
      refine wp_block ?_
      refine wp_seq ?_
      refine wp_region_lit ?_
      refine wE (ev_move rfl) F S rfl fun a F=>?_
      obtain ⟨y4, hy4, hm⟩ := bind_some hm
      obtain ⟨cs1, hr2, hp1⟩ := elemS (hp_1.mono (((l1.trans l2).trans l3).trans l5)) hy4
      obtain ⟨v4, v5, rfl, h4, h5⟩ := rep_TreeChange hr2
      refine wE (ev_idxS (hp_1.mono (((l1.trans l2).trans l3).trans l5)) hy4 tu49 ts77 rfl rfl) F S rfl fun a F=>?_
      refine wE (ev_loadA tu77 rfl (cs := [.i6 y4.Kind, .string y4.Path, .string y4.To, v4, v5]) ts77 rfl (ptr_mono (cks := [[bx b7 #[v3] 46], [bx b4 #[.i6 0, .i6 0] 25], [bx b3 #[nilS] 46], c3]) (fr := fr) hp1 (Le.refl _))) F S rfl fun a F=>?_
      refine wl_alloc (wn rfl) rfl tz77 (cs := [.i6 0, .string ByteArray.empty, .string ByteArray.empty, nilS, nilS]) rfl F S rfl rfl ?_; clear F a S; rintro b8 a w F S
      refine wE (ev_assign rfl) F S rfl fun a F=>?_
      refine wl_storeC (wn rfl) rfl F S rfl rfl (vs := [.i6 y4.Kind, .string y4.Path, .string y4.To, v4, v5]) rfl ts77 (one_cons rfl (one_cons rfl (one_cons rfl (one_cons h4.one (one_cons h5.one one_nil))))) (k := 0) rfl (lb rfl) (c' := #[.i6 y4.Kind, .string y4.Path, .string y4.To, v4, v5]) rfl rfl ?_; clear S; intro w S
      refine wpList_nil ?_
      refine then_n ?_
      refine wp_seq ?_
      refine wp_region_lit ?_
      refine wE (ev_loadA tu77 rfl (cs := [.i6 y4.Kind, .string y4.Path, .string y4.To, v4, v5]) ts77 rfl (box_ptr (cells := [.i6 y4.Kind, .string y4.Path, .string y4.To, v4, v5]) 0 rfl 0 rfl (lb rfl))) F S rfl fun a F=>?_
      replace S : St g5 [[bx b7 #[v3] 46], c3, [bx b8 #[.i6 y4.Kind, .string y4.Path, .string y4.To, v4, v5] 77], [bx b4 #[.i6 0, .i6 0] 25], [bx b3 #[nilS] 46]] fr w := (((((S.frontC 3 rfl).frontC 3 rfl).frontC 2 rfl).frontC 7 rfl).frontC 5 rfl)
      obtain ⟨y5, hy5, hm⟩ := bind_some hm
      refine wl_call0 (wn rfl) rfl F rfl (treepatch_make1_ok (fr := (fl [[bx b8 #[.i6 y4.Kind, .string y4.Path, .string y4.To, v4, v5] 77], [bx b4 #[.i6 0, .i6 0] 25], [bx b3 #[nilS] 46]] fr)) y4 v4 h4 v5 h5 b7 ({ Files := x3 } : FileTree) v3 c3 h3 S hy5) rfl tc31 rfl rfl ?_; clear F a S
      rintro _ a w ⟨g6, v6, c4, l6, S, h6, rfl⟩ F; replace S : St g6 [[bx b7 #[v6] 46], c4, [bx b8 #[.i6 y4.Kind, .string y4.Path, .string y4.To, v4, v5] 77], [bx b4 #[.i6 0, .i6 0] 25], [bx b3 #[nilS] 46]] fr w := S
      refine wE (ev_assign rfl) F S rfl fun a F=>?_
      refine wpList_nil ?_
      refine then_n ?_
      refine wp_seq ?_
      refine wp_region_lit ?_
      refine wE (ev_move rfl) F S rfl fun a F=>?_
      refine wE (ev_int rfl rfl (bo_neq _ _ _ _)) F S rfl fun a F=>?_
      refine wpList_nil ?_
      refine then_n ?_
      obtain ⟨hc4, hm⟩ | ⟨hc4, hm⟩ := ite_or hm
      ·refine wp_condT F rfl hc4 ?_
       refine wp_seq ?_
       refine wp_region_lit ?_
       refine wE (ev_build (parts := []) (vs := []) rfl (fun w => tb46_  w)) F S rfl fun a F=>?_
       refine wE (ev_move rfl) F S rfl fun a F=>?_
       refine wE (ev_move rfl) F S rfl fun a F=>?_
       refine wE (ev_build (parts := [(0, .tmp 41), (1, .tmp 42)]) (vs := [(0, .i6 y5.1), (1, .i6 x2)]) rfl (fun w => tb25_0_1 y5.1 x2 w)) F S rfl fun a F=>?_
       refine wl_storeC (wn rfl) rfl F S rfl rfl (vs := [nilS]) rfl ts46 (one_cons rfl one_nil) (k := 4) rfl (lb rfl) (c' := #[nilS]) rfl rfl ?_; clear S; intro w S
       refine wl_storeC (wn rfl) rfl F S rfl rfl (vs := [.i6 y5.1, .i6 x2]) rfl ts25 (one_cons rfl (one_cons rfl one_nil)) (k := 3) rfl (lb rfl) (c' := #[.i6 y5.1, .i6 x2]) rfl rfl ?_; clear S; intro w S
       refine wpList_nil ?_
       refine then_n ?_
       refine wp_ret ?_
       refine inb_r ?_
       refine then_r ?_
       refine then_r ?_
       refine inb_r ?_
       refine then_r ?_
       obtain rfl := sinj hm
       obtain rfl := hfin1 _ rfl
       clear hm
       have hm : (some (({ Files := [] } : FileTree), ({ Code := y5.1, Index := x2 } : Fault)) : Option (FileTree × Fault)) = some _ := hmo1
       obtain rfl := sinj hm
       replace S : St g6 [[], [bx b7 #[v6] 46], c4, [bx b8 #[.i6 y4.Kind, .string y4.Path, .string y4.To, v4, v5] 77], [bx b4 #[.i6 y5.1, .i6 x2] 25], [bx b3 #[nilS] 46]] fr w := S
       refine post_r _ F rfl (ar_cons (resA rfl tu46 rfl (box_ptr (cells := [nilS]) 5 rfl 0 rfl (lb rfl) w S) ts46) (ar_cons (resA rfl tu25 rfl (box_ptr (cells := [.i6 y5.1, .i6 x2]) 4 rfl 0 rfl (lb rfl) w S) ts25) ar_nil)) ?_
       replace S : St g6 [[]] fr w := St.tail [[]] _ (S.frontC 0 rfl)
       exact ⟨_, rfl, g6, (nilS), [], ((((l1.trans l2).trans l3).trans l5).trans l6), S, (OwnS.nil _), rfl⟩
      ·refine wp_condF F rfl hc4 ?_
       refine wp_skip ?_
       refine inb_n ?_
       refine then_n ?_
       refine wp_region_lit ?_
       obtain ⟨z1, hz1, hm⟩ := bind_some hm
       refine wE (ev_int rfl rfl (bo_add hz1)) F S rfl fun a F=>?_
       refine wE (ev_move rfl) F S rfl fun a F=>?_
       refine wpList_nil ?_
       refine then_n ?_
       obtain rfl := sinj hm
       refine ⟨_, rfl, ?_⟩
       dsimp only
       replace S : St g6 [[bx b7 #[v6] 46], [bx b4 #[.i6 0, .i6 0] 25], [bx b3 #[nilS] 46], c4] fr w := St.tail [[bx b7 #[v6] 46], [bx b4 #[.i6 0, .i6 0] 25], [bx b3 #[nilS] 46], c4] _ ((((S.frontC 1 rfl).frontC 5 rfl).frontC 5 rfl).frontC 3 rfl)
       exact ⟨v6, c4, g6, F.sub ⟨rfl, rfl, rfl, rfl, rfl, rfl, trivial⟩, (l5.trans l6), S, h6⟩
     ·refine wp_condF F rfl hc3 ?_
      refine wp_exit ?_
      refine then_e ?_
      refine then_e ?_
      refine inb_x ?_
      refine then_n ?_
      obtain rfl := sinj hm
      obtain rfl := hfin1 _ rfl
      clear hm
      have hm : (treepatch_Apply.j1 x3 : Option (FileTree × Fault)) = some _ := hmo1
      exact ⟨x3, v3, c3, g5, F.sub ⟨rfl, rfl, rfl, trivial⟩, l5, S, h3, hm⟩
   ·clear F S hm; rintro a w ⟨x1, v2, c2, g4, F, l4, S, h2, hm⟩
    refine wp_seq ?_
    refine wp_region_lit ?_
    refine wE (ev_loadA tu46 rfl (cs := [v2]) ts46 rfl (box_ptr (cells := [v2]) 0 rfl 0 rfl (lb rfl))) F S rfl fun a F=>?_
    refine wE (ev_build (parts := []) (vs := []) rfl (fun w => tb25_  w)) F S rfl fun a F=>?_
    refine wl_storeC (wn rfl) rfl F S rfl rfl (vs := [v2]) rfl ts46 (one_cons (OwnS.one h2) one_nil) (k := 2) rfl (lb rfl) (c' := #[v2]) rfl rfl ?_; clear S; intro w S
    refine wl_storeC (wn rfl) rfl F S rfl rfl (vs := [.i6 0, .i6 0]) rfl ts25 (one_cons rfl (one_cons rfl one_nil)) (k := 1) rfl (lb rfl) (c' := #[.i6 0, .i6 0]) rfl rfl ?_; clear S; intro w S
    refine wpList_nil ?_
    refine then_n ?_
    refine wp_ret ?_
    obtain rfl := sinj hm
    refine post_r _ F rfl (ar_cons (resA rfl tu46 rfl (box_ptr (cells := [v2]) 2 rfl 0 rfl (lb rfl) w S) ts46) (ar_cons (resA rfl tu25 rfl (box_ptr (cells := [.i6 0, .i6 0]) 1 rfl 0 rfl (lb rfl) w S) ts25) ar_nil)) ?_
    replace S : St g4 [c2] fr w := St.tail [c2] _ (S.frontC 3 rfl)
    exact ⟨_, rfl, g4, v2, c2, (((l1.trans l2).trans l3).trans l4), S, h2, rfl⟩

theorem changeforgetop_h11Edit_ok {g : Gh} {fr : Hl} {w : World} {r : TreePatch} (path : ByteArray) (p_ : Patch) (vp_1 : Value) (hp_1 : RepSl g p_.Hunks vp_1) (S : St g [] fr w) (hm : changeforgetop_h11Edit path p_ = some r) :
  Calls Tryd.prog 12 [.string path, .agg #[vp_1]].toArray w (fun en w' => ∃ v, en = .returned v ∧ ∃ (g' : Gh) (v1 : Value) (c1 : Hl), Le g g' ∧ St g' [c1] fr w' ∧ OwnS g' r.Changes v1 c1 ∧ .agg #[v1] = v) := by
 unfold changeforgetop_h11Edit at hm
 refine calls_enter (fn := Tryd.f12) Tryd.func12 rfl Tryd.ntmps12 (lb rfl) ?_
 intro a F
 replace F : Fr 10 a [(0, .string path), (1, .agg #[vp_1])] := F
 refine wp_seq ?_
 refine wp_region_lit ?_
 refine wl_boxC (wn rfl) rfl rfl rfl F S rfl rfl ?_; clear F a S; rintro b1 a w F S
 refine wl_alloc (wn rfl) rfl tz51 (cs := [nilS]) rfl F S rfl rfl ?_; clear F a S; rintro b2 a w F S
 refine wpList_nil ?_
 refine then_n ?_
 refine wp_seq ?_
 refine wp_region_lit ?_
 refine wE (ev_move rfl) F S rfl fun a F=>?_
 refine wE (ev_loadA tu42 rfl (cs := [vp_1]) ts42 rfl (box_ptr (cells := [vp_1]) 1 rfl 0 rfl (lb rfl))) F S rfl fun a F=>?_
 refine wE (ev_build (parts := [(0, .const (.i6 4)), (1, .tmp 5), (4, .tmp 6)]) (vs := [(0, .i6 4), (1, .string path), (4, .agg #[vp_1])]) rfl (fun w => tb77_0_1_4 4 path vp_1 (RepSl.isSl hp_1) w)) F S rfl fun a F=>?_
 refine wl_lit (l := ([({ Kind := 4, Path := path, To := ByteArray.empty, Lines := [], Patch := p_ } : TreeChange)] : List TreeChange)) (vs := [.agg #[.i6 4, .string path, .string ByteArray.empty, nilS, vp_1]]) (parts := [(0, .tmp 7)]) (wn rfl) rfl rfl rfl tu49 te77 (sz_cons rfl sz_nil) rfl (Cat.cons (rep_TreeChange_mk (x := ({ Kind := 4, Path := path, To := ByteArray.empty, Lines := [], Patch := p_ } : TreeChange)) (RepSl.nil _) hp_1) (Cat.nil _)) (coa_cons rfl coa_nil) rfl F S rfl rfl ?_; clear F a S
 rintro v1 c1 a w h1 F S
 refine wE (ev_build (parts := [(0, .tmp 8)]) (vs := [(0, v1)]) rfl (fun w => tb51_0 v1 (OwnS.isSl h1) w)) F S rfl fun a F=>?_
 refine wl_storeC (wn rfl) rfl F S rfl rfl (vs := [v1]) rfl ts51 (one_cons (OwnS.one h1) one_nil) (k := 1) rfl (lb rfl) (c' := #[v1]) rfl rfl ?_; clear S; intro w S
 refine wpList_nil ?_
 refine then_n ?_
 refine wp_ret ?_
 obtain rfl := sinj hm
 refine post_r _ F rfl (ar_cons (resA rfl tu51 rfl (box_ptr (cells := [v1]) 1 rfl 0 rfl (lb rfl) w S) ts51) ar_nil) ?_
 replace S : St g [c1] fr w := St.tail [c1] _ (S.frontC 0 rfl)
 exact ⟨_, rfl, g, v1, c1, (Le.refl _), S, h1, rfl⟩

theorem changeforgeequal_Tree_ok {g : Gh} {fr : Hl} {w : World} {r : Bool} (a_ : FileTree) (va_1 : Value) (ha_1 : RepSl g a_.Files va_1) (b_ : FileTree) (vb_1 : Value) (hb_1 : RepSl g b_.Files vb_1) (S : St g [] fr w) (hm : changeforgeequal_Tree a_ b_ = some r) :
  Calls Tryd.prog 13 [.agg #[va_1], .agg #[vb_1]].toArray w (fun en w' => ∃ v, en = .returned v ∧ ∃ (g' : Gh), Le g g' ∧ St g' [] fr w' ∧ .bool r = v) := by
 unfold changeforgeequal_Tree at hm
 refine calls_enter (fn := Tryd.f13) Tryd.func13 rfl Tryd.ntmps13 (lb rfl) ?_
 intro a F
 replace F : Fr 49 a [(0, .agg #[va_1]), (1, .agg #[vb_1])] := F
 refine wp_seq ?_
 refine wp_region_lit ?_
 refine wl_boxC (wn rfl) rfl rfl rfl F S rfl rfl ?_; clear F a S; rintro b1 a w F S
 refine wl_boxC (wn rfl) rfl rfl rfl F S rfl rfl ?_; clear F a S; rintro b2 a w F S
 refine wE (ev_assign rfl) F S rfl fun a F=>?_
 refine wpList_nil ?_
 refine then_n ?_
 refine wp_seq ?_
 refine wp_seq ?_
 refine wp_region_lit ?_
 refine wE (ev_fieldAddr' tu46 tf46_0 (z := 0) ts44 rfl ⟨_, rfl⟩ rfl) F S rfl fun a F=>?_
 refine wE (ev_load1 tu44 rfl rfl (box_ptr (cells := [va_1]) 1 rfl 0 rfl (lb rfl))) F S rfl fun a F=>?_
 refine wE (ev_lenSh ha_1 rfl tu44) F S rfl fun a F=>?_
 refine wE (ev_fieldAddr' tu46 tf46_0 (z := 0) ts44 rfl ⟨_, rfl⟩ rfl) F S rfl fun a F=>?_
 refine wE (ev_load1 tu44 rfl rfl (box_ptr (cells := [vb_1]) 0 rfl 0 rfl (lb rfl))) F S rfl fun a F=>?_
 refine wE (ev_lenSh hb_1 rfl tu44) F S rfl fun a F=>?_
 refine wE (ev_int rfl rfl (bo_neq _ _ _ _)) F S rfl fun a F=>?_
 refine wpList_nil ?_
 refine then_n ?_
 obtain ⟨hc1, hm⟩ | ⟨hc1, hm⟩ := ite_or hm
 ·refine wp_condT F rfl hc1 ?_
  refine wp_seq ?_
  refine wp_region_lit ?_
  refine wE (ev_assign rfl) F S rfl fun a F=>?_
  refine wpList_nil ?_
  refine then_n ?_
  refine wp_ret ?_
  refine then_r ?_
  obtain rfl := sinj hm
  refine post_r _ F rfl (ar_cons (resT rfl) ar_nil) ?_
  replace S : St g [] fr w := St.tail [] _ S
  exact ⟨_, rfl, g, (Le.refl _), S, rfl⟩
 ·refine wp_condF F rfl hc1 ?_
  refine wp_skip ?_
  refine then_n ?_
  refine wp_cut (fun a w => ∃ (g1 : Gh), Fr 49 a [] ∧ Le g g1 ∧ St g1 [] fr w ∧ changeforgeequal_Tree.j1 = some r) ?_ ?_
  ·refine wp_seq ?_
   refine wp_region_lit ?_
   refine wE (ev_assign rfl) F S rfl fun a F=>?_
   refine wpList_nil ?_
   refine then_n ?_
   refine wp_block ?_
   obtain ⟨r1, hr1, hm⟩ := bind_some hm
   have hmo1 := hm; clear hm
   refine wp_iter (σ := Int) (ρ := Bool ⊕ Unit) (m := fun s => changeforgeequal_Tree.l1 a_ b_ s) (I := fun x1 a w => ∃ (g2 : Gh), Fr 49 a [(5, .i6 x1), (3, bp b2 0), (2, bp b1 0)] ∧ Le g g2 ∧ St g2 [[bx b2 #[vb_1] 46], [bx b1 #[va_1] 46]] fr w) hr1 ?_ ?_
   ·exact ⟨g, F.sub ⟨rfl, rfl, rfl, trivial⟩, (Le.refl _), S⟩
   ·clear F S; rintro x1 a w x2 ⟨g2, F, l2, S⟩ hx1 hfin1
    have hm : changeforgeequal_Tree.l1 a_ b_ x1 = some x2 := hx1; clear hx1
    unfold changeforgeequal_Tree.l1 at hm
    refine wp_seq ?_
    refine wp_seq ?_
    refine wp_region_lit ?_
    refine wE (ev_move rfl) F S rfl fun a F=>?_
    refine wE (ev_fieldAddr' tu46 tf46_0 (z := 0) ts44 rfl ⟨_, rfl⟩ rfl) F S rfl fun a F=>?_
    refine wE (ev_load1 tu44 rfl rfl (box_ptr (cells := [va_1]) 1 rfl 0 rfl (lb rfl))) F S rfl fun a F=>?_
    refine wE (ev_lenSh ha_1 rfl tu44) F S rfl fun a F=>?_
    refine wE (ev_int rfl rfl (bo_lss _ _ _ _)) F S rfl fun a F=>?_
    refine wpList_nil ?_
    refine then_n ?_
    obtain ⟨hc2, hm⟩ | ⟨hc2, hm⟩ := ite_or hm
    ·refine wp_condT F rfl hc2 ?_
     refine wp_skip ?_
     refine then_n ?_
     refine wp_seq ?_
     refine wp_block ?_
     refine wp_seq ?_
     refine wp_quiet mo (by kernel_rfl) S ?_
     refine wq_ev (wn rfl) (ev_fieldAddr' tu46 tf46_0 (z := 0) ts44 rfl ⟨_, rfl⟩ rfl) F rfl rfl ?_; clear F a; intro a F
     refine wq_ev (wn rfl) (ev_load1 tu44 rfl rfl (box_ptr (cells := [va_1]) 1 rfl 0 rfl (lb rfl))) F rfl rfl ?_; clear F a; intro a F
     refine wq_ev (wn rfl) (ev_move rfl) F rfl rfl ?_; clear F a; intro a F
     obtain ⟨y1, hy1, hm⟩ := bind_some hm
     obtain ⟨cs1, hr2, hp1⟩ := elemS (ha_1.mono l2) hy1
     obtain ⟨v1, rfl, h1⟩ := rep_File hr2
     refine wq_ev (wn rfl) (ev_idxS (ha_1.mono l2) hy1 tu44 ts54 rfl rfl) F rfl rfl ?_; clear F a; intro a F
     have hp2 := PtrC.field hp1 0 1 (lb rfl)
     have hp2 : PtrC g2 (addP (elemP va_1 x1 2) 0) [.string y1.Path] := hp2
     refine wq_ev (wn rfl) (ev_fieldAddr' tu54 tf54_0 (z := 0) ts9 rfl hp1.ptr rfl) F rfl rfl ?_; clear F a; intro a F
     refine wq_ev (wn rfl) (ev_load1 tu9 rfl rfl (ptr_mono (cks := [[bx b2 #[vb_1] 46], [bx b1 #[va_1] 46]]) (fr := fr) hp2 (Le.refl _))) F rfl rfl ?_; clear F a; intro a F
     refine wq_ev (wn rfl) (ev_fieldAddr' tu46 tf46_0 (z := 0) ts44 rfl ⟨_, rfl⟩ rfl) F rfl rfl ?_; clear F a; intro a F
     refine wq_ev (wn rfl) (ev_load1 tu44 rfl rfl (box_ptr (cells := [vb_1]) 0 rfl 0 rfl (lb rfl))) F rfl rfl ?_; clear F a; intro a F
     refine wq_ev (wn rfl) (ev_move rfl) F rfl rfl ?_; clear F a; intro a F
     obtain ⟨y2, hy2, hm⟩ := bind_some hm
     obtain ⟨cs2, hr3, hp3⟩ := elemS (hb_1.mono l2) hy2
     obtain ⟨v2, rfl, h2⟩ := rep_File hr3
     refine wq_ev (wn rfl) (ev_idxS (hb_1.mono l2) hy2 tu44 ts54 rfl rfl) F rfl rfl ?_; clear F a; intro a F
     have hp4 := PtrC.field hp3 0 1 (lb rfl)
     have hp4 : PtrC g2 (addP (elemP vb_1 x1 2) 0) [.string y2.Path] := hp4
     refine wq_ev (wn rfl) (ev_fieldAddr' tu54 tf54_0 (z := 0) ts9 rfl hp3.ptr rfl) F rfl rfl ?_; clear F a; intro a F
     refine wq_ev (wn rfl) (ev_load1 tu9 rfl rfl (ptr_mono (cks := [[bx b2 #[vb_1] 46], [bx b1 #[va_1] 46]]) (fr := fr) hp4 (Le.refl _))) F rfl rfl ?_; clear F a; intro a F
     refine wq_ev (wn rfl) (ev_str rfl rfl (bs_neq _ _ _)) F rfl rfl ?_; clear F a; intro a F
     refine wq_ev (wn rfl) (ev_move rfl) F rfl rfl ?_; clear F a; intro a F
     obtain ⟨x3, hx2, hm⟩ := bind_some hm
     refine wq_cut 15 (fun a => Fr 49 a [(48, .bool x3), (5, .i6 x1), (3, bp b2 0), (2, bp b1 0)]) ?_ ?_
     ·clear hm; obtain ⟨hc3, hm⟩ | ⟨hc3, hm⟩ := ite_or hx2
      ·refine wq_skip rfl rfl rfl rfl (ne_ft hc3) F rfl rfl ?_; clear F a; intro a F
       refine wq_skip rfl rfl rfl rfl (ne_ft hc3) F rfl rfl ?_; clear F a; intro a F
       refine wq_skip rfl rfl rfl rfl (ne_ft hc3) F rfl rfl ?_; clear F a; intro a F
       refine wq_skip rfl rfl rfl rfl (ne_ft hc3) F rfl rfl ?_; clear F a; intro a F
       refine wq_skip rfl rfl rfl rfl (ne_ft hc3) F rfl rfl ?_; clear F a; intro a F
       refine wq_skip rfl rfl rfl rfl (ne_ft hc3) F rfl rfl ?_; clear F a; intro a F
       refine wq_skip rfl rfl rfl rfl (ne_ft hc3) F rfl rfl ?_; clear F a; intro a F
       refine wq_skip rfl rfl rfl rfl (ne_ft hc3) F rfl rfl ?_; clear F a; intro a F
       refine wq_skip rfl rfl rfl rfl (ne_ft hc3) F rfl rfl ?_; clear F a; intro a F
       refine wq_skip rfl rfl rfl rfl (ne_ft hc3) F rfl rfl ?_; clear F a; intro a F
       refine wq_skip rfl rfl rfl rfl (ne_ft hc3) F rfl rfl ?_; clear F a; intro a F
       refine wq_skip rfl rfl rfl rfl (ne_ft hc3) F rfl rfl ?_; clear F a; intro a F
       refine wq_skip rfl rfl rfl rfl (ne_ft hc3) F rfl rfl ?_; clear F a; intro a F
       refine wq_skip rfl rfl rfl rfl (ne_ft hc3) F rfl rfl ?_; clear F a; intro a F
       refine wq_ev (wn rfl) (ev_pickT rfl hc3 rfl) F rfl rfl ?_; clear F a; intro a F
       obtain rfl := sinj hm
       refine wq_nil ?_; exact F.sub ⟨rfl, rfl, rfl, rfl, trivial⟩
      ·refine wq_ev (wg F rfl rfl rfl rfl hc3) (ev_fieldAddr' tu46 tf46_0 (z := 0) ts44 rfl ⟨_, rfl⟩ rfl) F rfl rfl ?_; clear F a; intro a F
       refine wq_ev (wg F rfl rfl rfl rfl hc3) (ev_load1 tu44 rfl rfl (box_ptr (cells := [va_1]) 1 rfl 0 rfl (lb rfl))) F rfl rfl ?_; clear F a; intro a F
       refine wq_ev (wg F rfl rfl rfl rfl hc3) (ev_move rfl) F rfl rfl ?_; clear F a; intro a F
       obtain ⟨y3, hy3, hm⟩ := bind_some hm
       obtain ⟨cs3, hr4, hp5⟩ := elemS (ha_1.mono l2) hy3
       obtain ⟨v3, rfl, h3⟩ := rep_File hr4
       refine wq_ev (wg F rfl rfl rfl rfl hc3) (ev_idxS (ha_1.mono l2) hy3 tu44 ts54 rfl rfl) F rfl rfl ?_; clear F a; intro a F
       have hp6 := PtrC.field hp5 1 1 (lb rfl)
       have hp6 : PtrC g2 (addP (elemP va_1 x1 2) 1) [v3] := hp6
       refine wq_ev (wg F rfl rfl rfl rfl hc3) (ev_fieldAddr' tu54 tf54_1 (z := 0) ts22 rfl hp5.ptr rfl) F rfl rfl ?_; clear F a; intro a F
       refine wq_ev (wg F rfl rfl rfl rfl hc3) (ev_load1 tu22 rfl rfl (ptr_mono (cks := [[bx b2 #[vb_1] 46], [bx b1 #[va_1] 46]]) (fr := fr) hp6 (Le.refl _))) F rfl rfl ?_; clear F a; intro a F
       refine wq_ev (wg F rfl rfl rfl rfl hc3) (ev_fieldAddr' tu46 tf46_0 (z := 0) ts44 rfl ⟨_, rfl⟩ rfl) F rfl rfl ?_; clear F a; intro a F
       refine wq_ev (wg F rfl rfl rfl rfl hc3) (ev_load1 tu44 rfl rfl (box_ptr (cells := [vb_1]) 0 rfl 0 rfl (lb rfl))) F rfl rfl ?_; clear F a; intro a F
       refine wq_ev (wg F rfl rfl rfl rfl hc3) (ev_move rfl) F rfl rfl ?_; clear F a; intro a F
       obtain ⟨y4, hy4, hm⟩ := bind_some hm
       obtain ⟨cs4, hr5, hp7⟩ := elemS (hb_1.mono l2) hy4
       obtain ⟨v4, rfl, h4⟩ := rep_File hr5
       refine wq_ev (wg F rfl rfl rfl rfl hc3) (ev_idxS (hb_1.mono l2) hy4 tu44 ts54 rfl rfl) F rfl rfl ?_; clear F a; intro a F
       have hp8 := PtrC.field hp7 1 1 (lb rfl)
       have hp8 : PtrC g2 (addP (elemP vb_1 x1 2) 1) [v4] := hp8
       refine wq_ev (wg F rfl rfl rfl rfl hc3) (ev_fieldAddr' tu54 tf54_1 (z := 0) ts22 rfl hp7.ptr rfl) F rfl rfl ?_; clear F a; intro a F
       refine wq_ev (wg F rfl rfl rfl rfl hc3) (ev_load1 tu22 rfl rfl (ptr_mono (cks := [[bx b2 #[vb_1] 46], [bx b1 #[va_1] 46]]) (fr := fr) hp8 (Le.refl _))) F rfl rfl ?_; clear F a; intro a F
       obtain ⟨y5, hy5, hm⟩ := bind_some hm
       refine wq_call (wg F rfl rfl rfl rfl hc3) rfl (xs := [.tmp 39, .tmp 45]) (vs := [v3, v4]) (cap := []) F rfl rfl tc8 (v := .bool y5) (fun w S => (changeforgeequal_Strings_ok (g := g2) (fr := (fl [[bx b2 #[vb_1] 46], [bx b1 #[va_1] 46]] fr)) (w := w) y3.Lines v3 h3 y4.Lines v4 h4 S hy5).mono (by rintro en w' ⟨_, rfl, g2, l2, S2, rfl⟩; exact ⟨rfl, S2.weak l2⟩)) rfl rfl ?_; clear F a; intro a F
       refine wq_ev (wg F rfl rfl rfl rfl hc3) (ev_not rfl) F rfl rfl ?_; clear F a; intro a F
       refine wq_ev (wn rfl) (ev_pickF rfl hc3 rfl) F rfl rfl ?_; clear F a; intro a F
       obtain rfl := sinj hm
       refine wq_nil ?_; exact F.sub ⟨rfl, rfl, rfl, rfl, trivial⟩
     clear F; intro a F
     refine wq_nil ?_; clear S; intro w S
     refine then_n ?_
     obtain ⟨hc4, hm⟩ | ⟨hc4, hm⟩ := ite_or hm
     ·refine wp_condT F rfl hc4 ?_
      refine wp_seq ?_
      refine wp_region_lit ?_
      refine wE (ev_assign rfl) F S rfl fun a F=>?_
      refine wpList_nil ?_
      refine then_n ?_
      refine wp_ret ?_
      refine inb_r ?_
      refine then_r ?_
      refine then_r ?_
      refine inb_r ?_
      refine then_r ?_
      obtain rfl := sinj hm
      obtain rfl := hfin1 _ rfl
      clear hm
      have hm : (some false : Option Bool) = some _ := hmo1
      obtain rfl := sinj hm
      refine post_r _ F rfl (ar_cons (resT rfl) ar_nil) ?_
      replace S : St g2 [] fr w := St.tail [] _ S
      exact ⟨_, rfl, g2, l2, S, rfl⟩
     ·refine wp_condF F rfl hc4 ?_
      refine wp_skip ?_
      refine inb_n ?_
      refine then_n ?_
      refine wp_region_lit ?_
      refine wE (ev_move rfl) F S rfl fun a F=>?_
      obtain ⟨z1, hz1, hm⟩ := bind_some hm
      refine wE (ev_int rfl rfl (bo_add hz1)) F S rfl fun a F=>?_
      refine wE (ev_assign rfl) F S rfl fun a F=>?_
      refine wpList_nil ?_
      refine then_n ?_
      obtain rfl := sinj hm
      refine ⟨_, rfl, ?_⟩
      exact ⟨g2, F.sub ⟨rfl, rfl, rfl, trivial⟩, l2, S⟩
    ·refine wp_condF F rfl hc2 ?_
     refine wp_exit ?_
     refine then_e ?_
     refine then_e ?_
     refine inb_x ?_
     refine then_n ?_
     obtain rfl := sinj hm
     obtain rfl := hfin1 _ rfl
     clear hm
     have hm : (changeforgeequal_Tree.j1 : Option Bool) = some _ := hmo1
     replace S : St g2 [] fr w := St.tail [] _ S
     exact ⟨g2, F.sub trivial, l2, S, hm⟩
  ·clear F S hm; rintro a w ⟨g1, F, l1, S, hm⟩
   refine wp_seq ?_
   refine wp_region_lit ?_
   refine wE (ev_assign rfl) F S rfl fun a F=>?_
   refine wpList_nil ?_
   refine then_n ?_
   refine wp_ret ?_
   obtain rfl := sinj hm
   refine post_r _ F rfl (ar_cons (resT rfl) ar_nil) ?_
   exact ⟨_, rfl, g1, l1, S, rfl⟩

theorem changeforgetop_h11Works_ok {g : Gh} {fr : Hl} {w : World} {r : Bool}  (S : St g [] fr w) (hm : changeforgetop_h11Works = some r) :
  Calls Tryd.prog 5 [].toArray w (fun en w' => ∃ v, en = .returned v ∧ ∃ (g' : Gh), Le g g' ∧ St g' [] fr w' ∧ .bool r = v) := by
 unfold changeforgetop_h11Works at hm
 refine calls_enter (fn := Tryd.f5) Tryd.func5 rfl Tryd.ntmps5 (lb rfl) ?_
 intro a F
 replace F : Fr 48 a [] := F
 refine wp_seq ?_
 refine wp_region_lit ?_
 refine wE (ev_assign rfl) F S rfl fun a F=>?_
 refine wpList_nil ?_
 refine then_n ?_
 refine wp_seq ?_
 refine wp_region_lit ?_
 refine wl_lit (l := ([(⟨#[97]⟩ : ByteArray)] : List ByteArray)) (vs := [.string (⟨#[97]⟩ : ByteArray)]) (parts := [(0, .const (.string (⟨#[97]⟩ : ByteArray)))]) (wn rfl) rfl rfl rfl tu22 te9 (sz_cons rfl sz_nil) rfl (Cat.cons (show Rep.rep _ (⟨#[97]⟩ : ByteArray) _ from rfl) (Cat.nil _)) (coa_cons rfl coa_nil) rfl F S rfl rfl ?_; clear F a S
 rintro v1 c1 a w h1 F S
 refine wl_lit (l := ([(⟨#[98]⟩ : ByteArray)] : List ByteArray)) (vs := [.string (⟨#[98]⟩ : ByteArray)]) (parts := [(0, .const (.string (⟨#[98]⟩ : ByteArray)))]) (wn rfl) rfl rfl rfl tu22 te9 (sz_cons rfl sz_nil) rfl (Cat.cons (show Rep.rep _ (⟨#[98]⟩ : ByteArray) _ from rfl) (Cat.nil _)) (coa_cons rfl coa_nil) rfl F S rfl rfl ?_; clear F a S
 rintro v2 c2 a w h2 F S
 refine wE (ev_build (parts := [(0, .const (.i6 0)), (1, .tmp 6), (2, .tmp 7)]) (vs := [(0, .i6 0), (1, v1), (2, v2)]) rfl (fun w => tb39_0_1_2 0 v1 (OwnS.isSl h1) v2 (OwnS.isSl h2) w)) F S rfl fun a F=>?_
 obtain ⟨g1, l1, S, h3⟩ : ∃ gz, Le g gz ∧ St gz [c2] fr w ∧ RepSl gz ([(⟨#[97]⟩ : ByteArray)] : List ByteArray) v1 := ⟨_, Le.add _ _, S.freeze 1 rfl, OwnS.freeze (S.front 1 rfl) h1⟩
 obtain ⟨g2, l2, S, h4⟩ : ∃ gz, Le g1 gz ∧ St gz [] fr w ∧ RepSl gz ([(⟨#[98]⟩ : ByteArray)] : List ByteArray) v2 := ⟨_, Le.add _ _, S.freeze 0 rfl, OwnS.freeze (S.front 0 rfl) (h2.mono l1)⟩
 refine wl_lit (l := ([({ At := 0, Old := ([(⟨#[97]⟩ : ByteArray)] : List ByteArray), New := ([(⟨#[98]⟩ : ByteArray)] : List ByteArray) } : Hunk)] : List Hunk)) (vs := [.agg #[.i6 0, v1, v2]]) (parts := [(0, .tmp 8)]) (wn rfl) rfl rfl rfl tu40 te39 (sz_cons rfl sz_nil) rfl (Cat.cons (rep_Hunk_mk (x := ({ At := 0, Old := ([(⟨#[97]⟩ : ByteArray)] : List ByteArray), New := ([(⟨#[98]⟩ : ByteArray)] : List ByteArray) } : Hunk)) (h3.mono l2) h4) (Cat.nil _)) (coa_cons rfl coa_nil) rfl F S rfl rfl ?_; clear F a S
 rintro v3 c3 a w h5 F S
 refine wE (ev_build (parts := [(0, .tmp 9)]) (vs := [(0, v3)]) rfl (fun w => tb42_0 v3 (OwnS.isSl h5) w)) F S rfl fun a F=>?_
 refine wl_alloc (wn rfl) rfl tz42 (cs := [nilS]) rfl F S rfl rfl ?_; clear F a S; rintro b1 a w F S
 refine wl_storeC (wn rfl) rfl F S rfl rfl (vs := [v3]) rfl ts42 (one_cons (OwnS.one h5) one_nil) (k := 0) rfl (lb rfl) (c' := #[v3]) rfl rfl ?_; clear S; intro w S
 refine wpList_nil ?_
 refine then_n ?_
 refine wp_seq ?_
 refine wp_region_lit ?_
 refine wE (ev_loadA tu42 rfl (cs := [v3]) ts42 rfl (box_ptr (cells := [v3]) 0 rfl 0 rfl (lb rfl))) F S rfl fun a F=>?_
 refine wl_lit (l := ([(⟨#[97]⟩ : ByteArray)] : List ByteArray)) (vs := [.string (⟨#[97]⟩ : ByteArray)]) (parts := [(0, .const (.string (⟨#[97]⟩ : ByteArray)))]) (wn rfl) rfl rfl rfl tu22 te9 (sz_cons rfl sz_nil) rfl (Cat.cons (show Rep.rep _ (⟨#[97]⟩ : ByteArray) _ from rfl) (Cat.nil _)) (coa_cons rfl coa_nil) rfl F S rfl rfl ?_; clear F a S
 rintro v4 c4 a w h6 F S
 obtain ⟨g3, l3, S, h7⟩ : ∃ gz, Le g2 gz ∧ St gz [c4, [bx b1 #[v3] 42]] fr w ∧ RepSl gz ([({ At := 0, Old := ([(⟨#[97]⟩ : ByteArray)] : List ByteArray), New := ([(⟨#[98]⟩ : ByteArray)] : List ByteArray) } : Hunk)] : List Hunk) v3 := ⟨_, Le.add _ _, S.freeze 2 rfl, OwnS.freeze (S.front 2 rfl) h5⟩
 obtain ⟨g4, l4, S, h8⟩ : ∃ gz, Le g3 gz ∧ St gz [[bx b1 #[v3] 42]] fr w ∧ RepSl gz ([(⟨#[97]⟩ : ByteArray)] : List ByteArray) v4 := ⟨_, Le.add _ _, S.freeze 0 rfl, OwnS.freeze (S.front 0 rfl) (h6.mono l3)⟩
 obtain ⟨y1, hy1, hm⟩ := bind_some hm
 refine wl_call0 (wn rfl) rfl F rfl (textpatch_Apply_ok (fr := (fl [[bx b1 #[v3] 42]] fr)) ({ Hunks := ([({ At := 0, Old := ([(⟨#[97]⟩ : ByteArray)] : List ByteArray), New := ([(⟨#[98]⟩ : ByteArray)] : List ByteArray) } : Hunk)] : List Hunk) } : Patch) v3 (h7.mono l4) ([(⟨#[97]⟩ : ByteArray)] : List ByteArray) v4 h8 S hy1) rfl tc10 rfl rfl ?_; clear F a S
 rintro _ a w ⟨g5, v5, c5, l5, S, h9, rfl⟩ F; replace S : St g5 [c5, [bx b1 #[v3] 42]] fr w := S
 refine wE (ev_move rfl) F S rfl fun a F=>?_
 refine wE (ev_extract rfl rfl) F S rfl fun a F=>?_
 refine wE (ev_extract rfl rfl) F S rfl fun a F=>?_
 refine wl_alloc (wn rfl) rfl tz25 (cs := [.i6 0, .i6 0]) rfl F S rfl rfl ?_; clear F a S; rintro b2 a w F S
 refine wE (ev_assign rfl) F S rfl fun a F=>?_
 refine wl_storeC (wn rfl) rfl F S rfl rfl (vs := [.i6 y1.2.Code, .i6 y1.2.Index]) rfl ts25 (one_cons rfl (one_cons rfl one_nil)) (k := 0) rfl (lb rfl) (c' := #[.i6 y1.2.Code, .i6 y1.2.Index]) rfl rfl ?_; clear S; intro w S
 refine wpList_nil ?_
 refine then_n ?_
 refine wp_seq ?_
 refine wp_region_lit ?_
 refine wE (ev_loadA tu42 rfl (cs := [v3]) ts42 rfl (box_ptr (cells := [v3]) 2 rfl 0 rfl (lb rfl))) F S rfl fun a F=>?_
 obtain ⟨y2, hy2, hm⟩ := bind_some hm
 refine wl_call0 (wn rfl) rfl F rfl (changeforgetop_h11Edit_ok (fr := (fl [[bx b2 #[.i6 y1.2.Code, .i6 y1.2.Index] 25], c5, [bx b1 #[v3] 42]] fr)) (⟨#[120]⟩ : ByteArray) ({ Hunks := ([({ At := 0, Old := ([(⟨#[97]⟩ : ByteArray)] : List ByteArray), New := ([(⟨#[98]⟩ : ByteArray)] : List ByteArray) } : Hunk)] : List Hunk) } : Patch) v3 (h7.mono (l4.trans l5)) S hy2) rfl tc12 rfl rfl ?_; clear F a S
 rintro _ a w ⟨g6, v6, c6, l6, S, h10, rfl⟩ F; replace S : St g6 [c6, [bx b2 #[.i6 y1.2.Code, .i6 y1.2.Index] 25], c5, [bx b1 #[v3] 42]] fr w := S
 refine wl_lit (l := ([(⟨#[97]⟩ : ByteArray)] : List ByteArray)) (vs := [.string (⟨#[97]⟩ : ByteArray)]) (parts := [(0, .const (.string (⟨#[97]⟩ : ByteArray)))]) (wn rfl) rfl rfl rfl tu22 te9 (sz_cons rfl sz_nil) rfl (Cat.cons (show Rep.rep _ (⟨#[97]⟩ : ByteArray) _ from rfl) (Cat.nil _)) (coa_cons rfl coa_nil) rfl F S rfl rfl ?_; clear F a S
 rintro v7 c7 a w h11 F S
 refine wE (ev_build (parts := [(0, .const (.string (⟨#[120]⟩ : ByteArray))), (1, .tmp 20)]) (vs := [(0, .string (⟨#[120]⟩ : ByteArray)), (1, v7)]) rfl (fun w => tb54_0_1 (⟨#[120]⟩ : ByteArray) v7 (OwnS.isSl h11) w)) F S rfl fun a F=>?_
 obtain ⟨g7, l7, S, h12⟩ : ∃ gz, Le g6 gz ∧ St gz [c6, [bx b2 #[.i6 y1.2.Code, .i6 y1.2.Index] 25], c5, [bx b1 #[v3] 42]] fr w ∧ RepSl gz ([(⟨#[97]⟩ : ByteArray)] : List ByteArray) v7 := ⟨_, Le.add _ _, S.freeze 0 rfl, OwnS.freeze (S.front 0 rfl) h11⟩
 refine wl_lit (l := ([({ Path := (⟨#[120]⟩ : ByteArray), Lines := ([(⟨#[97]⟩ : ByteArray)] : List ByteArray) } : File)] : List File)) (vs := [.agg #[.string (⟨#[120]⟩ : ByteArray), v7]]) (parts := [(0, .tmp 21)]) (wn rfl) rfl rfl rfl tu44 te54 (sz_cons rfl sz_nil) rfl (Cat.cons (rep_File_mk (x := ({ Path := (⟨#[120]⟩ : ByteArray), Lines := ([(⟨#[97]⟩ : ByteArray)] : List ByteArray) } : File)) h12) (Cat.nil _)) (coa_cons rfl coa_nil) rfl F S rfl rfl ?_; clear F a S
 rintro v8 c8 a w h13 F S
 refine wE (ev_build (parts := [(0, .tmp 22)]) (vs := [(0, v8)]) rfl (fun w => tb46_0 v8 (OwnS.isSl h13) w)) F S rfl fun a F=>?_
 obtain ⟨g8, l8, S, h14⟩ : ∃ gz, Le g7 gz ∧ St gz [c8, [bx b2 #[.i6 y1.2.Code, .i6 y1.2.Index] 25], c5, [bx b1 #[v3] 42]] fr w ∧ RepSl gz y2.Changes v6 := ⟨_, Le.add _ _, S.freeze 1 rfl, OwnS.freeze (S.front 1 rfl) (h10.mono l7)⟩
 obtain ⟨g9, l9, S, h15⟩ : ∃ gz, Le g8 gz ∧ St gz [[bx b2 #[.i6 y1.2.Code, .i6 y1.2.Index] 25], c5, [bx b1 #[v3] 42]] fr w ∧ RepSl gz ([({ Path := (⟨#[120]⟩ : ByteArray), Lines := ([(⟨#[97]⟩ : ByteArray)] : List ByteArray) } : File)] : List File) v8 := ⟨_, Le.add _ _, S.freeze 0 rfl, OwnS.freeze (S.front 0 rfl) (h13.mono l8)⟩
 obtain ⟨y3, hy3, hm⟩ := bind_some hm
 refine wl_call0 (wn rfl) rfl F rfl (treepatch_Apply_ok (fr := (fl [[bx b2 #[.i6 y1.2.Code, .i6 y1.2.Index] 25], c5, [bx b1 #[v3] 42]] fr)) y2 v6 (h14.mono l9) ({ Files := ([({ Path := (⟨#[120]⟩ : ByteArray), Lines := ([(⟨#[97]⟩ : ByteArray)] : List ByteArray) } : File)] : List File) } : FileTree) v8 h15 S hy3) rfl tc11 rfl rfl ?_; clear F a S
 rintro _ a w ⟨g10, v9, c9, l10, S, h16, rfl⟩ F; replace S : St g10 [c9, [bx b2 #[.i6 y1.2.Code, .i6 y1.2.Index] 25], c5, [bx b1 #[v3] 42]] fr w := S
 refine wE (ev_move rfl) F S rfl fun a F=>?_
 refine wE (ev_extract rfl rfl) F S rfl fun a F=>?_
 refine wE (ev_extract rfl rfl) F S rfl fun a F=>?_
 refine wl_alloc (wn rfl) rfl tz46 (cs := [nilS]) rfl F S rfl rfl ?_; clear F a S; rintro b3 a w F S
 refine wl_alloc (wn rfl) rfl tz25 (cs := [.i6 0, .i6 0]) rfl F S rfl rfl ?_; clear F a S; rintro b4 a w F S
 refine wl_storeC (wn rfl) rfl F S rfl rfl (vs := [v9]) rfl ts46 (one_cons (OwnS.one h16) one_nil) (k := 1) rfl (lb rfl) (c' := #[v9]) rfl rfl ?_; clear S; intro w S
 refine wl_storeC (wn rfl) rfl F S rfl rfl (vs := [.i6 y3.2.Code, .i6 y3.2.Index]) rfl ts25 (one_cons rfl (one_cons rfl one_nil)) (k := 0) rfl (lb rfl) (c' := #[.i6 y3.2.Code, .i6 y3.2.Index]) rfl rfl ?_; clear S; intro w S
 refine wpList_nil ?_
 refine then_n ?_
 refine wp_seq ?_
 refine wp_region_lit ?_
 refine wE (ev_fieldAddr' tu25 tf25_0 (z := 0) ts3 rfl ⟨_, rfl⟩ rfl) F S rfl fun a F=>?_
 refine wE (ev_load1 tu3 rfl rfl (box_ptr (cells := [.i6 y1.2.Code]) 3 rfl 0 rfl (lb rfl))) F S rfl fun a F=>?_
 refine wE (ev_int rfl rfl (bo_eql _ _ _ _)) F S rfl fun a F=>?_
 refine wE (ev_move rfl) F S rfl fun a F=>?_
 obtain ⟨x1, hx1, hm⟩ := bind_some hm
 refine wl_cut 4 (fun a w' => w = w' ∧ Fr 48 a [(34, .bool x1), (4, bp b3 0), (2, v5), (0, .bool false)]) ?_ ?_
 ·clear hm; obtain ⟨hc1, hm⟩ | ⟨hc1, hm⟩ := ite_or hx1
  ·refine wl_ev (wg F rfl rfl rfl rfl hc1) (ev_fieldAddr' tu25 tf25_0 (z := 0) ts3 rfl ⟨_, rfl⟩ rfl) F S rfl rfl ?_; clear F a; intro a F
   refine wl_ev (wg F rfl rfl rfl rfl hc1) (ev_load1 tu3 rfl rfl (box_ptr (cells := [.i6 y3.2.Code]) 0 rfl 0 rfl (lb rfl))) F S rfl rfl ?_; clear F a; intro a F
   refine wl_ev (wg F rfl rfl rfl rfl hc1) (ev_int rfl rfl (bo_eql _ _ _ _)) F S rfl rfl ?_; clear F a; intro a F
   refine wE (ev_pickT rfl hc1 rfl) F S rfl fun a F=>?_
   obtain rfl := sinj hm
   refine wpList_nil (then_n ?_); exact ⟨rfl, F.sub ⟨rfl, rfl, rfl, rfl, trivial⟩⟩
  ·refine wl_skip rfl rfl rfl rfl (ne_tf hc1) F rfl rfl ?_; clear F a; intro a F
   refine wl_skip rfl rfl rfl rfl (ne_tf hc1) F rfl rfl ?_; clear F a; intro a F
   refine wl_skip rfl rfl rfl rfl (ne_tf hc1) F rfl rfl ?_; clear F a; intro a F
   refine wE (ev_pickF rfl hc1 rfl) F S rfl fun a F=>?_
   obtain rfl := sinj hm
   refine wpList_nil (then_n ?_); exact ⟨rfl, F.sub ⟨rfl, rfl, rfl, rfl, trivial⟩⟩
 clear F; rintro a w' ⟨rfl, F⟩
 refine wE (ev_move rfl) F S rfl fun a F=>?_
 obtain ⟨g11, l11, S, h17⟩ : ∃ gz, Le g10 gz ∧ St gz [[bx b4 #[.i6 y3.2.Code, .i6 y3.2.Index] 25], [bx b3 #[v9] 46], c9, [bx b2 #[.i6 y1.2.Code, .i6 y1.2.Index] 25], [bx b1 #[v3] 42]] fr w ∧ RepSl gz y1.1 v5 := ⟨_, Le.add _ _, S.freeze 4 rfl, OwnS.freeze (S.front 4 rfl) (h9.mono ((((l6.trans l7).trans l8).trans l9).trans l10))⟩
 obtain ⟨x2, hx2, hm⟩ := bind_some hm
 refine wl_cut 4 (fun a w => ∃ g12, Fr 48 a [(39, .bool x2), (4, bp b3 0), (0, .bool false)] ∧ Le g11 g12 ∧ St g12 [[bx b4 #[.i6 y3.2.Code, .i6 y3.2.Index] 25], [bx b3 #[v9] 46], c9, [bx b2 #[.i6 y1.2.Code, .i6 y1.2.Index] 25], [bx b1 #[v3] 42]] fr w) ?_ ?_
 ·clear hm; obtain ⟨hc2, hm⟩ | ⟨hc2, hm⟩ := ite_or hx2
  ·refine wl_ev (wg F rfl rfl rfl rfl hc2) (ev_move rfl) F S rfl rfl ?_; clear F a; intro a F
   refine wl_lit (l := ([(⟨#[98]⟩ : ByteArray)] : List ByteArray)) (vs := [.string (⟨#[98]⟩ : ByteArray)]) (parts := [(0, .const (.string (⟨#[98]⟩ : ByteArray)))]) (wg F rfl rfl rfl rfl hc2) rfl rfl rfl tu22 te9 (sz_cons rfl sz_nil) rfl (Cat.cons (show Rep.rep _ (⟨#[98]⟩ : ByteArray) _ from rfl) (Cat.nil _)) (coa_cons rfl coa_nil) rfl F S rfl rfl ?_; clear F a S
   rintro v10 c10 a w h18 F S
   obtain ⟨g13, l13, S, h19⟩ : ∃ gz, Le g11 gz ∧ St gz [[bx b4 #[.i6 y3.2.Code, .i6 y3.2.Index] 25], [bx b3 #[v9] 46], c9, [bx b2 #[.i6 y1.2.Code, .i6 y1.2.Index] 25], [bx b1 #[v3] 42]] fr w ∧ RepSl gz ([(⟨#[98]⟩ : ByteArray)] : List ByteArray) v10 := ⟨_, Le.add _ _, S.freeze 0 rfl, OwnS.freeze (S.front 0 rfl) h18⟩
   obtain ⟨y4, hy4, hm⟩ := bind_some hm
   refine wl_call0 (wg F rfl rfl rfl rfl hc2) rfl F rfl (changeforgeequal_Strings_ok (fr := (fl [[bx b4 #[.i6 y3.2.Code, .i6 y3.2.Index] 25], [bx b3 #[v9] 46], c9, [bx b2 #[.i6 y1.2.Code, .i6 y1.2.Index] 25], [bx b1 #[v3] 42]] fr)) y1.1 v5 (h17.mono l13) ([(⟨#[98]⟩ : ByteArray)] : List ByteArray) v10 h19 S hy4) rfl tc8 rfl rfl ?_; clear F a S
   rintro _ a w ⟨g14, l14, S, rfl⟩ F; replace S : St g14 [[bx b4 #[.i6 y3.2.Code, .i6 y3.2.Index] 25], [bx b3 #[v9] 46], c9, [bx b2 #[.i6 y1.2.Code, .i6 y1.2.Index] 25], [bx b1 #[v3] 42]] fr w := S
   refine wE (ev_pickT rfl hc2 rfl) F S rfl fun a F=>?_
   obtain rfl := sinj hm
   refine wpList_nil (then_n ?_); exact ⟨g14, F.sub ⟨rfl, rfl, rfl, trivial⟩, (l13.trans l14), S⟩
  ·refine wl_skip rfl rfl rfl rfl (ne_tf hc2) F rfl rfl ?_; clear F a; intro a F
   refine wl_skip rfl rfl rfl rfl (ne_tf hc2) F rfl rfl ?_; clear F a; intro a F
   refine wl_skip rfl rfl rfl rfl (ne_tf hc2) F rfl rfl ?_; clear F a; intro a F
   refine wE (ev_pickF rfl hc2 rfl) F S rfl fun a F=>?_
   obtain rfl := sinj hm
   refine wpList_nil (then_n ?_); exact ⟨g11, F.sub ⟨rfl, rfl, rfl, trivial⟩, (Le.refl _), S⟩
 clear F S; rintro a w ⟨g12, F, l12, S⟩
 refine wE (ev_move rfl) F S rfl fun a F=>?_
 obtain ⟨g15, l15, S, h20⟩ : ∃ gz, Le g12 gz ∧ St gz [[bx b4 #[.i6 y3.2.Code, .i6 y3.2.Index] 25], [bx b3 #[v9] 46], [bx b2 #[.i6 y1.2.Code, .i6 y1.2.Index] 25], [bx b1 #[v3] 42]] fr w ∧ RepSl gz y3.1.Files v9 := ⟨_, Le.add _ _, S.freeze 2 rfl, OwnS.freeze (S.front 2 rfl) (h16.mono (l11.trans l12))⟩
 obtain ⟨x3, hx3, hm⟩ := bind_some hm
 refine wl_cut 7 (fun a w => ∃ g16, Fr 48 a [(47, .bool x3), (0, .bool false)] ∧ Le g15 g16 ∧ St g16 [[bx b4 #[.i6 y3.2.Code, .i6 y3.2.Index] 25], [bx b3 #[v9] 46], [bx b2 #[.i6 y1.2.Code, .i6 y1.2.Index] 25], [bx b1 #[v3] 42]] fr w) ?_ ?_
 ·clear hm; obtain ⟨hc3, hm⟩ | ⟨hc3, hm⟩ := ite_or hx3
  ·refine wl_ev (wg F rfl rfl rfl rfl hc3) (ev_loadA tu46 rfl (cs := [v9]) ts46 rfl (box_ptr (cells := [v9]) 1 rfl 0 rfl (lb rfl))) F S rfl rfl ?_; clear F a; intro a F
   refine wl_lit (l := ([(⟨#[98]⟩ : ByteArray)] : List ByteArray)) (vs := [.string (⟨#[98]⟩ : ByteArray)]) (parts := [(0, .const (.string (⟨#[98]⟩ : ByteArray)))]) (wg F rfl rfl rfl rfl hc3) rfl rfl rfl tu22 te9 (sz_cons rfl sz_nil) rfl (Cat.cons (show Rep.rep _ (⟨#[98]⟩ : ByteArray) _ from rfl) (Cat.nil _)) (coa_cons rfl coa_nil) rfl F S rfl rfl ?_; clear F a S
   rintro v11 c11 a w h21 F S
   refine wl_ev (wg F rfl rfl rfl rfl hc3) (ev_build (parts := [(0, .const (.string (⟨#[120]⟩ : ByteArray))), (1, .tmp 42)]) (vs := [(0, .string (⟨#[120]⟩ : ByteArray)), (1, v11)]) rfl (fun w => tb54_0_1 (⟨#[120]⟩ : ByteArray) v11 (OwnS.isSl h21) w)) F S rfl rfl ?_; clear F a; intro a F
   obtain ⟨g17, l17, S, h22⟩ : ∃ gz, Le g15 gz ∧ St gz [[bx b4 #[.i6 y3.2.Code, .i6 y3.2.Index] 25], [bx b3 #[v9] 46], [bx b2 #[.i6 y1.2.Code, .i6 y1.2.Index] 25], [bx b1 #[v3] 42]] fr w ∧ RepSl gz ([(⟨#[98]⟩ : ByteArray)] : List ByteArray) v11 := ⟨_, Le.add _ _, S.freeze 0 rfl, OwnS.freeze (S.front 0 rfl) h21⟩
   refine wl_lit (l := ([({ Path := (⟨#[120]⟩ : ByteArray), Lines := ([(⟨#[98]⟩ : ByteArray)] : List ByteArray) } : File)] : List File)) (vs := [.agg #[.string (⟨#[120]⟩ : ByteArray), v11]]) (parts := [(0, .tmp 43)]) (wg F rfl rfl rfl rfl hc3) rfl rfl rfl tu44 te54 (sz_cons rfl sz_nil) rfl (Cat.cons (rep_File_mk (x := ({ Path := (⟨#[120]⟩ : ByteArray), Lines := ([(⟨#[98]⟩ : ByteArray)] : List ByteArray) } : File)) h22) (Cat.nil _)) (coa_cons rfl coa_nil) rfl F S rfl rfl ?_; clear F a S
   rintro v12 c12 a w h23 F S
   refine wl_ev (wg F rfl rfl rfl rfl hc3) (ev_build (parts := [(0, .tmp 44)]) (vs := [(0, v12)]) rfl (fun w => tb46_0 v12 (OwnS.isSl h23) w)) F S rfl rfl ?_; clear F a; intro a F
   obtain ⟨g18, l18, S, h24⟩ : ∃ gz, Le g17 gz ∧ St gz [[bx b4 #[.i6 y3.2.Code, .i6 y3.2.Index] 25], [bx b3 #[v9] 46], [bx b2 #[.i6 y1.2.Code, .i6 y1.2.Index] 25], [bx b1 #[v3] 42]] fr w ∧ RepSl gz ([({ Path := (⟨#[120]⟩ : ByteArray), Lines := ([(⟨#[98]⟩ : ByteArray)] : List ByteArray) } : File)] : List File) v12 := ⟨_, Le.add _ _, S.freeze 0 rfl, OwnS.freeze (S.front 0 rfl) h23⟩
   obtain ⟨y5, hy5, hm⟩ := bind_some hm
   refine wl_call0 (wg F rfl rfl rfl rfl hc3) rfl F rfl (changeforgeequal_Tree_ok (fr := (fl [[bx b4 #[.i6 y3.2.Code, .i6 y3.2.Index] 25], [bx b3 #[v9] 46], [bx b2 #[.i6 y1.2.Code, .i6 y1.2.Index] 25], [bx b1 #[v3] 42]] fr)) y3.1 v9 (h20.mono (l17.trans l18)) ({ Files := ([({ Path := (⟨#[120]⟩ : ByteArray), Lines := ([(⟨#[98]⟩ : ByteArray)] : List ByteArray) } : File)] : List File) } : FileTree) v12 h24 S hy5) rfl tc13 rfl rfl ?_; clear F a S
   rintro _ a w ⟨g19, l19, S, rfl⟩ F; replace S : St g19 [[bx b4 #[.i6 y3.2.Code, .i6 y3.2.Index] 25], [bx b3 #[v9] 46], [bx b2 #[.i6 y1.2.Code, .i6 y1.2.Index] 25], [bx b1 #[v3] 42]] fr w := S
   refine wE (ev_pickT rfl hc3 rfl) F S rfl fun a F=>?_
   obtain rfl := sinj hm
   refine wpList_nil (then_n ?_); exact ⟨g19, F.sub ⟨rfl, rfl, trivial⟩, ((l17.trans l18).trans l19), S⟩
  ·refine wl_skip rfl rfl rfl rfl (ne_tf hc3) F rfl rfl ?_; clear F a; intro a F
   refine wl_skip rfl rfl rfl rfl (ne_tf hc3) F rfl rfl ?_; clear F a; intro a F
   refine wl_skip rfl rfl rfl rfl (ne_tf hc3) F rfl rfl ?_; clear F a; intro a F
   refine wl_skip rfl rfl rfl rfl (ne_tf hc3) F rfl rfl ?_; clear F a; intro a F
   refine wl_skip rfl rfl rfl rfl (ne_tf hc3) F rfl rfl ?_; clear F a; intro a F
   refine wl_skip rfl rfl rfl rfl (ne_tf hc3) F rfl rfl ?_; clear F a; intro a F
   refine wE (ev_pickF rfl hc3 rfl) F S rfl fun a F=>?_
   obtain rfl := sinj hm
   refine wpList_nil (then_n ?_); exact ⟨g15, F.sub ⟨rfl, rfl, trivial⟩, (Le.refl _), S⟩
 clear F S; rintro a w ⟨g16, F, l16, S⟩
 refine wE (ev_assign rfl) F S rfl fun a F=>?_
 refine wpList_nil ?_
 refine then_n ?_
 refine wp_ret ?_
 obtain rfl := sinj hm
 refine post_r _ F rfl (ar_cons (resT rfl) ar_nil) ?_
 replace S : St g16 [] fr w := St.tail [] _ S
 exact ⟨_, rfl, g16, (((((((((((((l1.trans l2).trans l3).trans l4).trans l5).trans l6).trans l7).trans l8).trans l9).trans l10).trans l11).trans l12).trans l15).trans l16), S, rfl⟩

theorem sequence_own_ok {g : Gh} {fr : Hl} {w : World} {r : Element_sequence} (o_ : SeqOp) (S : St g [] fr w) (hm : sequence_own o_ = some r) :
  Calls Tryd.prog 15 [.agg #[.bool o_.Delete, .i6 o_.Replica, .i6 o_.Counter, .i6 o_.AfterReplica, .i6 o_.AfterCounter, .string o_.Line]].toArray w (fun en w' => ∃ v, en = .returned v ∧ ∃ (g' : Gh), Le g g' ∧ St g' [] fr w' ∧ .agg #[.i6 r.counter, .i6 r.replica] = v) := by
 unfold sequence_own at hm
 refine calls_enter (fn := Tryd.f15) Tryd.func15 rfl Tryd.ntmps15 (lb rfl) ?_
 intro a F
 replace F : Fr 8 a [(0, .agg #[.bool o_.Delete, .i6 o_.Replica, .i6 o_.Counter, .i6 o_.AfterReplica, .i6 o_.AfterCounter, .string o_.Line])] := F
 refine wp_seq ?_
 refine wp_region_lit ?_
 refine wl_boxC (wn rfl) rfl rfl rfl F S rfl rfl ?_; clear F a S; rintro b1 a w F S
 refine wl_alloc (wn rfl) rfl tz60 (cs := [.i6 0, .i6 0]) rfl F S rfl rfl ?_; clear F a S; rintro b2 a w F S
 refine wpList_nil ?_
 refine then_n ?_
 refine wp_seq ?_
 refine wp_region_lit ?_
 refine wE (ev_fieldAddr' tu30 tf30_2 (z := 0) ts3 rfl ⟨_, rfl⟩ rfl) F S rfl fun a F=>?_
 refine wE (ev_load1 tu3 rfl rfl (box_ptr (cells := [.i6 o_.Counter]) 1 rfl 2 rfl (lb rfl))) F S rfl fun a F=>?_
 refine wE (ev_fieldAddr' tu30 tf30_1 (z := 0) ts3 rfl ⟨_, rfl⟩ rfl) F S rfl fun a F=>?_
 refine wE (ev_load1 tu3 rfl rfl (box_ptr (cells := [.i6 o_.Replica]) 1 rfl 1 rfl (lb rfl))) F S rfl fun a F=>?_
 refine wE (ev_build (parts := [(0, .tmp 4), (1, .tmp 6)]) (vs := [(0, .i6 o_.Counter), (1, .i6 o_.Replica)]) rfl (fun w => tb60_0_1 o_.Counter o_.Replica w)) F S rfl fun a F=>?_
 refine wl_storeC (wn rfl) rfl F S rfl rfl (vs := [.i6 o_.Counter, .i6 o_.Replica]) rfl ts60 (one_cons rfl (one_cons rfl one_nil)) (k := 0) rfl (lb rfl) (c' := #[.i6 o_.Counter, .i6 o_.Replica]) rfl rfl ?_; clear S; intro w S
 refine wpList_nil ?_
 refine then_n ?_
 refine wp_ret ?_
 obtain rfl := sinj hm
 refine post_r _ F rfl (ar_cons (resA rfl tu60 rfl (box_ptr (cells := [.i6 o_.Counter, .i6 o_.Replica]) 0 rfl 0 rfl (lb rfl) w S) ts60) ar_nil) ?_
 replace S : St g [] fr w := St.tail [] _ S
 exact ⟨_, rfl, g, (Le.refl _), S, rfl⟩

theorem sequence_after_ok {g : Gh} {fr : Hl} {w : World} {r : Element_sequence} (o_ : SeqOp) (S : St g [] fr w) (hm : sequence_after o_ = some r) :
  Calls Tryd.prog 16 [.agg #[.bool o_.Delete, .i6 o_.Replica, .i6 o_.Counter, .i6 o_.AfterReplica, .i6 o_.AfterCounter, .string o_.Line]].toArray w (fun en w' => ∃ v, en = .returned v ∧ ∃ (g' : Gh), Le g g' ∧ St g' [] fr w' ∧ .agg #[.i6 r.counter, .i6 r.replica] = v) := by
 unfold sequence_after at hm
 refine calls_enter (fn := Tryd.f16) Tryd.func16 rfl Tryd.ntmps16 (lb rfl) ?_
 intro a F
 replace F : Fr 8 a [(0, .agg #[.bool o_.Delete, .i6 o_.Replica, .i6 o_.Counter, .i6 o_.AfterReplica, .i6 o_.AfterCounter, .string o_.Line])] := F
 refine wp_seq ?_
 refine wp_region_lit ?_
 refine wl_boxC (wn rfl) rfl rfl rfl F S rfl rfl ?_; clear F a S; rintro b1 a w F S
 refine wl_alloc (wn rfl) rfl tz60 (cs := [.i6 0, .i6 0]) rfl F S rfl rfl ?_; clear F a S; rintro b2 a w F S
 refine wpList_nil ?_
 refine then_n ?_
 refine wp_seq ?_
 refine wp_region_lit ?_
 refine wE (ev_fieldAddr' tu30 tf30_4 (z := 0) ts3 rfl ⟨_, rfl⟩ rfl) F S rfl fun a F=>?_
 refine wE (ev_load1 tu3 rfl rfl (box_ptr (cells := [.i6 o_.AfterCounter]) 1 rfl 4 rfl (lb rfl))) F S rfl fun a F=>?_
 refine wE (ev_fieldAddr' tu30 tf30_3 (z := 0) ts3 rfl ⟨_, rfl⟩ rfl) F S rfl fun a F=>?_
 refine wE (ev_load1 tu3 rfl rfl (box_ptr (cells := [.i6 o_.AfterReplica]) 1 rfl 3 rfl (lb rfl))) F S rfl fun a F=>?_
 refine wE (ev_build (parts := [(0, .tmp 4), (1, .tmp 6)]) (vs := [(0, .i6 o_.AfterCounter), (1, .i6 o_.AfterReplica)]) rfl (fun w => tb60_0_1 o_.AfterCounter o_.AfterReplica w)) F S rfl fun a F=>?_
 refine wl_storeC (wn rfl) rfl F S rfl rfl (vs := [.i6 o_.AfterCounter, .i6 o_.AfterReplica]) rfl ts60 (one_cons rfl (one_cons rfl one_nil)) (k := 0) rfl (lb rfl) (c' := #[.i6 o_.AfterCounter, .i6 o_.AfterReplica]) rfl rfl ?_; clear S; intro w S
 refine wpList_nil ?_
 refine then_n ?_
 refine wp_ret ?_
 obtain rfl := sinj hm
 refine post_r _ F rfl (ar_cons (resA rfl tu60 rfl (box_ptr (cells := [.i6 o_.AfterCounter, .i6 o_.AfterReplica]) 0 rfl 0 rfl (lb rfl) w S) ts60) ar_nil) ?_
 replace S : St g [] fr w := St.tail [] _ S
 exact ⟨_, rfl, g, (Le.refl _), S, rfl⟩

theorem cmp_Or_ok {g : Gh} {fr : Hl} {w : World} {r : Int} (vals : (List Int)) (vvals1 : Value) (hvals1 : RepSl g vals vvals1) (S : St g [] fr w) (hm : cmp_Or vals = some r) :
  Calls Tryd.prog 35 [vvals1].toArray w (fun en w' => ∃ v, en = .returned v ∧ ∃ (g' : Gh), Le g g' ∧ St g' [] fr w' ∧ .i6 r = v) := by
 unfold cmp_Or at hm
 refine calls_enter (fn := Tryd.f35) Tryd.func35 rfl Tryd.ntmps35 (lb rfl) ?_
 intro a F
 replace F : Fr 18 a [(0, vvals1)] := F
 refine wp_seq ?_
 refine wp_region_lit ?_
 refine wE (ev_assign rfl) F S rfl fun a F=>?_
 refine wpList_nil ?_
 refine then_n ?_
 refine wp_seq ?_
 refine wp_region_lit ?_
 refine wE (ev_assign rfl) F S rfl fun a F=>?_
 refine wpList_nil ?_
 refine then_n ?_
 refine wp_cut (fun a w => ∃ (g1 : Gh), Fr 18 a [(3, .i6 0)] ∧ Le g g1 ∧ St g1 [] fr w ∧ cmp_Or.j1 = some r) ?_ ?_
 ·refine wp_seq ?_
  refine wp_region_lit ?_
  refine wE (ev_move rfl) F S rfl fun a F=>?_
  refine wE (ev_lenSh hvals1 rfl tu110) F S rfl fun a F=>?_
  refine wE (ev_move rfl) F S rfl fun a F=>?_
  refine wpList_nil ?_
  refine then_n ?_
  refine wp_block ?_
  obtain ⟨r1, hr1, hm⟩ := bind_some hm
  have hmo1 := hm; clear hm
  refine wp_iter (σ := Int) (ρ := Int ⊕ Unit) (m := fun s => cmp_Or.l1 vals s) (I := fun x1 a w => ∃ (g2 : Gh), Fr 18 a [(8, .i6 x1), (7, .i6 (vals.length : Int)), (6, vvals1), (3, .i6 0)] ∧ Le g g2 ∧ St g2 [] fr w) hr1 ?_ ?_
  ·exact ⟨g, F.sub ⟨rfl, rfl, rfl, rfl, trivial⟩, (Le.refl _), S⟩
  ·clear F S; rintro x1 a w x2 ⟨g2, F, l2, S⟩ hx1 hfin1
   have hm : cmp_Or.l1 vals x1 = some x2 := hx1; clear hx1
   unfold cmp_Or.l1 at hm
   refine wp_seq ?_
   refine wp_region_lit ?_
   refine wE (ev_int rfl rfl (bo_lss _ _ _ _)) F S rfl fun a F=>?_
   refine wpList_nil ?_
   refine then_n ?_
   refine wp_seq ?_
   obtain ⟨hc1, hm⟩ | ⟨hc1, hm⟩ := ite_or hm
   ·refine wp_condT F rfl hc1 ?_
    refine wp_skip ?_
    refine then_n ?_
    refine wp_seq ?_
    refine wp_block ?_
    refine wp_seq ?_
    refine wp_region_lit ?_
    obtain ⟨y1, hy1, hm⟩ := bind_some hm
    obtain ⟨cs1, hr2, hp1⟩ := elemS (hvals1.mono l2) hy1
    obtain rfl := rep_int hr2
    refine wE (ev_idxS (hvals1.mono l2) hy1 tu110 ts3 rfl rfl) F S rfl fun a F=>?_
    refine wE (ev_load1 tu3 rfl rfl (ptr_mono (cks := []) (fr := fr) hp1 (Le.refl _))) F S rfl fun a F=>?_
    refine wE (ev_assign rfl) F S rfl fun a F=>?_
    refine wpList_nil ?_
    refine then_n ?_
    refine wp_seq ?_
    refine wp_region_lit ?_
    refine wE (ev_move rfl) F S rfl fun a F=>?_
    refine wE (ev_move rfl) F S rfl fun a F=>?_
    refine wE (ev_int rfl rfl (bo_neq _ _ _ _)) F S rfl fun a F=>?_
    refine wpList_nil ?_
    refine then_n ?_
    obtain ⟨hc2, hm⟩ | ⟨hc2, hm⟩ := ite_or hm
    ·refine wp_condT F rfl hc2 ?_
     refine wp_seq ?_
     refine wp_region_lit ?_
     refine wE (ev_move rfl) F S rfl fun a F=>?_
     refine wE (ev_assign rfl) F S rfl fun a F=>?_
     refine wpList_nil ?_
     refine then_n ?_
     refine wp_ret ?_
     refine inb_r ?_
     refine then_r ?_
     refine then_r ?_
     refine inb_r ?_
     refine then_r ?_
     obtain rfl := sinj hm
     obtain rfl := hfin1 _ rfl
     clear hm
     have hm : (some y1 : Option Int) = some _ := hmo1
     obtain rfl := sinj hm
     refine post_r _ F rfl (ar_cons (resT rfl) ar_nil) ?_
     exact ⟨_, rfl, g2, l2, S, rfl⟩
    ·refine wp_condF F rfl hc2 ?_
     refine wp_skip ?_
     refine inb_n ?_
     refine then_n ?_
     refine wp_region_lit ?_
     obtain ⟨z1, hz1, hm⟩ := bind_some hm
     refine wE (ev_int rfl rfl (bo_add hz1)) F S rfl fun a F=>?_
     refine wE (ev_move rfl) F S rfl fun a F=>?_
     refine wpList_nil ?_
     refine then_n ?_
     obtain rfl := sinj hm
     refine ⟨_, rfl, ?_⟩
     exact ⟨g2, F.sub ⟨rfl, rfl, rfl, rfl, trivial⟩, l2, S⟩
   ·refine wp_condF F rfl hc1 ?_
    refine wp_exit ?_
    refine then_e ?_
    refine then_e ?_
    refine inb_x ?_
    refine then_n ?_
    obtain rfl := sinj hm
    obtain rfl := hfin1 _ rfl
    clear hm
    have hm : (cmp_Or.j1 : Option Int) = some _ := hmo1
    exact ⟨g2, F.sub ⟨rfl, trivial⟩, l2, S, hm⟩
 ·clear F S hm; rintro a w ⟨g1, F, l1, S, hm⟩
  refine wp_seq ?_
  refine wp_region_lit ?_
  refine wE (ev_move rfl) F S rfl fun a F=>?_
  refine wE (ev_assign rfl) F S rfl fun a F=>?_
  refine wpList_nil ?_
  refine then_n ?_
  refine wp_ret ?_
  obtain rfl := sinj hm
  refine post_r _ F rfl (ar_cons (resT rfl) ar_nil) ?_
  exact ⟨_, rfl, g1, l1, S, rfl⟩

theorem cmp_isNaN_ok {g : Gh} {fr : Hl} {w : World} {r : Bool} (x_ : Int) (S : St g [] fr w) (hm : cmp_isNaN x_ = some r) :
  Calls Tryd.prog 60 [.i6 x_].toArray w (fun en w' => ∃ v, en = .returned v ∧ ∃ (g' : Gh), Le g g' ∧ St g' [] fr w' ∧ .bool r = v) := by
 unfold cmp_isNaN at hm
 refine calls_enter (fn := Tryd.f60) Tryd.func60 rfl Tryd.ntmps60 (lb rfl) ?_
 intro a F
 replace F : Fr 6 a [(0, .i6 x_)] := F
 refine wp_seq ?_
 refine wp_region_lit ?_
 refine wE (ev_assign rfl) F S rfl fun a F=>?_
 refine wpList_nil ?_
 refine then_n ?_
 refine wp_seq ?_
 refine wp_region_lit ?_
 refine wE (ev_move rfl) F S rfl fun a F=>?_
 refine wE (ev_move rfl) F S rfl fun a F=>?_
 refine wE (ev_int rfl rfl (bo_neq _ _ _ _)) F S rfl fun a F=>?_
 refine wE (ev_assign rfl) F S rfl fun a F=>?_
 refine wpList_nil ?_
 refine then_n ?_
 refine wp_ret ?_
 obtain rfl := sinj hm
 refine post_r _ F rfl (ar_cons (resT rfl) ar_nil) ?_
 exact ⟨_, rfl, g, (Le.refl _), S, rfl⟩

theorem cmp_Compare_ok {g : Gh} {fr : Hl} {w : World} {r : Int} (x_ : Int) (y : Int) (S : St g [] fr w) (hm : cmp_Compare x_ y = some r) :
  Calls Tryd.prog 36 [.i6 x_, .i6 y].toArray w (fun en w' => ∃ v, en = .returned v ∧ ∃ (g' : Gh), Le g g' ∧ St g' [] fr w' ∧ .i6 r = v) := by
 unfold cmp_Compare at hm
 refine calls_enter (fn := Tryd.f36) Tryd.func36 rfl Tryd.ntmps36 (lb rfl) ?_
 intro a F
 replace F : Fr 20 a [(0, .i6 x_), (1, .i6 y)] := F
 refine wp_seq ?_
 refine wp_region_lit ?_
 refine wE (ev_assign rfl) F S rfl fun a F=>?_
 refine wpList_nil ?_
 refine then_n ?_
 refine wp_seq ?_
 refine wp_region_lit ?_
 refine wE (ev_move rfl) F S rfl fun a F=>?_
 obtain ⟨y1, hy1, hm⟩ := bind_some hm
 refine wl_call0 (wn rfl) rfl F rfl (cmp_isNaN_ok x_ S hy1) rfl tc60 rfl rfl ?_; clear F a S
 rintro _ a w ⟨g1, l1, S, rfl⟩ F; replace S : St g1 [] fr w := S
 refine wE (ev_assign rfl) F S rfl fun a F=>?_
 refine wpList_nil ?_
 refine then_n ?_
 refine wp_seq ?_
 refine wp_region_lit ?_
 refine wE (ev_move rfl) F S rfl fun a F=>?_
 obtain ⟨y2, hy2, hm⟩ := bind_some hm
 refine wl_call0 (wn rfl) rfl F rfl (cmp_isNaN_ok y S hy2) rfl tc60 rfl rfl ?_; clear F a S
 rintro _ a w ⟨g2, l2, S, rfl⟩ F; replace S : St g2 [] fr w := S
 refine wE (ev_assign rfl) F S rfl fun a F=>?_
 refine wpList_nil ?_
 refine then_n ?_
 refine wp_seq ?_
 refine wp_seq ?_
 refine wp_region_lit ?_
 refine wE (ev_move rfl) F S rfl fun a F=>?_
 refine wpList_nil ?_
 refine then_n ?_
 obtain ⟨hc1, hm⟩ | ⟨hc1, hm⟩ := ite_or hm
 ·refine wp_condT F rfl hc1 ?_
  refine wp_seq ?_
  refine wp_seq ?_
  refine wp_region_lit ?_
  refine wE (ev_move rfl) F S rfl fun a F=>?_
  refine wpList_nil ?_
  refine then_n ?_
  obtain ⟨hc2, hm⟩ | ⟨hc2, hm⟩ := ite_or hm
  ·refine wp_condT F rfl hc2 ?_
   refine wp_seq ?_
   refine wp_region_lit ?_
   refine wE (ev_assign rfl) F S rfl fun a F=>?_
   refine wpList_nil ?_
   refine then_n ?_
   refine wp_ret ?_
   refine then_r ?_
   refine then_r ?_
   obtain rfl := sinj hm
   refine post_r _ F rfl (ar_cons (resT rfl) ar_nil) ?_
   exact ⟨_, rfl, g2, (l1.trans l2), S, rfl⟩
  ·refine wp_condF F rfl hc2 ?_
   refine wp_skip ?_
   refine then_n ?_
   refine wp_seq ?_
   refine wp_region_lit ?_
   refine wE (ev_assign rfl) F S rfl fun a F=>?_
   refine wpList_nil ?_
   refine then_n ?_
   refine wp_ret ?_
   refine then_r ?_
   obtain rfl := sinj hm
   refine post_r _ F rfl (ar_cons (resT rfl) ar_nil) ?_
   exact ⟨_, rfl, g2, (l1.trans l2), S, rfl⟩
 ·refine wp_condF F rfl hc1 ?_
  refine wp_skip ?_
  refine then_n ?_
  refine wp_seq ?_
  refine wp_seq ?_
  refine wp_region_lit ?_
  refine wE (ev_move rfl) F S rfl fun a F=>?_
  refine wpList_nil ?_
  refine then_n ?_
  obtain ⟨hc3, hm⟩ | ⟨hc3, hm⟩ := ite_or hm
  ·refine wp_condT F rfl hc3 ?_
   refine wp_seq ?_
   refine wp_region_lit ?_
   refine wE (ev_assign rfl) F S rfl fun a F=>?_
   refine wpList_nil ?_
   refine then_n ?_
   refine wp_ret ?_
   refine then_r ?_
   obtain rfl := sinj hm
   refine post_r _ F rfl (ar_cons (resT rfl) ar_nil) ?_
   exact ⟨_, rfl, g2, (l1.trans l2), S, rfl⟩
  ·refine wp_condF F rfl hc3 ?_
   refine wp_skip ?_
   refine then_n ?_
   refine wp_seq ?_
   refine wp_seq ?_
   refine wp_region_lit ?_
   refine wE (ev_move rfl) F S rfl fun a F=>?_
   refine wE (ev_move rfl) F S rfl fun a F=>?_
   refine wE (ev_int rfl rfl (bo_lss _ _ _ _)) F S rfl fun a F=>?_
   refine wpList_nil ?_
   refine then_n ?_
   obtain ⟨hc4, hm⟩ | ⟨hc4, hm⟩ := ite_or hm
   ·refine wp_condT F rfl hc4 ?_
    refine wp_seq ?_
    refine wp_region_lit ?_
    refine wE (ev_assign rfl) F S rfl fun a F=>?_
    refine wpList_nil ?_
    refine then_n ?_
    refine wp_ret ?_
    refine then_r ?_
    obtain rfl := sinj hm
    refine post_r _ F rfl (ar_cons (resT rfl) ar_nil) ?_
    exact ⟨_, rfl, g2, (l1.trans l2), S, rfl⟩
   ·refine wp_condF F rfl hc4 ?_
    refine wp_skip ?_
    refine then_n ?_
    refine wp_seq ?_
    refine wp_seq ?_
    refine wp_region_lit ?_
    refine wE (ev_move rfl) F S rfl fun a F=>?_
    refine wE (ev_move rfl) F S rfl fun a F=>?_
    refine wE (ev_int rfl rfl (bo_gtr _ _ _ _)) F S rfl fun a F=>?_
    refine wpList_nil ?_
    refine then_n ?_
    obtain ⟨hc5, hm⟩ | ⟨hc5, hm⟩ := ite_or hm
    ·refine wp_condT F rfl hc5 ?_
     refine wp_seq ?_
     refine wp_region_lit ?_
     refine wE (ev_assign rfl) F S rfl fun a F=>?_
     refine wpList_nil ?_
     refine then_n ?_
     refine wp_ret ?_
     refine then_r ?_
     obtain rfl := sinj hm
     refine post_r _ F rfl (ar_cons (resT rfl) ar_nil) ?_
     exact ⟨_, rfl, g2, (l1.trans l2), S, rfl⟩
    ·refine wp_condF F rfl hc5 ?_
     refine wp_skip ?_
     refine then_n ?_
     refine wp_seq ?_
     refine wp_region_lit ?_
     refine wE (ev_assign rfl) F S rfl fun a F=>?_
     refine wpList_nil ?_
     refine then_n ?_
     refine wp_ret ?_
     obtain rfl := sinj hm
     refine post_r _ F rfl (ar_cons (resT rfl) ar_nil) ?_
     exact ⟨_, rfl, g2, (l1.trans l2), S, rfl⟩

theorem sequence_compare_ok {g : Gh} {fr : Hl} {w : World} {r : Int} (a_ : Element_sequence) (b_ : Element_sequence) (S : St g [] fr w) (hm : sequence_compare a_ b_ = some r) :
  Calls Tryd.prog 20 [.agg #[.i6 a_.counter, .i6 a_.replica], .agg #[.i6 b_.counter, .i6 b_.replica]].toArray w (fun en w' => ∃ v, en = .returned v ∧ ∃ (g' : Gh), Le g g' ∧ St g' [] fr w' ∧ .i6 r = v) := by
 unfold sequence_compare at hm
 refine calls_enter (fn := Tryd.f20) Tryd.func20 rfl Tryd.ntmps20 (lb rfl) ?_
 intro a F
 replace F : Fr 17 a [(0, .agg #[.i6 a_.counter, .i6 a_.replica]), (1, .agg #[.i6 b_.counter, .i6 b_.replica])] := F
 refine wp_seq ?_
 refine wp_region_lit ?_
 refine wl_boxC (wn rfl) rfl rfl rfl F S rfl rfl ?_; clear F a S; rintro b1 a w F S
 refine wl_boxC (wn rfl) rfl rfl rfl F S rfl rfl ?_; clear F a S; rintro b2 a w F S
 refine wE (ev_assign rfl) F S rfl fun a F=>?_
 refine wpList_nil ?_
 refine then_n ?_
 refine wp_seq ?_
 refine wp_dv [] mo S ?_; clear S; intro ok1 w S
 refine dv_et ok1 0 rfl (ev_fieldAddr' tu60 tf60_0 (z := 0) ts3 rfl ⟨_, rfl⟩ rfl) F rfl fun a F=>?_
 refine dv_ev ok1 1 rfl (ev_load1 tu3 rfl rfl (box_ptr (cells := [.i6 a_.counter]) 1 rfl 0 rfl (lb rfl))) F S rfl fun a F=>?_
 refine dv_et ok1 2 rfl (ev_fieldAddr' tu60 tf60_0 (z := 0) ts3 rfl ⟨_, rfl⟩ rfl) F rfl fun a F=>?_
 refine dv_ev ok1 3 rfl (ev_load1 tu3 rfl rfl (box_ptr (cells := [.i6 b_.counter]) 0 rfl 0 rfl (lb rfl))) F S rfl fun a F=>?_
 refine dv_et ok1 5 rfl (ev_fieldAddr' tu60 tf60_1 (z := 0) ts3 rfl ⟨_, rfl⟩ rfl) F rfl fun a F=>?_
 refine dv_ev ok1 6 rfl (ev_load1 tu3 rfl rfl (box_ptr (cells := [.i6 a_.replica]) 1 rfl 1 rfl (lb rfl))) F S rfl fun a F=>?_
 refine dv_et ok1 7 rfl (ev_fieldAddr' tu60 tf60_1 (z := 0) ts3 rfl ⟨_, rfl⟩ rfl) F rfl fun a F=>?_
 refine dv_ev ok1 8 rfl (ev_load1 tu3 rfl rfl (box_ptr (cells := [.i6 b_.replica]) 0 rfl 1 rfl (lb rfl))) F S rfl fun a F=>?_
 refine dv_op ok1 4 rfl [(8, .i6 b_.replica), (6, .i6 a_.replica)] ?_
 obtain ⟨y1, hy1, hm⟩ := bind_some hm
 refine wl_call0 (wn rfl) rfl F rfl (cmp_Compare_ok (fr := (fl [[bx b2 #[.i6 b_.counter, .i6 b_.replica] 60], [bx b1 #[.i6 a_.counter, .i6 a_.replica] 60]] fr)) a_.counter b_.counter S hy1) rfl tc36 rfl rfl ?_; clear F a S
 rintro _ a w ⟨g1, l1, S, rfl⟩ F; replace S : St g1 [[bx b2 #[.i6 b_.counter, .i6 b_.replica] 60], [bx b1 #[.i6 a_.counter, .i6 a_.replica] 60]] fr w := S
 refine dv_nx ⟨yl_ev rfl rfl (ev_load1 tu3 rfl rfl (box_ptr (cells := [.i6 b_.replica]) 0 rfl 1 rfl (lb rfl))) F S, yl_ev rfl rfl (ev_load1 tu3 rfl rfl (box_ptr (cells := [.i6 a_.replica]) 1 rfl 1 rfl (lb rfl))) F S, trivial⟩ ?_
 refine dv_op ok1 9 rfl [] ?_
 obtain ⟨y2, hy2, hm⟩ := bind_some hm
 refine wl_call0 (wn rfl) rfl F rfl (cmp_Compare_ok (fr := (fl [[bx b2 #[.i6 b_.counter, .i6 b_.replica] 60], [bx b1 #[.i6 a_.counter, .i6 a_.replica] 60]] fr)) a_.replica b_.replica S hy2) rfl tc36 rfl rfl ?_; clear F a S
 rintro _ a w ⟨g2, l2, S, rfl⟩ F; replace S : St g2 [[bx b2 #[.i6 b_.counter, .i6 b_.replica] 60], [bx b1 #[.i6 a_.counter, .i6 a_.replica] 60]] fr w := S
 refine dv_nx trivial ?_
 refine dv_op ok1 10 rfl [] ?_
 refine wl_lit (l := ([y1, y2] : List Int)) (vs := [.i6 y1, .i6 y2]) (parts := [(0, .tmp 9), (1, .tmp 14)]) (wn rfl) rfl rfl rfl tu110 te3 (sz_cons rfl (sz_cons rfl sz_nil)) rfl (Cat.cons (show Rep.rep _ y1 _ from rfl) (Cat.cons (show Rep.rep _ y2 _ from rfl) (Cat.nil _))) (coa_cons rfl (coa_cons rfl coa_nil)) rfl F S rfl rfl ?_; clear F a S
 rintro v1 c1 a w h1 F S
 refine dv_nx trivial ?_
 refine dv_op ok1 11 rfl [] ?_
 obtain ⟨g3, l3, S, h2⟩ : ∃ gz, Le g2 gz ∧ St gz [[bx b2 #[.i6 b_.counter, .i6 b_.replica] 60], [bx b1 #[.i6 a_.counter, .i6 a_.replica] 60]] fr w ∧ RepSl gz ([y1, y2] : List Int) v1 := ⟨_, Le.add _ _, S.freeze 0 rfl, OwnS.freeze (S.front 0 rfl) h1⟩
 obtain ⟨y3, hy3, hm⟩ := bind_some hm
 refine wl_call0 (wn rfl) rfl F rfl (cmp_Or_ok (fr := (fl [[bx b2 #[.i6 b_.counter, .i6 b_.replica] 60], [bx b1 #[.i6 a_.counter, .i6 a_.replica] 60]] fr)) ([y1, y2] : List Int) v1 h2 S hy3) rfl tc35 rfl rfl ?_; clear F a S
 rintro _ a w ⟨g4, l4, S, rfl⟩ F; replace S : St g4 [[bx b2 #[.i6 b_.counter, .i6 b_.replica] 60], [bx b1 #[.i6 a_.counter, .i6 a_.replica] 60]] fr w := S
 refine dv_nx trivial ?_
 refine dv_et ok1 12 rfl (ev_assign rfl) F rfl fun a F=>?_
 refine dv_fin ok1 ?_
 refine then_n ?_
 refine wp_ret ?_
 obtain rfl := sinj hm
 refine post_r _ F rfl (ar_cons (resT rfl) ar_nil) ?_
 replace S : St g4 [] fr w := St.tail [] _ S
 exact ⟨_, rfl, g4, (((l1.trans l2).trans l3).trans l4), S, rfl⟩

theorem sequence_valid_ok {g : Gh} {fr : Hl} {w : World} {r : Bool} (e_ : Element_sequence) (S : St g [] fr w) (hm : sequence_valid e_ = some r) :
  Calls Tryd.prog 49 [.agg #[.i6 e_.counter, .i6 e_.replica]].toArray w (fun en w' => ∃ v, en = .returned v ∧ ∃ (g' : Gh), Le g g' ∧ St g' [] fr w' ∧ .bool r = v) := by
 unfold sequence_valid at hm
 refine calls_enter (fn := Tryd.f49) Tryd.func49 rfl Tryd.ntmps49 (lb rfl) ?_
 intro a F
 replace F : Fr 21 a [(0, .agg #[.i6 e_.counter, .i6 e_.replica])] := F
 refine wp_seq ?_
 refine wp_region_lit ?_
 refine wl_boxC (wn rfl) rfl rfl rfl F S rfl rfl ?_; clear F a S; rintro b1 a w F S
 refine wE (ev_assign rfl) F S rfl fun a F=>?_
 refine wpList_nil ?_
 refine then_n ?_
 refine wp_seq ?_
 refine wp_region_lit ?_
 refine wE (ev_fieldAddr' tu60 tf60_0 (z := 0) ts3 rfl ⟨_, rfl⟩ rfl) F S rfl fun a F=>?_
 refine wE (ev_load1 tu3 rfl rfl (box_ptr (cells := [.i6 e_.counter]) 0 rfl 0 rfl (lb rfl))) F S rfl fun a F=>?_
 refine wE (ev_int rfl rfl (bo_geq _ _ _ _)) F S rfl fun a F=>?_
 refine wE (ev_move rfl) F S rfl fun a F=>?_
 obtain ⟨x1, hx1, hm⟩ := bind_some hm
 refine wl_cut 4 (fun a w' => w = w' ∧ Fr 21 a [(10, .bool x1), (2, .bool false), (1, bp b1 0)]) ?_ ?_
 ·clear hm; obtain ⟨hc1, hm⟩ | ⟨hc1, hm⟩ := ite_or hx1
  ·refine wl_ev (wg F rfl rfl rfl rfl hc1) (ev_fieldAddr' tu60 tf60_0 (z := 0) ts3 rfl ⟨_, rfl⟩ rfl) F S rfl rfl ?_; clear F a; intro a F
   refine wl_ev (wg F rfl rfl rfl rfl hc1) (ev_load1 tu3 rfl rfl (box_ptr (cells := [.i6 e_.counter]) 0 rfl 0 rfl (lb rfl))) F S rfl rfl ?_; clear F a; intro a F
   refine wl_ev (wg F rfl rfl rfl rfl hc1) (ev_int rfl rfl (bo_leq _ _ _ _)) F S rfl rfl ?_; clear F a; intro a F
   refine wE (ev_pickT rfl hc1 rfl) F S rfl fun a F=>?_
   obtain rfl := sinj hm
   refine wpList_nil (then_n ?_); exact ⟨rfl, F.sub ⟨rfl, rfl, rfl, trivial⟩⟩
  ·refine wl_skip rfl rfl rfl rfl (ne_tf hc1) F rfl rfl ?_; clear F a; intro a F
   refine wl_skip rfl rfl rfl rfl (ne_tf hc1) F rfl rfl ?_; clear F a; intro a F
   refine wl_skip rfl rfl rfl rfl (ne_tf hc1) F rfl rfl ?_; clear F a; intro a F
   refine wE (ev_pickF rfl hc1 rfl) F S rfl fun a F=>?_
   obtain rfl := sinj hm
   refine wpList_nil (then_n ?_); exact ⟨rfl, F.sub ⟨rfl, rfl, rfl, trivial⟩⟩
 clear F; rintro a w' ⟨rfl, F⟩
 refine wE (ev_move rfl) F S rfl fun a F=>?_
 obtain ⟨x2, hx2, hm⟩ := bind_some hm
 refine wl_cut 4 (fun a w' => w = w' ∧ Fr 21 a [(15, .bool x2), (2, .bool false), (1, bp b1 0)]) ?_ ?_
 ·clear hm; obtain ⟨hc2, hm⟩ | ⟨hc2, hm⟩ := ite_or hx2
  ·refine wl_ev (wg F rfl rfl rfl rfl hc2) (ev_fieldAddr' tu60 tf60_1 (z := 0) ts3 rfl ⟨_, rfl⟩ rfl) F S rfl rfl ?_; clear F a; intro a F
   refine wl_ev (wg F rfl rfl rfl rfl hc2) (ev_load1 tu3 rfl rfl (box_ptr (cells := [.i6 e_.replica]) 0 rfl 1 rfl (lb rfl))) F S rfl rfl ?_; clear F a; intro a F
   refine wl_ev (wg F rfl rfl rfl rfl hc2) (ev_int rfl rfl (bo_geq _ _ _ _)) F S rfl rfl ?_; clear F a; intro a F
   refine wE (ev_pickT rfl hc2 rfl) F S rfl fun a F=>?_
   obtain rfl := sinj hm
   refine wpList_nil (then_n ?_); exact ⟨rfl, F.sub ⟨rfl, rfl, rfl, trivial⟩⟩
  ·refine wl_skip rfl rfl rfl rfl (ne_tf hc2) F rfl rfl ?_; clear F a; intro a F
   refine wl_skip rfl rfl rfl rfl (ne_tf hc2) F rfl rfl ?_; clear F a; intro a F
   refine wl_skip rfl rfl rfl rfl (ne_tf hc2) F rfl rfl ?_; clear F a; intro a F
   refine wE (ev_pickF rfl hc2 rfl) F S rfl fun a F=>?_
   obtain rfl := sinj hm
   refine wpList_nil (then_n ?_); exact ⟨rfl, F.sub ⟨rfl, rfl, rfl, trivial⟩⟩
 clear F; rintro a w' ⟨rfl, F⟩
 refine wE (ev_move rfl) F S rfl fun a F=>?_
 obtain ⟨x3, hx3, hm⟩ := bind_some hm
 refine wl_cut 4 (fun a w' => w = w' ∧ Fr 21 a [(20, .bool x3), (2, .bool false)]) ?_ ?_
 ·clear hm; obtain ⟨hc3, hm⟩ | ⟨hc3, hm⟩ := ite_or hx3
  ·refine wl_ev (wg F rfl rfl rfl rfl hc3) (ev_fieldAddr' tu60 tf60_1 (z := 0) ts3 rfl ⟨_, rfl⟩ rfl) F S rfl rfl ?_; clear F a; intro a F
   refine wl_ev (wg F rfl rfl rfl rfl hc3) (ev_load1 tu3 rfl rfl (box_ptr (cells := [.i6 e_.replica]) 0 rfl 1 rfl (lb rfl))) F S rfl rfl ?_; clear F a; intro a F
   refine wl_ev (wg F rfl rfl rfl rfl hc3) (ev_int rfl rfl (bo_lss _ _ _ _)) F S rfl rfl ?_; clear F a; intro a F
   refine wE (ev_pickT rfl hc3 rfl) F S rfl fun a F=>?_
   obtain rfl := sinj hm
   refine wpList_nil (then_n ?_); exact ⟨rfl, F.sub ⟨rfl, rfl, trivial⟩⟩
  ·refine wl_skip rfl rfl rfl rfl (ne_tf hc3) F rfl rfl ?_; clear F a; intro a F
   refine wl_skip rfl rfl rfl rfl (ne_tf hc3) F rfl rfl ?_; clear F a; intro a F
   refine wl_skip rfl rfl rfl rfl (ne_tf hc3) F rfl rfl ?_; clear F a; intro a F
   refine wE (ev_pickF rfl hc3 rfl) F S rfl fun a F=>?_
   obtain rfl := sinj hm
   refine wpList_nil (then_n ?_); exact ⟨rfl, F.sub ⟨rfl, rfl, trivial⟩⟩
 clear F; rintro a w' ⟨rfl, F⟩
 refine wE (ev_assign rfl) F S rfl fun a F=>?_
 refine wpList_nil ?_
 refine then_n ?_
 refine wp_ret ?_
 obtain rfl := sinj hm
 refine post_r _ F rfl (ar_cons (resT rfl) ar_nil) ?_
 replace S : St g [] fr w := St.tail [] _ S
 exact ⟨_, rfl, g, (Le.refl _), S, rfl⟩

theorem sequence_check_ok {g : Gh} {fr : Hl} {w : World} {r : Int} (o_ : SeqOp) (S : St g [] fr w) (hm : sequence_check o_ = some r) :
  Calls Tryd.prog 32 [.agg #[.bool o_.Delete, .i6 o_.Replica, .i6 o_.Counter, .i6 o_.AfterReplica, .i6 o_.AfterCounter, .string o_.Line]].toArray w (fun en w' => ∃ v, en = .returned v ∧ ∃ (g' : Gh), Le g g' ∧ St g' [] fr w' ∧ .i6 r = v) := by
 unfold sequence_check at hm
 refine calls_enter (fn := Tryd.f32) Tryd.func32 rfl Tryd.ntmps32 (lb rfl) ?_
 intro a F
 replace F : Fr 56 a [(0, .agg #[.bool o_.Delete, .i6 o_.Replica, .i6 o_.Counter, .i6 o_.AfterReplica, .i6 o_.AfterCounter, .string o_.Line])] := F
 refine wp_seq ?_
 refine wp_region_lit ?_
 refine wl_boxC (wn rfl) rfl rfl rfl F S rfl rfl ?_; clear F a S; rintro b1 a w F S
 refine wE (ev_assign rfl) F S rfl fun a F=>?_
 refine wpList_nil ?_
 refine then_n ?_
 refine wp_seq ?_
 refine wp_region_lit ?_
 refine wE (ev_loadA tu30 rfl (cs := [.bool o_.Delete, .i6 o_.Replica, .i6 o_.Counter, .i6 o_.AfterReplica, .i6 o_.AfterCounter, .string o_.Line]) ts30 rfl (box_ptr (cells := [.bool o_.Delete, .i6 o_.Replica, .i6 o_.Counter, .i6 o_.AfterReplica, .i6 o_.AfterCounter, .string o_.Line]) 0 rfl 0 rfl (lb rfl))) F S rfl fun a F=>?_
 obtain ⟨y1, hy1, hm⟩ := bind_some hm
 refine wl_call0 (wn rfl) rfl F rfl (sequence_after_ok (fr := (fl [[bx b1 #[.bool o_.Delete, .i6 o_.Replica, .i6 o_.Counter, .i6 o_.AfterReplica, .i6 o_.AfterCounter, .string o_.Line] 30]] fr)) o_ S hy1) rfl tc16 rfl rfl ?_; clear F a S
 rintro _ a w ⟨g1, l1, S, rfl⟩ F; replace S : St g1 [[bx b1 #[.bool o_.Delete, .i6 o_.Replica, .i6 o_.Counter, .i6 o_.AfterReplica, .i6 o_.AfterCounter, .string o_.Line] 30]] fr w := S
 refine wE (ev_build (parts := []) (vs := []) rfl (fun w => tb60_  w)) F S rfl fun a F=>?_
 refine wE (ev_eqS tu60 tqa60 tqb60 tqc60 (xs := [.i6 y1.counter, .i6 y1.replica]) (ys := [.i6 0, .i6 0]) rfl rfl ⟨_, _, rfl, by decide, ⟨_, _, rfl, rfl, leaf_int tu3⟩, ⟨_, _, rfl, by decide, ⟨_, _, rfl, rfl, leaf_int tu3⟩, rfl⟩⟩) F S rfl fun a F=>?_
 refine wE (ev_assign rfl) F S rfl fun a F=>?_
 refine wpList_nil ?_
 refine then_n ?_
 refine wp_seq ?_
 refine wp_block ?_
 refine wp_seq ?_
 refine wp_region_lit ?_
 refine wE (ev_loadA tu30 rfl (cs := [.bool o_.Delete, .i6 o_.Replica, .i6 o_.Counter, .i6 o_.AfterReplica, .i6 o_.AfterCounter, .string o_.Line]) ts30 rfl (box_ptr (cells := [.bool o_.Delete, .i6 o_.Replica, .i6 o_.Counter, .i6 o_.AfterReplica, .i6 o_.AfterCounter, .string o_.Line]) 0 rfl 0 rfl (lb rfl))) F S rfl fun a F=>?_
 obtain ⟨y2, hy2, hm⟩ := bind_some hm
 refine wl_call0 (wn rfl) rfl F rfl (sequence_own_ok (fr := (fl [[bx b1 #[.bool o_.Delete, .i6 o_.Replica, .i6 o_.Counter, .i6 o_.AfterReplica, .i6 o_.AfterCounter, .string o_.Line] 30]] fr)) o_ S hy2) rfl tc15 rfl rfl ?_; clear F a S
 rintro _ a w ⟨g2, l2, S, rfl⟩ F; replace S : St g2 [[bx b1 #[.bool o_.Delete, .i6 o_.Replica, .i6 o_.Counter, .i6 o_.AfterReplica, .i6 o_.AfterCounter, .string o_.Line] 30]] fr w := S
 obtain ⟨y3, hy3, hm⟩ := bind_some hm
 refine wl_call0 (wn rfl) rfl F rfl (sequence_valid_ok (fr := (fl [[bx b1 #[.bool o_.Delete, .i6 o_.Replica, .i6 o_.Counter, .i6 o_.AfterReplica, .i6 o_.AfterCounter, .string o_.Line] 30]] fr)) y2 S hy3) rfl tc49 rfl rfl ?_; clear F a S
 rintro _ a w ⟨g3, l3, S, rfl⟩ F; replace S : St g3 [[bx b1 #[.bool o_.Delete, .i6 o_.Replica, .i6 o_.Counter, .i6 o_.AfterReplica, .i6 o_.AfterCounter, .string o_.Line] 30]] fr w := S
 refine wE (ev_not rfl) F S rfl fun a F=>?_
 refine wE (ev_assign rfl) F S rfl fun a F=>?_
 refine wpList_nil ?_
 refine then_n ?_
 obtain ⟨hc1, hm⟩ | ⟨hc1, hm⟩ := ite_or hm
 ·refine wp_condT F rfl hc1 ?_
  refine wp_seq ?_
  refine wp_region_lit ?_
  refine wE (ev_assign rfl) F S rfl fun a F=>?_
  refine wpList_nil ?_
  refine then_n ?_
  refine wp_ret ?_
  refine inb_r ?_
  refine then_r ?_
  obtain rfl := sinj hm
  refine post_r _ F rfl (ar_cons (resT rfl) ar_nil) ?_
  replace S : St g3 [] fr w := St.tail [] _ S
  exact ⟨_, rfl, g3, ((l1.trans l2).trans l3), S, rfl⟩
 ·refine wp_condF F rfl hc1 ?_
  refine wp_seq ?_
  refine wp_region_lit ?_
  refine wE (ev_fieldAddr' tu30 tf30_0 (z := 0) ts4 rfl ⟨_, rfl⟩ rfl) F S rfl fun a F=>?_
  refine wE (ev_load1 tu4 rfl rfl (box_ptr (cells := [.bool o_.Delete]) 0 rfl 0 rfl (lb rfl))) F S rfl fun a F=>?_
  refine wE (ev_move rfl) F S rfl fun a F=>?_
  obtain ⟨x1, hx1, hm⟩ := bind_some hm
  refine wl_cut 8 (fun a w' => w = w' ∧ Fr 56 a [(24, .bool x1), (3, .bool (decide (y1.counter = 0) && decide (y1.replica = 0))), (1, bp b1 0)]) ?_ ?_
  ·clear hm; obtain ⟨hc2, hm⟩ | ⟨hc2, hm⟩ := ite_or hx1
   ·refine wl_ev (wg F rfl rfl rfl rfl hc2) (ev_move rfl) F S rfl rfl ?_; clear F a; intro a F
    refine wl_ev (wg F rfl rfl rfl rfl hc2) (ev_not rfl) F S rfl rfl ?_; clear F a; intro a F
    refine wl_ev (wg F rfl rfl rfl rfl hc2) (ev_move rfl) F S rfl rfl ?_; clear F a; intro a F
    obtain ⟨x2, hx2, hm⟩ := bind_some hm
    refine wl_cut 4 (fun a w' => w = w' ∧ Fr 56 a [(23, .bool x2), (16, .bool o_.Delete), (3, .bool (decide (y1.counter = 0) && decide (y1.replica = 0))), (1, bp b1 0)]) ?_ ?_
    ·clear hm; obtain ⟨hc3, hm⟩ | ⟨hc3, hm⟩ := ite_or hx2
     ·refine wl_skip rfl rfl rfl rfl (ne_ft hc3) F rfl rfl ?_; clear F a; intro a F
      refine wl_skip rfl rfl rfl rfl (ne_ft hc3) F rfl rfl ?_; clear F a; intro a F
      refine wl_skip rfl rfl rfl rfl (ne_ft hc3) F rfl rfl ?_; clear F a; intro a F
      refine wl_ev (wg F rfl rfl rfl rfl hc2) (ev_pickT rfl hc3 rfl) F S rfl rfl ?_; clear F a; intro a F
      obtain rfl := sinj hm
      refine wpList_nil (then_n ?_); exact ⟨rfl, F.sub ⟨rfl, rfl, rfl, rfl, trivial⟩⟩
     ·refine wl_ev (wg F rfl rfl rfl rfl hc3) (ev_fieldAddr' tu30 tf30_5 (z := 0) ts9 rfl ⟨_, rfl⟩ rfl) F S rfl rfl ?_; clear F a; intro a F
      refine wl_ev (wg F rfl rfl rfl rfl hc3) (ev_load1 tu9 rfl rfl (box_ptr (cells := [.string o_.Line]) 0 rfl 5 rfl (lb rfl))) F S rfl rfl ?_; clear F a; intro a F
      refine wl_ev (wg F rfl rfl rfl rfl hc3) (ev_str rfl rfl (bs_neq _ _ _)) F S rfl rfl ?_; clear F a; intro a F
      refine wl_ev (wg F rfl rfl rfl rfl hc2) (ev_pickF rfl hc3 rfl) F S rfl rfl ?_; clear F a; intro a F
      obtain rfl := sinj hm
      refine wpList_nil (then_n ?_); exact ⟨rfl, F.sub ⟨rfl, rfl, rfl, rfl, trivial⟩⟩
    clear F; rintro a w' ⟨rfl, F⟩
    refine wE (ev_pickT rfl hc2 rfl) F S rfl fun a F=>?_
    obtain rfl := sinj hm
    refine wpList_nil (then_n ?_); exact ⟨rfl, F.sub ⟨rfl, rfl, rfl, trivial⟩⟩
   ·refine wl_skip rfl rfl rfl rfl (ne_tf hc2) F rfl rfl ?_; clear F a; intro a F
    refine wl_skip rfl rfl rfl rfl (ne_tf hc2) F rfl rfl ?_; clear F a; intro a F
    refine wl_skip rfl rfl rfl rfl (ne_tf hc2) F rfl rfl ?_; clear F a; intro a F
    refine wl_skipu rfl rfl rfl rfl F rfl rfl ?_; clear F a; intro a F
    refine wl_skipu rfl rfl rfl rfl F rfl rfl ?_; clear F a; intro a F
    refine wl_skipu rfl rfl rfl rfl F rfl rfl ?_; clear F a; intro a F
    refine wl_skip rfl rfl rfl rfl (ne_tf hc2) F rfl rfl ?_; clear F a; intro a F
    refine wE (ev_pickF rfl hc2 rfl) F S rfl fun a F=>?_
    obtain rfl := sinj hm
    refine wpList_nil (then_n ?_); exact ⟨rfl, F.sub ⟨rfl, rfl, rfl, trivial⟩⟩
  clear F; rintro a w' ⟨rfl, F⟩
  refine wE (ev_assign rfl) F S rfl fun a F=>?_
  refine wpList_nil ?_
  refine then_n ?_
  obtain ⟨hc4, hm⟩ | ⟨hc4, hm⟩ := ite_or hm
  ·refine wp_condT F rfl hc4 ?_
   refine wp_seq ?_
   refine wp_region_lit ?_
   refine wE (ev_assign rfl) F S rfl fun a F=>?_
   refine wpList_nil ?_
   refine then_n ?_
   refine wp_ret ?_
   refine inb_r ?_
   refine then_r ?_
   obtain rfl := sinj hm
   refine post_r _ F rfl (ar_cons (resT rfl) ar_nil) ?_
   replace S : St g3 [] fr w := St.tail [] _ S
   exact ⟨_, rfl, g3, ((l1.trans l2).trans l3), S, rfl⟩
  ·refine wp_condF F rfl hc4 ?_
   refine wp_seq ?_
   refine wp_region_lit ?_
   refine wE (ev_fieldAddr' tu30 tf30_0 (z := 0) ts4 rfl ⟨_, rfl⟩ rfl) F S rfl fun a F=>?_
   refine wE (ev_load1 tu4 rfl rfl (box_ptr (cells := [.bool o_.Delete]) 0 rfl 0 rfl (lb rfl))) F S rfl fun a F=>?_
   refine wE (ev_not rfl) F S rfl fun a F=>?_
   refine wE (ev_move rfl) F S rfl fun a F=>?_
   obtain ⟨x3, hx3, hm⟩ := bind_some hm
   refine wl_cut 3 (fun a w' => w = w' ∧ Fr 56 a [(32, .bool x3), (1, bp b1 0)]) ?_ ?_
   ·clear hm; obtain ⟨hc5, hm⟩ | ⟨hc5, hm⟩ := ite_or hx3
    ·refine wl_ev (wg F rfl rfl rfl rfl hc5) (ev_move rfl) F S rfl rfl ?_; clear F a; intro a F
     refine wl_ev (wg F rfl rfl rfl rfl hc5) (ev_not rfl) F S rfl rfl ?_; clear F a; intro a F
     refine wE (ev_pickT rfl hc5 rfl) F S rfl fun a F=>?_
     obtain rfl := sinj hm
     refine wpList_nil (then_n ?_); exact ⟨rfl, F.sub ⟨rfl, rfl, trivial⟩⟩
    ·refine wl_skip rfl rfl rfl rfl (ne_tf hc5) F rfl rfl ?_; clear F a; intro a F
     refine wl_skip rfl rfl rfl rfl (ne_tf hc5) F rfl rfl ?_; clear F a; intro a F
     refine wE (ev_pickF rfl hc5 rfl) F S rfl fun a F=>?_
     obtain rfl := sinj hm
     refine wpList_nil (then_n ?_); exact ⟨rfl, F.sub ⟨rfl, rfl, trivial⟩⟩
   clear F; rintro a w' ⟨rfl, F⟩
   refine wE (ev_move rfl) F S rfl fun a F=>?_
   obtain ⟨x4, hx4, hm⟩ := bind_some hm
   refine wl_cut 5 (fun a w => ∃ g4, Fr 56 a [(38, .bool x4), (1, bp b1 0)] ∧ Le g3 g4 ∧ St g4 [[bx b1 #[.bool o_.Delete, .i6 o_.Replica, .i6 o_.Counter, .i6 o_.AfterReplica, .i6 o_.AfterCounter, .string o_.Line] 30]] fr w) ?_ ?_
   ·clear hm; obtain ⟨hc6, hm⟩ | ⟨hc6, hm⟩ := ite_or hx4
    ·refine wl_ev (wg F rfl rfl rfl rfl hc6) (ev_loadA tu30 rfl (cs := [.bool o_.Delete, .i6 o_.Replica, .i6 o_.Counter, .i6 o_.AfterReplica, .i6 o_.AfterCounter, .string o_.Line]) ts30 rfl (box_ptr (cells := [.bool o_.Delete, .i6 o_.Replica, .i6 o_.Counter, .i6 o_.AfterReplica, .i6 o_.AfterCounter, .string o_.Line]) 0 rfl 0 rfl (lb rfl))) F S rfl rfl ?_; clear F a; intro a F
     obtain ⟨y4, hy4, hm⟩ := bind_some hm
     refine wl_call0 (wg F rfl rfl rfl rfl hc6) rfl F rfl (sequence_after_ok (fr := (fl [[bx b1 #[.bool o_.Delete, .i6 o_.Replica, .i6 o_.Counter, .i6 o_.AfterReplica, .i6 o_.AfterCounter, .string o_.Line] 30]] fr)) o_ S hy4) rfl tc16 rfl rfl ?_; clear F a S
     rintro _ a w ⟨g5, l5, S, rfl⟩ F; replace S : St g5 [[bx b1 #[.bool o_.Delete, .i6 o_.Replica, .i6 o_.Counter, .i6 o_.AfterReplica, .i6 o_.AfterCounter, .string o_.Line] 30]] fr w := S
     obtain ⟨y5, hy5, hm⟩ := bind_some hm
     refine wl_call0 (wg F rfl rfl rfl rfl hc6) rfl F rfl (sequence_valid_ok (fr := (fl [[bx b1 #[.bool o_.Delete, .i6 o_.Replica, .i6 o_.Counter, .i6 o_.AfterReplica, .i6 o_.AfterCounter, .string o_.Line] 30]] fr)) y4 S hy5) rfl tc49 rfl rfl ?_; clear F a S
     rintro _ a w ⟨g6, l6, S, rfl⟩ F; replace S : St g6 [[bx b1 #[.bool o_.Delete, .i6 o_.Replica, .i6 o_.Counter, .i6 o_.AfterReplica, .i6 o_.AfterCounter, .string o_.Line] 30]] fr w := S
     refine wl_ev (wg F rfl rfl rfl rfl hc6) (ev_not rfl) F S rfl rfl ?_; clear F a; intro a F
     refine wE (ev_pickT rfl hc6 rfl) F S rfl fun a F=>?_
     obtain rfl := sinj hm
     refine wpList_nil (then_n ?_); exact ⟨g6, F.sub ⟨rfl, rfl, trivial⟩, (l5.trans l6), S⟩
    ·refine wl_skip rfl rfl rfl rfl (ne_tf hc6) F rfl rfl ?_; clear F a; intro a F
     refine wl_skip rfl rfl rfl rfl (ne_tf hc6) F rfl rfl ?_; clear F a; intro a F
     refine wl_skip rfl rfl rfl rfl (ne_tf hc6) F rfl rfl ?_; clear F a; intro a F
     refine wl_skip rfl rfl rfl rfl (ne_tf hc6) F rfl rfl ?_; clear F a; intro a F
     refine wE (ev_pickF rfl hc6 rfl) F S rfl fun a F=>?_
     obtain rfl := sinj hm
     refine wpList_nil (then_n ?_); exact ⟨g3, F.sub ⟨rfl, rfl, trivial⟩, (Le.refl _), S⟩
   clear F S; rintro a w ⟨g4, F, l4, S⟩
   refine wE (ev_assign rfl) F S rfl fun a F=>?_
   refine wpList_nil ?_
   refine then_n ?_
   obtain ⟨hc7, hm⟩ | ⟨hc7, hm⟩ := ite_or hm
   ·refine wp_condT F rfl hc7 ?_
    refine wp_seq ?_
    refine wp_region_lit ?_
    refine wE (ev_assign rfl) F S rfl fun a F=>?_
    refine wpList_nil ?_
    refine then_n ?_
    refine wp_ret ?_
    refine inb_r ?_
    refine then_r ?_
    obtain rfl := sinj hm
    refine post_r _ F rfl (ar_cons (resT rfl) ar_nil) ?_
    replace S : St g4 [] fr w := St.tail [] _ S
    exact ⟨_, rfl, g4, (((l1.trans l2).trans l3).trans l4), S, rfl⟩
   ·refine wp_condF F rfl hc7 ?_
    refine wp_seq ?_
    refine wp_quiet mo (by kernel_rfl) S ?_
    refine wq_ev (wn rfl) (ev_fieldAddr' tu30 tf30_0 (z := 0) ts4 rfl ⟨_, rfl⟩ rfl) F rfl rfl ?_; clear F a; intro a F
    refine wq_ev (wn rfl) (ev_load1 tu4 rfl rfl (box_ptr (cells := [.bool o_.Delete]) 0 rfl 0 rfl (lb rfl))) F rfl rfl ?_; clear F a; intro a F
    refine wq_ev (wn rfl) (ev_not rfl) F rfl rfl ?_; clear F a; intro a F
    refine wq_ev (wn rfl) (ev_move rfl) F rfl rfl ?_; clear F a; intro a F
    obtain ⟨x5, hx5, hm⟩ := bind_some hm
    refine wq_cut 7 (fun a => Fr 56 a [(50, .bool x5), (1, bp b1 0)]) ?_ ?_
    ·clear hm; obtain ⟨hc8, hm⟩ | ⟨hc8, hm⟩ := ite_or hx5
     ·refine wq_ev (wg F rfl rfl rfl rfl hc8) (ev_loadA tu30 rfl (cs := [.bool o_.Delete, .i6 o_.Replica, .i6 o_.Counter, .i6 o_.AfterReplica, .i6 o_.AfterCounter, .string o_.Line]) ts30 rfl (box_ptr (cells := [.bool o_.Delete, .i6 o_.Replica, .i6 o_.Counter, .i6 o_.AfterReplica, .i6 o_.AfterCounter, .string o_.Line]) 0 rfl 0 rfl (lb rfl))) F rfl rfl ?_; clear F a; intro a F
      obtain ⟨y6, hy6, hm⟩ := bind_some hm
      refine wq_call (wg F rfl rfl rfl rfl hc8) rfl (xs := [.tmp 44]) (vs := [.agg #[.bool o_.Delete, .i6 o_.Replica, .i6 o_.Counter, .i6 o_.AfterReplica, .i6 o_.AfterCounter, .string o_.Line]]) (cap := []) F rfl rfl tc16 (v := .agg #[.i6 y6.counter, .i6 y6.replica]) (fun w S => (sequence_after_ok (g := g4) (fr := (fl [[bx b1 #[.bool o_.Delete, .i6 o_.Replica, .i6 o_.Counter, .i6 o_.AfterReplica, .i6 o_.AfterCounter, .string o_.Line] 30]] fr)) (w := w) o_ S hy6).mono (by rintro en w' ⟨_, rfl, g2, l2, S2, rfl⟩; exact ⟨rfl, S2.weak l2⟩)) rfl rfl ?_; clear F a; intro a F
      refine wq_ev (wg F rfl rfl rfl rfl hc8) (ev_loadA tu30 rfl (cs := [.bool o_.Delete, .i6 o_.Replica, .i6 o_.Counter, .i6 o_.AfterReplica, .i6 o_.AfterCounter, .string o_.Line]) ts30 rfl (box_ptr (cells := [.bool o_.Delete, .i6 o_.Replica, .i6 o_.Counter, .i6 o_.AfterReplica, .i6 o_.AfterCounter, .string o_.Line]) 0 rfl 0 rfl (lb rfl))) F rfl rfl ?_; clear F a; intro a F
      obtain ⟨y7, hy7, hm⟩ := bind_some hm
      refine wq_call (wg F rfl rfl rfl rfl hc8) rfl (xs := [.tmp 46]) (vs := [.agg #[.bool o_.Delete, .i6 o_.Replica, .i6 o_.Counter, .i6 o_.AfterReplica, .i6 o_.AfterCounter, .string o_.Line]]) (cap := []) F rfl rfl tc15 (v := .agg #[.i6 y7.counter, .i6 y7.replica]) (fun w S => (sequence_own_ok (g := g4) (fr := (fl [[bx b1 #[.bool o_.Delete, .i6 o_.Replica, .i6 o_.Counter, .i6 o_.AfterReplica, .i6 o_.AfterCounter, .string o_.Line] 30]] fr)) (w := w) o_ S hy7).mono (by rintro en w' ⟨_, rfl, g2, l2, S2, rfl⟩; exact ⟨rfl, S2.weak l2⟩)) rfl rfl ?_; clear F a; intro a F
      obtain ⟨y8, hy8, hm⟩ := bind_some hm
      refine wq_call (wg F rfl rfl rfl rfl hc8) rfl (xs := [.tmp 45, .tmp 47]) (vs := [.agg #[.i6 y6.counter, .i6 y6.replica], .agg #[.i6 y7.counter, .i6 y7.replica]]) (cap := []) F rfl rfl tc20 (v := .i6 y8) (fun w S => (sequence_compare_ok (g := g4) (fr := (fl [[bx b1 #[.bool o_.Delete, .i6 o_.Replica, .i6 o_.Counter, .i6 o_.AfterReplica, .i6 o_.AfterCounter, .string o_.Line] 30]] fr)) (w := w) y6 y7 S hy8).mono (by rintro en w' ⟨_, rfl, g2, l2, S2, rfl⟩; exact ⟨rfl, S2.weak l2⟩)) rfl rfl ?_; clear F a; intro a F
      refine wq_ev (wg F rfl rfl rfl rfl hc8) (ev_int rfl rfl (bo_geq _ _ _ _)) F rfl rfl ?_; clear F a; intro a F
      refine wq_ev (wn rfl) (ev_pickT rfl hc8 rfl) F rfl rfl ?_; clear F a; intro a F
      obtain rfl := sinj hm
      refine wq_nil ?_; exact F.sub ⟨rfl, rfl, trivial⟩
     ·refine wq_skip rfl rfl rfl rfl (ne_tf hc8) F rfl rfl ?_; clear F a; intro a F
      refine wq_skip rfl rfl rfl rfl (ne_tf hc8) F rfl rfl ?_; clear F a; intro a F
      refine wq_skip rfl rfl rfl rfl (ne_tf hc8) F rfl rfl ?_; clear F a; intro a F
      refine wq_skip rfl rfl rfl rfl (ne_tf hc8) F rfl rfl ?_; clear F a; intro a F
      refine wq_skip rfl rfl rfl rfl (ne_tf hc8) F rfl rfl ?_; clear F a; intro a F
      refine wq_skip rfl rfl rfl rfl (ne_tf hc8) F rfl rfl ?_; clear F a; intro a F
      refine wq_ev (wn rfl) (ev_pickF rfl hc8 rfl) F rfl rfl ?_; clear F a; intro a F
      obtain rfl := sinj hm
      refine wq_nil ?_; exact F.sub ⟨rfl, rfl, trivial⟩
    clear F; intro a F
    refine wq_ev (wn rfl) (ev_assign rfl) F rfl rfl ?_; clear F a; intro a F
    refine wq_nil ?_; clear S; intro w S
    refine then_n ?_
    obtain ⟨hc9, hm⟩ | ⟨hc9, hm⟩ := ite_or hm
    ·refine wp_condT F rfl hc9 ?_
     refine wp_seq ?_
     refine wp_region_lit ?_
     refine wE (ev_assign rfl) F S rfl fun a F=>?_
     refine wpList_nil ?_
     refine then_n ?_
     refine wp_ret ?_
     refine inb_r ?_
     refine then_r ?_
     obtain rfl := sinj hm
     refine post_r _ F rfl (ar_cons (resT rfl) ar_nil) ?_
     replace S : St g4 [] fr w := St.tail [] _ S
     exact ⟨_, rfl, g4, (((l1.trans l2).trans l3).trans l4), S, rfl⟩
    ·refine wp_condF F rfl hc9 ?_
     refine wp_skip ?_
     refine inb_n ?_
     refine then_n ?_
     refine wp_seq ?_
     refine wp_region_lit ?_
     refine wE (ev_fieldAddr' tu30 tf30_5 (z := 0) ts9 rfl ⟨_, rfl⟩ rfl) F S rfl fun a F=>?_
     refine wE (ev_load1 tu9 rfl rfl (box_ptr (cells := [.string o_.Line]) 0 rfl 5 rfl (lb rfl))) F S rfl fun a F=>?_
     refine wl_lit (l := ([o_.Line] : List ByteArray)) (vs := [.string o_.Line]) (parts := [(0, .tmp 52)]) (wn rfl) rfl rfl rfl tu22 te9 (sz_cons rfl sz_nil) rfl (Cat.cons (show Rep.rep _ o_.Line _ from rfl) (Cat.nil _)) (coa_cons rfl coa_nil) rfl F S rfl rfl ?_; clear F a S
     rintro v1 c1 a w h1 F S
     obtain ⟨g10, l10, S, h2⟩ : ∃ gz, Le g4 gz ∧ St gz [[bx b1 #[.bool o_.Delete, .i6 o_.Replica, .i6 o_.Counter, .i6 o_.AfterReplica, .i6 o_.AfterCounter, .string o_.Line] 30]] fr w ∧ RepSl gz ([o_.Line] : List ByteArray) v1 := ⟨_, Le.add _ _, S.freeze 0 rfl, OwnS.freeze (S.front 0 rfl) h1⟩
     obtain ⟨y9, hy9, hm⟩ := bind_some hm
     refine wl_call0 (wn rfl) rfl F rfl (lines_Validate_ok (fr := (fl [[bx b1 #[.bool o_.Delete, .i6 o_.Replica, .i6 o_.Counter, .i6 o_.AfterReplica, .i6 o_.AfterCounter, .string o_.Line] 30]] fr)) ([o_.Line] : List ByteArray) v1 h2 S hy9) rfl tc4 rfl rfl ?_; clear F a S
     rintro _ a w ⟨g11, l11, S, rfl⟩ F; replace S : St g11 [[bx b1 #[.bool o_.Delete, .i6 o_.Replica, .i6 o_.Counter, .i6 o_.AfterReplica, .i6 o_.AfterCounter, .string o_.Line] 30]] fr w := S
     refine wE (ev_field1 tu25 tf25_0 tu3 rfl (cs := [.i6 y9.Code, .i6 y9.Index]) rfl rfl) F S rfl fun a F=>?_
     refine wE (ev_assign rfl) F S rfl fun a F=>?_
     refine wpList_nil ?_
     refine then_n ?_
     refine wp_ret ?_
     obtain rfl := sinj hm
     refine post_r _ F rfl (ar_cons (resT rfl) ar_nil) ?_
     replace S : St g11 [] fr w := St.tail [] _ S
     exact ⟨_, rfl, g11, (((((l1.trans l2).trans l3).trans l4).trans l10).trans l11), S, rfl⟩
end Go.Dc
