/- Walks: each function comes to what its model says. -/
import Derived.Test.YtjmigclbilnajaaDoorDcTab
import Derived.Test.YtjmigclbilnajaaDoorDcM
import Derived.Test.YtjmigclbilnajaaDoorDcW16
import Derived.Test.YtjmigclbilnajaaDoorDcW17
import Derived.Test.YtjmigclbilnajaaDoorDcW18
import Derived.Test.YtjmigclbilnajaaDoorDcW20
import Derived.Test.YtjmigclbilnajaaDoorDcW3
namespace Go.Dc
open Go Go.Proofs
set_option maxRecDepth 100000
set_option maxHeartbeats 4000000
set_option linter.unusedVariables false
theorem treepatch_Diff_ok {g : Gh} {fr : Hl} {w : World} {r : TreePatch × Fault} (old_ : FileTree) (vold_1 : Value) (hold_1 : RepSl g old_.Files vold_1) (newer : FileTree) (vnewer1 : Value) (hnewer1 : RepSl g newer.Files vnewer1) (S : St g [] fr w) (hm : treepatch_Diff old_ newer = some r) :
  Calls Tryd.prog 29 [.agg #[vold_1], .agg #[vnewer1]].toArray w (fun en w' => ∃ v, en = .returned v ∧ ∃ (g' : Gh) (v1 : Value) (c1 : Hl), Le g g' ∧ St g' [c1] fr w' ∧ OwnS g' r.1.Changes v1 c1 ∧ .tuple #[.agg #[v1], .agg #[.i6 r.2.Code, .i6 r.2.Index]] = v) := by
 unfold treepatch_Diff at hm
 refine calls_enter (fn := Tryd.f29) Tryd.func29 rfl Tryd.ntmps29 (lb rfl) ?_
 intro a F
 replace F : Fr 126 a [(0, .agg #[vold_1]), (1, .agg #[vnewer1])] := F
 refine wp_seq ?_
 refine wp_region_lit ?_
 refine wl_boxC (wn rfl) rfl rfl rfl F S rfl rfl ?_; clear F a S; rintro b1 a w F S
 refine wl_boxC (wn rfl) rfl rfl rfl F S rfl rfl ?_; clear F a S; rintro b2 a w F S
 refine wl_alloc (wn rfl) rfl tz41 (cs := [nilS]) rfl F S rfl rfl ?_; clear F a S; rintro b3 a w F S
 refine wl_alloc (wn rfl) rfl tz29 (cs := [.i6 0, .i6 0]) rfl F S rfl rfl ?_; clear F a S; rintro b4 a w F S
 refine wpList_nil ?_
 refine then_n ?_
 refine wp_seq ?_
 refine wp_seq ?_
 refine wp_region_lit ?_
 refine wE (ev_loadA tu44 rfl (cs := [vold_1]) ts44 rfl (box_ptr (cells := [vold_1]) 3 rfl 0 rfl (lb rfl))) F S rfl fun a F=>?_
 obtain ⟨y1, hy1, hm⟩ := bind_some hm
 refine wl_call0 (wn rfl) rfl F rfl (treepatch_Validate_ok (fr := (fl [[bx b4 #[.i6 0, .i6 0] 29], [bx b3 #[nilS] 41], [bx b2 #[vnewer1] 44], [bx b1 #[vold_1] 44]] fr)) old_ vold_1 hold_1 S hy1) rfl tc22 rfl rfl ?_; clear F a S
 rintro _ a w ⟨g1, l1, S, rfl⟩ F; replace S : St g1 [[bx b4 #[.i6 0, .i6 0] 29], [bx b3 #[nilS] 41], [bx b2 #[vnewer1] 44], [bx b1 #[vold_1] 44]] fr w := S
 refine wl_alloc (wn rfl) rfl tz29 (cs := [.i6 0, .i6 0]) rfl F S rfl rfl ?_; clear F a S; rintro b5 a w F S
 refine wl_storeC (wn rfl) rfl F S rfl rfl (vs := [.i6 y1.Code, .i6 y1.Index]) rfl ts29 (one_cons rfl (one_cons rfl one_nil)) (k := 0) rfl (lb rfl) (c' := #[.i6 y1.Code, .i6 y1.Index]) rfl rfl ?_; clear S; intro w S
 refine wpList_nil ?_
 refine then_n ?_
 refine wp_seq ?_
 refine wp_region_lit ?_
 refine wE (ev_loadA tu29 rfl (cs := [.i6 y1.Code, .i6 y1.Index]) ts29 rfl (box_ptr (cells := [.i6 y1.Code, .i6 y1.Index]) 0 rfl 0 rfl (lb rfl))) F S rfl fun a F=>?_
 refine wE (ev_build (parts := []) (vs := []) rfl (fun w => tb29_  w)) F S rfl fun a F=>?_
 refine wE (ev_neS tu29 tqa29 tqb29 tqc29 (xs := [.i6 y1.Code, .i6 y1.Index]) (ys := [.i6 0, .i6 0]) rfl rfl ⟨_, _, rfl, by decide, ⟨_, _, rfl, rfl, leaf_int tu3⟩, ⟨_, _, rfl, by decide, ⟨_, _, rfl, rfl, leaf_int tu3⟩, rfl⟩⟩) F S rfl fun a F=>?_
 refine wpList_nil ?_
 refine then_n ?_
 obtain ⟨hc1, hm⟩ | ⟨hc1, hm⟩ := ite_or hm
 ·refine wp_condT F rfl hc1 ?_
  refine wp_seq ?_
  refine wp_dv [] mo S ?_; clear S; intro ok1 w S
  refine dv_et ok1 0 rfl (ev_build (parts := []) (vs := []) rfl (fun w => tb41_  w)) F rfl fun a F=>?_
  refine dv_ev ok1 1 rfl (ev_loadA tu29 rfl (cs := [.i6 y1.Code, .i6 y1.Index]) ts29 rfl (box_ptr (cells := [.i6 y1.Code, .i6 y1.Index]) 0 rfl 0 rfl (lb rfl))) F S rfl fun a F=>?_
  refine dv_op ok1 2 rfl [(1, .agg #[.i6 y1.Code, .i6 y1.Index])] ?_
  refine wl_storeC (wn rfl) rfl F S rfl rfl (vs := [nilS]) rfl ts41 (one_cons rfl one_nil) (k := 2) rfl (lb rfl) (c' := #[nilS]) rfl rfl ?_; clear S; intro w S
  refine dv_nx ⟨yl_ev rfl rfl (ev_loadA tu29 rfl (cs := [.i6 y1.Code, .i6 y1.Index]) ts29 rfl (box_ptr (cells := [.i6 y1.Code, .i6 y1.Index]) 0 rfl 0 rfl (lb rfl))) F S, trivial⟩ ?_
  refine dv_op ok1 3 rfl [] ?_
  refine wl_storeC (wn rfl) rfl F S rfl rfl (vs := [.i6 y1.Code, .i6 y1.Index]) rfl ts29 (one_cons rfl (one_cons rfl one_nil)) (k := 1) rfl (lb rfl) (c' := #[.i6 y1.Code, .i6 y1.Index]) rfl rfl ?_; clear S; intro w S
  refine dv_nx trivial ?_
  refine dv_fin ok1 ?_
  refine then_n ?_
  refine wp_ret ?_
  refine then_r ?_
  obtain rfl := sinj hm
  replace S : St g1 [[], [bx b5 #[.i6 y1.Code, .i6 y1.Index] 29], [bx b4 #[.i6 y1.Code, .i6 y1.Index] 29], [bx b3 #[nilS] 41], [bx b2 #[vnewer1] 44], [bx b1 #[vold_1] 44]] fr w := S
  refine post_r _ F rfl (ar_cons (resA rfl tu41 rfl (box_ptr (cells := [nilS]) 3 rfl 0 rfl (lb rfl) w S) ts41) (ar_cons (resA rfl tu29 rfl (box_ptr (cells := [.i6 y1.Code, .i6 y1.Index]) 2 rfl 0 rfl (lb rfl) w S) ts29) ar_nil)) ?_
  replace S : St g1 [[]] fr w := St.tail [[]] _ (S.frontC 0 rfl)
  exact ⟨_, rfl, g1, (nilS), [], l1, S, (OwnS.nil _), rfl⟩
 ·refine wp_condF F rfl hc1 ?_
  refine wp_skip ?_
  refine then_n ?_
  refine wp_seq ?_
  refine wp_seq ?_
  refine wp_region_lit ?_
  refine wE (ev_loadA tu44 rfl (cs := [vnewer1]) ts44 rfl (box_ptr (cells := [vnewer1]) 3 rfl 0 rfl (lb rfl))) F S rfl fun a F=>?_
  obtain ⟨y2, hy2, hm⟩ := bind_some hm
  refine wl_call0 (wn rfl) rfl F rfl (treepatch_Second_ok (fr := (fl [[bx b5 #[.i6 y1.Code, .i6 y1.Index] 29], [bx b4 #[.i6 0, .i6 0] 29], [bx b3 #[nilS] 41], [bx b2 #[vnewer1] 44], [bx b1 #[vold_1] 44]] fr)) newer vnewer1 (hnewer1.mono l1) (-2) S hy2) rfl tc47 rfl rfl ?_; clear F a S
  rintro _ a w ⟨g2, l2, S, rfl⟩ F; replace S : St g2 [[bx b5 #[.i6 y1.Code, .i6 y1.Index] 29], [bx b4 #[.i6 0, .i6 0] 29], [bx b3 #[nilS] 41], [bx b2 #[vnewer1] 44], [bx b1 #[vold_1] 44]] fr w := S
  refine wl_alloc (wn rfl) rfl tz29 (cs := [.i6 0, .i6 0]) rfl F S rfl rfl ?_; clear F a S; rintro b6 a w F S
  refine wl_storeC (wn rfl) rfl F S rfl rfl (vs := [.i6 y2.Code, .i6 y2.Index]) rfl ts29 (one_cons rfl (one_cons rfl one_nil)) (k := 0) rfl (lb rfl) (c' := #[.i6 y2.Code, .i6 y2.Index]) rfl rfl ?_; clear S; intro w S
  refine wpList_nil ?_
  refine then_n ?_
  refine wp_seq ?_
  refine wp_region_lit ?_
  refine wE (ev_loadA tu29 rfl (cs := [.i6 y2.Code, .i6 y2.Index]) ts29 rfl (box_ptr (cells := [.i6 y2.Code, .i6 y2.Index]) 0 rfl 0 rfl (lb rfl))) F S rfl fun a F=>?_
  refine wE (ev_build (parts := []) (vs := []) rfl (fun w => tb29_  w)) F S rfl fun a F=>?_
  refine wE (ev_neS tu29 tqa29 tqb29 tqc29 (xs := [.i6 y2.Code, .i6 y2.Index]) (ys := [.i6 0, .i6 0]) rfl rfl ⟨_, _, rfl, by decide, ⟨_, _, rfl, rfl, leaf_int tu3⟩, ⟨_, _, rfl, by decide, ⟨_, _, rfl, rfl, leaf_int tu3⟩, rfl⟩⟩) F S rfl fun a F=>?_
  refine wpList_nil ?_
  refine then_n ?_
  obtain ⟨hc2, hm⟩ | ⟨hc2, hm⟩ := ite_or hm
  ·refine wp_condT F rfl hc2 ?_
   refine wp_seq ?_
   refine wp_dv [] mo S ?_; clear S; intro ok2 w S
   refine dv_et ok2 0 rfl (ev_build (parts := []) (vs := []) rfl (fun w => tb41_  w)) F rfl fun a F=>?_
   refine dv_ev ok2 1 rfl (ev_loadA tu29 rfl (cs := [.i6 y2.Code, .i6 y2.Index]) ts29 rfl (box_ptr (cells := [.i6 y2.Code, .i6 y2.Index]) 0 rfl 0 rfl (lb rfl))) F S rfl fun a F=>?_
   refine dv_op ok2 2 rfl [(1, .agg #[.i6 y2.Code, .i6 y2.Index])] ?_
   refine wl_storeC (wn rfl) rfl F S rfl rfl (vs := [nilS]) rfl ts41 (one_cons rfl one_nil) (k := 3) rfl (lb rfl) (c' := #[nilS]) rfl rfl ?_; clear S; intro w S
   refine dv_nx ⟨yl_ev rfl rfl (ev_loadA tu29 rfl (cs := [.i6 y2.Code, .i6 y2.Index]) ts29 rfl (box_ptr (cells := [.i6 y2.Code, .i6 y2.Index]) 0 rfl 0 rfl (lb rfl))) F S, trivial⟩ ?_
   refine dv_op ok2 3 rfl [] ?_
   refine wl_storeC (wn rfl) rfl F S rfl rfl (vs := [.i6 y2.Code, .i6 y2.Index]) rfl ts29 (one_cons rfl (one_cons rfl one_nil)) (k := 2) rfl (lb rfl) (c' := #[.i6 y2.Code, .i6 y2.Index]) rfl rfl ?_; clear S; intro w S
   refine dv_nx trivial ?_
   refine dv_fin ok2 ?_
   refine then_n ?_
   refine wp_ret ?_
   refine then_r ?_
   obtain rfl := sinj hm
   replace S : St g2 [[], [bx b6 #[.i6 y2.Code, .i6 y2.Index] 29], [bx b5 #[.i6 y1.Code, .i6 y1.Index] 29], [bx b4 #[.i6 y2.Code, .i6 y2.Index] 29], [bx b3 #[nilS] 41], [bx b2 #[vnewer1] 44], [bx b1 #[vold_1] 44]] fr w := S
   refine post_r _ F rfl (ar_cons (resA rfl tu41 rfl (box_ptr (cells := [nilS]) 4 rfl 0 rfl (lb rfl) w S) ts41) (ar_cons (resA rfl tu29 rfl (box_ptr (cells := [.i6 y2.Code, .i6 y2.Index]) 3 rfl 0 rfl (lb rfl) w S) ts29) ar_nil)) ?_
   replace S : St g2 [[]] fr w := St.tail [[]] _ (S.frontC 0 rfl)
   exact ⟨_, rfl, g2, (nilS), [], (l1.trans l2), S, (OwnS.nil _), rfl⟩
  ·refine wp_condF F rfl hc2 ?_
   refine wp_skip ?_
   refine then_n ?_
   refine wp_seq ?_
   refine wp_region_lit ?_
   refine wE (ev_assign rfl) F S rfl fun a F=>?_
   refine wE (ev_assign rfl) F S rfl fun a F=>?_
   refine wE (ev_assign rfl) F S rfl fun a F=>?_
   refine wpList_nil ?_
   refine then_n ?_
   refine wp_cut (fun a w => ∃ (x1 : List TreeChange) (x2 : List TreeChange) (v1 v2 : Value) (c1 c2 : Hl) (g3 : Gh), Fr 126 a [(10, nilS), (9, v1), (8, v2), (5, bp b4 0), (4, bp b3 0), (3, bp b2 0), (2, bp b1 0)] ∧ Le g2 g3 ∧ St g3 [c1, c2, [bx b4 #[.i6 0, .i6 0] 29], [bx b3 #[nilS] 41], [bx b2 #[vnewer1] 44], [bx b1 #[vold_1] 44]] fr w ∧ OwnS g3 x1 v1 c1 ∧ OwnS g3 x2 v2 c2 ∧ treepatch_Diff.j1 old_ newer x1 x2 = some r) ?_ ?_
   ·refine wp_seq ?_
    refine wp_region_lit ?_
    refine wE (ev_fieldAddr' tu44 tf44_0 (z := 0) ts42 rfl ⟨_, rfl⟩ rfl) F S rfl fun a F=>?_
    refine wE (ev_load1 tu42 rfl rfl (box_ptr (cells := [vold_1]) 5 rfl 0 rfl (lb rfl))) F S rfl fun a F=>?_
    refine wE (ev_lenSh hold_1 rfl tu42) F S rfl fun a F=>?_
    refine wE (ev_move rfl) F S rfl fun a F=>?_
    refine wpList_nil ?_
    refine then_n ?_
    refine wp_block ?_
    obtain ⟨r2, hr4, hm⟩ := bind_some hm
    have hmo2 := hm; clear hm
    refine wp_iter (σ := Int × (List TreeChange) × (List TreeChange)) (ρ := (List TreeChange) × (List TreeChange)) (m := fun s => treepatch_Diff.l2 old_ newer s.1 s.2.1 s.2.2) (I := fun s a w => match s with | (x8, x9, x10) => ∃ (v12 v13 : Value) (c11 c12 : Hl) (g15 : Gh), Fr 126 a [(39, .i6 x8), (38, .i6 (old_.Files.length : Int)), (37, vold_1), (10, nilS), (9, v12), (8, v13), (5, bp b4 0), (4, bp b3 0), (3, bp b2 0), (2, bp b1 0)] ∧ Le g2 g15 ∧ St g15 [c11, c12, [bx b4 #[.i6 0, .i6 0] 29], [bx b3 #[nilS] 41], [bx b2 #[vnewer1] 44], [bx b1 #[vold_1] 44]] fr w ∧ OwnS g15 x9 v12 c11 ∧ OwnS g15 x10 v13 c12) hr4 ?_ ?_
    ·dsimp only
     replace S : St g2 [[], [bx b6 #[.i6 y2.Code, .i6 y2.Index] 29], [bx b5 #[.i6 y1.Code, .i6 y1.Index] 29], [bx b4 #[.i6 0, .i6 0] 29], [bx b3 #[nilS] 41], [bx b2 #[vnewer1] 44], [bx b1 #[vold_1] 44]] fr w := S
     replace S : St g2 [[], [], [bx b6 #[.i6 y2.Code, .i6 y2.Index] 29], [bx b5 #[.i6 y1.Code, .i6 y1.Index] 29], [bx b4 #[.i6 0, .i6 0] 29], [bx b3 #[nilS] 41], [bx b2 #[vnewer1] 44], [bx b1 #[vold_1] 44]] fr w := S
     replace S : St g2 [[], [], [bx b4 #[.i6 0, .i6 0] 29], [bx b3 #[nilS] 41], [bx b2 #[vnewer1] 44], [bx b1 #[vold_1] 44]] fr w := St.tail [[], [], [bx b4 #[.i6 0, .i6 0] 29], [bx b3 #[nilS] 41], [bx b2 #[vnewer1] 44], [bx b1 #[vold_1] 44]] _ ((((((S.frontC 7 rfl).frontC 7 rfl).frontC 7 rfl).frontC 7 rfl).frontC 4 rfl).frontC 6 rfl)
     exact ⟨(nilS), (nilS), [], [], g2, F.sub ⟨rfl, rfl, rfl, rfl, rfl, rfl, rfl, rfl, rfl, rfl, trivial⟩, (Le.refl _), S, (OwnS.nil _), (OwnS.nil _)⟩
    ·clear F S; rintro ⟨x8, x9, x10⟩ a w x11 ⟨v12, v13, c11, c12, g15, F, l15, S, h17, h18⟩ hx2 hfin2
     have hm : treepatch_Diff.l2 old_ newer x8 x9 x10 = some x11 := hx2; clear hx2
     unfold treepatch_Diff.l2 at hm
     refine wp_seq ?_
     refine wp_region_lit ?_
     refine wE (ev_int rfl rfl (bo_lss _ _ _ _)) F S rfl fun a F=>?_
     refine wpList_nil ?_
     refine then_n ?_
     refine wp_seq ?_
     obtain ⟨hc6, hm⟩ | ⟨hc6, hm⟩ := ite_or hm
     ·refine wp_condT F rfl hc6 ?_
      refine wp_skip ?_
      refine then_n ?_
      refine wp_cut (fun a w => ∃ (x12 : List TreeChange) (x13 : List TreeChange) (v14 v15 : Value) (c13 c14 : Hl) (g16 : Gh), Fr 126 a [(8, v14), (39, .i6 x8), (38, .i6 (old_.Files.length : Int)), (37, vold_1), (10, nilS), (9, v15), (5, bp b4 0), (4, bp b3 0), (3, bp b2 0), (2, bp b1 0)] ∧ Le g15 g16 ∧ St g16 [c13, c14, [bx b4 #[.i6 0, .i6 0] 29], [bx b3 #[nilS] 41], [bx b2 #[vnewer1] 44], [bx b1 #[vold_1] 44]] fr w ∧ OwnS g16 x12 v14 c13 ∧ OwnS g16 x13 v15 c14 ∧ treepatch_Diff.j4 x8 x12 x13 = some x11) ?_ ?_
      ·refine wp_block ?_
       refine wp_seq ?_
       refine wp_region_lit ?_
       obtain ⟨y8, hy8, hm⟩ := bind_some hm
       obtain ⟨cs3, hr5, hp2⟩ := elemS (hold_1.mono ((l1.trans l2).trans l15)) hy8
       obtain ⟨v16, rfl, h21⟩ := rep_File hr5
       refine wE (ev_idxS (hold_1.mono ((l1.trans l2).trans l15)) hy8 tu42 ts88 rfl rfl) F S rfl fun a F=>?_
       refine wE (ev_loadA tu88 rfl (cs := [.string y8.Path, v16]) ts88 rfl (ptr_mono (cks := [c11, c12, [bx b4 #[.i6 0, .i6 0] 29], [bx b3 #[nilS] 41], [bx b2 #[vnewer1] 44], [bx b1 #[vold_1] 44]]) (fr := fr) hp2 (Le.refl _))) F S rfl fun a F=>?_
       refine wl_alloc (wn rfl) rfl tz88 (cs := [.string ByteArray.empty, nilS]) rfl F S rfl rfl ?_; clear F a S; rintro b8 a w F S
       refine wl_storeC (wn rfl) rfl F S rfl rfl (vs := [.string y8.Path, v16]) rfl ts88 (one_cons rfl (one_cons h21.one one_nil)) (k := 0) rfl (lb rfl) (c' := #[.string y8.Path, v16]) rfl rfl ?_; clear S; intro w S
       refine wpList_nil ?_
       refine then_n ?_
       refine wp_seq ?_
       refine wp_region_lit ?_
       refine wE (ev_fieldAddr' tu44 tf44_0 (z := 0) ts42 rfl ⟨_, rfl⟩ rfl) F S rfl fun a F=>?_
       refine wE (ev_load1 tu42 rfl rfl (box_ptr (cells := [vnewer1]) 5 rfl 0 rfl (lb rfl))) F S rfl fun a F=>?_
       refine wE (ev_fieldAddr' tu88 tf88_0 (z := 0) ts9 rfl ⟨_, rfl⟩ rfl) F S rfl fun a F=>?_
       refine wE (ev_load1 tu9 rfl rfl (box_ptr (cells := [.string y8.Path]) 0 rfl 0 rfl (lb rfl))) F S rfl fun a F=>?_
       obtain ⟨y9, hy9, hm⟩ := bind_some hm
       refine wl_call0 (wn rfl) rfl F rfl (treepatch_Find_ok (fr := (fl [[bx b8 #[.string y8.Path, v16] 88], c11, c12, [bx b4 #[.i6 0, .i6 0] 29], [bx b3 #[nilS] 41], [bx b2 #[vnewer1] 44], [bx b1 #[vold_1] 44]] fr)) newer.Files vnewer1 (hnewer1.mono ((l1.trans l2).trans l15)) y8.Path S hy9) rfl tc62 rfl rfl ?_; clear F a S
       rintro _ a w ⟨g17, l17, S, rfl⟩ F; replace S : St g17 [[bx b8 #[.string y8.Path, v16] 88], c11, c12, [bx b4 #[.i6 0, .i6 0] 29], [bx b3 #[nilS] 41], [bx b2 #[vnewer1] 44], [bx b1 #[vold_1] 44]] fr w := S
       refine wE (ev_move rfl) F S rfl fun a F=>?_
       refine wE (ev_extract rfl rfl) F S rfl fun a F=>?_
       refine wE (ev_extract rfl rfl) F S rfl fun a F=>?_
       refine wE (ev_assign rfl) F S rfl fun a F=>?_
       refine wE (ev_assign rfl) F S rfl fun a F=>?_
       refine wpList_nil ?_
       refine then_n ?_
       refine wp_seq ?_
       refine wp_region_lit ?_
       refine wE (ev_move rfl) F S rfl fun a F=>?_
       refine wE (ev_not rfl) F S rfl fun a F=>?_
       refine wpList_nil ?_
       refine then_n ?_
       obtain ⟨hc7, hm⟩ | ⟨hc7, hm⟩ := ite_or hm
       ·refine wp_condT F rfl hc7 ?_
        refine wp_dv [9] mo S ?_; clear S; intro ok4 w S
        refine dv_et ok4 0 rfl (ev_move rfl) F rfl fun a F=>?_
        refine dv_et ok4 1 rfl (ev_fieldAddr' tu88 tf88_0 (z := 0) ts9 rfl ⟨_, rfl⟩ rfl) F rfl fun a F=>?_
        refine dv_ev ok4 2 rfl (ev_load1 tu9 rfl rfl (box_ptr (cells := [.string y8.Path]) 0 rfl 0 rfl (lb rfl))) F S rfl fun a F=>?_
        refine dv_et ok4 3 rfl (ev_fieldAddr' tu88 tf88_1 (z := 0) ts22 rfl ⟨_, rfl⟩ rfl) F rfl fun a F=>?_
        refine dv_ev ok4 4 rfl (ev_load1 tu22 rfl rfl (box_ptr (cells := [v16]) 0 rfl 1 rfl (lb rfl))) F S rfl fun a F=>?_
        refine dv_op ok4 5 rfl [(2, .string y8.Path)] ?_
        obtain ⟨y10, hy10, hm⟩ := bind_some hm
        refine wl_call0 (wn rfl) rfl F rfl (slices_Clone_ok (fr := (fl [[bx b8 #[.string y8.Path, v16] 88], c11, c12, [bx b4 #[.i6 0, .i6 0] 29], [bx b3 #[nilS] 41], [bx b2 #[vnewer1] 44], [bx b1 #[vold_1] 44]] fr)) y8.Lines v16 (h21.mono l17) S hy10) rfl tc63 rfl rfl ?_; clear F a S
        rintro _ a w ⟨g18, v17, c15, l18, S, h22, rfl⟩ F; replace S : St g18 [c15, [bx b8 #[.string y8.Path, v16] 88], c11, c12, [bx b4 #[.i6 0, .i6 0] 29], [bx b3 #[nilS] 41], [bx b2 #[vnewer1] 44], [bx b1 #[vold_1] 44]] fr w := S
        refine dv_nx ⟨yl_ev rfl rfl (ev_load1 tu9 rfl rfl (box_ptr (cells := [.string y8.Path]) 1 rfl 0 rfl (lb rfl))) F S, trivial⟩ ?_
        refine dv_et ok4 6 rfl (ev_build (parts := [(0, .const (.i6 2)), (1, .tmp 55), (3, .tmp 58)]) (vs := [(0, .i6 2), (1, .string y8.Path), (3, v17)]) rfl (fun w => tb27_0_1_3 2 y8.Path v17 (OwnS.isSl h22) w)) F rfl fun a F=>?_
        refine dv_op ok4 7 rfl [] ?_
        obtain ⟨g19, l19, S, h23⟩ : ∃ gz, Le g18 gz ∧ St gz [[bx b8 #[.string y8.Path, v16] 88], c11, c12, [bx b4 #[.i6 0, .i6 0] 29], [bx b3 #[nilS] 41], [bx b2 #[vnewer1] 44], [bx b1 #[vold_1] 44]] fr w ∧ RepSl gz y10 v17 := ⟨_, Le.add _ _, S.freeze 0 rfl, OwnS.freeze (S.front 0 rfl) h22⟩
        refine wl_lit (l := ([({ Kind := 2, Path := y8.Path, To := ByteArray.empty, Lines := y10, Patch := ({ Hunks := [] } : Patch) } : TreeChange)] : List TreeChange)) (vs := [.agg #[.i6 2, .string y8.Path, .string ByteArray.empty, v17, nilS]]) (parts := [(0, .tmp 59)]) (wn rfl) rfl rfl rfl tu39 te27 (sz_cons rfl sz_nil) rfl (Cat.cons (rep_TreeChange_mk (x := ({ Kind := 2, Path := y8.Path, To := ByteArray.empty, Lines := y10, Patch := ({ Hunks := [] } : Patch) } : TreeChange)) h23 (RepSl.nil _)) (Cat.nil _)) (coa_cons rfl coa_nil) rfl F S rfl rfl ?_; clear F a S
        rintro v18 c16 a w h24 F S
        refine dv_nx trivial ?_
        refine dv_op ok4 8 rfl [] ?_
        obtain ⟨cs4, hk2, hr6⟩ := OwnS.reads h24
        obtain ⟨y11, hy11, hm⟩ := bind_some hm
        refine wl_append (wn rfl) rfl tu39 tu39 te27 (by decide) (by decide) F S rfl rfl (k := 3) rfl (h18.mono ((l17.trans l18).trans l19)) hk2 rfl (hr6 _ _ _ 0 rfl S) hy11 rfl rfl ?_; clear F a S
        rintro v19 c17 a w h25 S F; replace S : St g19 [c16, [bx b8 #[.string y8.Path, v16] 88], c11, c17, [bx b4 #[.i6 0, .i6 0] 29], [bx b3 #[nilS] 41], [bx b2 #[vnewer1] 44], [bx b1 #[vold_1] 44]] fr w := S
        refine dv_nx trivial ?_
        refine dv_op ok4 9 rfl [] ?_
        refine wE (ev_assign rfl) F S rfl fun a F=>?_
        refine dv_nx trivial ?_
        refine dv_fin ok4 ?_
        refine inb_n ?_
        refine then_n ?_
        replace S : St g19 [c17, c11, [bx b4 #[.i6 0, .i6 0] 29], [bx b3 #[nilS] 41], [bx b2 #[vnewer1] 44], [bx b1 #[vold_1] 44]] fr w := St.tail [c17, c11, [bx b4 #[.i6 0, .i6 0] 29], [bx b3 #[nilS] 41], [bx b2 #[vnewer1] 44], [bx b1 #[vold_1] 44]] _ ((((((S.frontC 7 rfl).frontC 7 rfl).frontC 7 rfl).frontC 7 rfl).frontC 6 rfl).frontC 8 rfl)
        exact ⟨y11, x9, v19, v12, c17, c11, g19, F.sub ⟨rfl, rfl, rfl, rfl, rfl, rfl, rfl, rfl, rfl, rfl, trivial⟩, ((l17.trans l18).trans l19), S, h25, (h17.mono ((l17.trans l18).trans l19)), hm⟩
       ·refine wp_condF F rfl hc7 ?_
        refine wp_seq ?_
        refine wp_dv [] mo S ?_; clear S; intro ok5 w S
        refine dv_et ok5 0 rfl (ev_fieldAddr' tu88 tf88_1 (z := 0) ts22 rfl ⟨_, rfl⟩ rfl) F rfl fun a F=>?_
        refine dv_ev ok5 1 rfl (ev_load1 tu22 rfl rfl (box_ptr (cells := [v16]) 0 rfl 1 rfl (lb rfl))) F S rfl fun a F=>?_
        refine dv_et ok5 2 rfl (ev_fieldAddr' tu44 tf44_0 (z := 0) ts42 rfl ⟨_, rfl⟩ rfl) F rfl fun a F=>?_
        refine dv_ev ok5 3 rfl (ev_load1 tu42 rfl rfl (box_ptr (cells := [vnewer1]) 5 rfl 0 rfl (lb rfl))) F S rfl fun a F=>?_
        refine dv_et ok5 4 rfl (ev_move rfl) F rfl fun a F=>?_
        obtain ⟨y12, hy12, hm⟩ := bind_some hm
        obtain ⟨cs5, hr7, hp3⟩ := elemS (hnewer1.mono (((l1.trans l2).trans l15).trans l17)) hy12
        obtain ⟨v20, rfl, h26⟩ := rep_File hr7
        refine dv_et ok5 5 rfl (ev_idxS (hnewer1.mono (((l1.trans l2).trans l15).trans l17)) hy12 tu42 ts88 rfl rfl) F rfl fun a F=>?_
        have hp4 := PtrC.field hp3 1 1 (lb rfl)
        have hp4 : PtrC g17 (addP (elemP vnewer1 y9.1 2) 1) [v20] := hp4
        refine dv_et ok5 6 rfl (ev_fieldAddr' tu88 tf88_1 (z := 0) ts22 rfl hp3.ptr rfl) F rfl fun a F=>?_
        refine dv_ev ok5 7 rfl (ev_load1 tu22 rfl rfl (ptr_mono (cks := [[bx b8 #[.string y8.Path, v16] 88], c11, c12, [bx b4 #[.i6 0, .i6 0] 29], [bx b3 #[nilS] 41], [bx b2 #[vnewer1] 44], [bx b1 #[vold_1] 44]]) (fr := fr) hp4 (Le.refl _))) F S rfl fun a F=>?_
        obtain ⟨y13, hy13, hm⟩ := bind_some hm
        refine dv_cut [0, 1, 2, 3, 4, 5, 6, 7, 8, 9, 10, 11, 12, 13] [] (fun a w => ∃ (v22 : Value) (b11 b12 : Nat) (g21 : Gh), Fr 126 a [(16, bp b11 0), (15, bp b12 0), (73, .agg #[.i6 y13.2.Code, .i6 y13.2.Index]), (72, .agg #[v22]), (12, bp b8 0), (39, .i6 x8), (38, .i6 (old_.Files.length : Int)), (37, vold_1), (10, nilS), (9, v12), (8, v13), (5, bp b4 0), (4, bp b3 0), (3, bp b2 0), (2, bp b1 0)] ∧ Le g17 g21 ∧ St g21 [[bx b11 #[.i6 0, .i6 0] 29], [bx b12 #[nilS] 25], [bx b8 #[.string y8.Path, v16] 88], c11, c12, [bx b4 #[.i6 0, .i6 0] 29], [bx b3 #[nilS] 41], [bx b2 #[vnewer1] 44], [bx b1 #[vold_1] 44]] fr w ∧ RepSl g21 y13.1.Hunks v22 ∧ treepatch_Diff.j5 x8 x9 x10 y8 y13 = some x11) ?_ ?_
        ·intro HJ
         refine dv_fork ok5 8 [12, 13] (fk 8 rfl [] ?_ (fk 12 rfl [(7, v20), (3, vnewer1), (1, v16)] ?_ (fk 13 rfl [(7, v20), (3, vnewer1), (1, v16)] ?_ trivial)))
         ·refine wl_call0 (wn rfl) rfl F rfl (diff_Script_ok (fr := (fl [[bx b8 #[.string y8.Path, v16] 88], c11, c12, [bx b4 #[.i6 0, .i6 0] 29], [bx b3 #[nilS] 41], [bx b2 #[vnewer1] 44], [bx b1 #[vold_1] 44]] fr)) y8.Lines v16 (h21.mono l17) y12.Lines v20 h26 S hy13) rfl tc64 rfl rfl ?_; clear F a S
          rintro _ a w ⟨g20, v21, l20, S, h27, rfl⟩ F; replace S : St g20 [[bx b8 #[.string y8.Path, v16] 88], c11, c12, [bx b4 #[.i6 0, .i6 0] 29], [bx b3 #[nilS] 41], [bx b2 #[vnewer1] 44], [bx b1 #[vold_1] 44]] fr w := S
          refine dv_nx trivial ?_
          refine dv_et ok5 9 rfl (ev_move rfl) F rfl fun a F=>?_
          refine dv_et ok5 10 rfl (ev_extract rfl rfl) F rfl fun a F=>?_
          refine dv_et ok5 11 rfl (ev_extract rfl rfl) F rfl fun a F=>?_
          refine dv_fork ok5 12 [13] (fk 12 rfl [] ?_ (fk 13 rfl [] ?_ trivial))
          ·refine wl_alloc (wn rfl) rfl tz25 (cs := [nilS]) rfl F S rfl rfl ?_; clear F a S; rintro b9 a w F S
           refine dv_nx trivial ?_
           refine dv_op ok5 13 rfl [] ?_
           refine wl_alloc (wn rfl) rfl tz29 (cs := [.i6 0, .i6 0]) rfl F S rfl rfl ?_; clear F a S; rintro b10 a w F S
           refine dv_nx trivial ?_
           refine dv_join (HJ _ _ ?_)
           exact ⟨v21, b10, b9, g20, F.sub ⟨rfl, rfl, rfl, rfl, rfl, rfl, rfl, rfl, rfl, rfl, rfl, rfl, rfl, rfl, rfl, trivial⟩, l20, S, h27, hm⟩
          ·refine wl_alloc (wn rfl) rfl tz29 (cs := [.i6 0, .i6 0]) rfl F S rfl rfl ?_; clear F a S; rintro b10 a w F S
           refine dv_nx trivial ?_
           refine dv_op ok5 12 rfl [] ?_
           refine wl_alloc (wn rfl) rfl tz25 (cs := [nilS]) rfl F S rfl rfl ?_; clear F a S; rintro b9 a w F S
           refine dv_nx trivial ?_
           refine dv_join (HJ _ _ ?_)
           replace S : St g20 [[bx b10 #[.i6 0, .i6 0] 29], [bx b9 #[nilS] 25], [bx b8 #[.string y8.Path, v16] 88], c11, c12, [bx b4 #[.i6 0, .i6 0] 29], [bx b3 #[nilS] 41], [bx b2 #[vnewer1] 44], [bx b1 #[vold_1] 44]] fr w := St.tail [[bx b10 #[.i6 0, .i6 0] 29], [bx b9 #[nilS] 25], [bx b8 #[.string y8.Path, v16] 88], c11, c12, [bx b4 #[.i6 0, .i6 0] 29], [bx b3 #[nilS] 41], [bx b2 #[vnewer1] 44], [bx b1 #[vold_1] 44]] _ (((((((((S.frontC 8 rfl).frontC 8 rfl).frontC 8 rfl).frontC 8 rfl).frontC 8 rfl).frontC 8 rfl).frontC 8 rfl).frontC 7 rfl).frontC 9 rfl)
           exact ⟨v21, b10, b9, g20, F.sub ⟨rfl, rfl, rfl, rfl, rfl, rfl, rfl, rfl, rfl, rfl, rfl, rfl, rfl, rfl, rfl, trivial⟩, l20, S, h27, hm⟩
         ·refine wl_alloc (wn rfl) rfl tz25 (cs := [nilS]) rfl F S rfl rfl ?_; clear F a S; rintro b9 a w F S
          refine dv_nx ⟨yl_ev rfl rfl (ev_load1 tu22 rfl rfl (ptr_mono (cks := [[bx b9 #[nilS] 25], [bx b8 #[.string y8.Path, v16] 88], c11, c12, [bx b4 #[.i6 0, .i6 0] 29], [bx b3 #[nilS] 41], [bx b2 #[vnewer1] 44], [bx b1 #[vold_1] 44]]) (fr := fr) hp4 (Le.refl _))) F S, yl_ev rfl rfl (ev_load1 tu42 rfl rfl (box_ptr (cells := [vnewer1]) 6 rfl 0 rfl (lb rfl))) F S, yl_ev rfl rfl (ev_load1 tu22 rfl rfl (box_ptr (cells := [v16]) 1 rfl 1 rfl (lb rfl))) F S, trivial⟩ ?_
          refine dv_fork ok5 8 [13] (fk 8 rfl [] ?_ (fk 13 rfl [(7, v20), (3, vnewer1), (1, v16)] ?_ trivial))
          ·refine wl_call0 (wn rfl) rfl F rfl (diff_Script_ok (fr := (fl [[bx b9 #[nilS] 25], [bx b8 #[.string y8.Path, v16] 88], c11, c12, [bx b4 #[.i6 0, .i6 0] 29], [bx b3 #[nilS] 41], [bx b2 #[vnewer1] 44], [bx b1 #[vold_1] 44]] fr)) y8.Lines v16 (h21.mono l17) y12.Lines v20 h26 S hy13) rfl tc64 rfl rfl ?_; clear F a S
           rintro _ a w ⟨g20, v21, l20, S, h27, rfl⟩ F; replace S : St g20 [[bx b9 #[nilS] 25], [bx b8 #[.string y8.Path, v16] 88], c11, c12, [bx b4 #[.i6 0, .i6 0] 29], [bx b3 #[nilS] 41], [bx b2 #[vnewer1] 44], [bx b1 #[vold_1] 44]] fr w := S
           refine dv_nx trivial ?_
           refine dv_et ok5 9 rfl (ev_move rfl) F rfl fun a F=>?_
           refine dv_et ok5 10 rfl (ev_extract rfl rfl) F rfl fun a F=>?_
           refine dv_et ok5 11 rfl (ev_extract rfl rfl) F rfl fun a F=>?_
           refine dv_op ok5 13 rfl [] ?_
           refine wl_alloc (wn rfl) rfl tz29 (cs := [.i6 0, .i6 0]) rfl F S rfl rfl ?_; clear F a S; rintro b10 a w F S
           refine dv_nx trivial ?_
           refine dv_join (HJ _ _ ?_)
           exact ⟨v21, b10, b9, g20, F.sub ⟨rfl, rfl, rfl, rfl, rfl, rfl, rfl, rfl, rfl, rfl, rfl, rfl, rfl, rfl, rfl, trivial⟩, l20, S, h27, hm⟩
          ·refine wl_alloc (wn rfl) rfl tz29 (cs := [.i6 0, .i6 0]) rfl F S rfl rfl ?_; clear F a S; rintro b10 a w F S
           refine dv_nx ⟨yl_ev rfl rfl (ev_load1 tu22 rfl rfl (ptr_mono (cks := [[bx b10 #[.i6 0, .i6 0] 29], [bx b9 #[nilS] 25], [bx b8 #[.string y8.Path, v16] 88], c11, c12, [bx b4 #[.i6 0, .i6 0] 29], [bx b3 #[nilS] 41], [bx b2 #[vnewer1] 44], [bx b1 #[vold_1] 44]]) (fr := fr) hp4 (Le.refl _))) F S, yl_ev rfl rfl (ev_load1 tu42 rfl rfl (box_ptr (cells := [vnewer1]) 7 rfl 0 rfl (lb rfl))) F S, yl_ev rfl rfl (ev_load1 tu22 rfl rfl (box_ptr (cells := [v16]) 2 rfl 1 rfl (lb rfl))) F S, trivial⟩ ?_
           refine dv_op ok5 8 rfl [] ?_
           refine wl_call0 (wn rfl) rfl F rfl (diff_Script_ok (fr := (fl [[bx b10 #[.i6 0, .i6 0] 29], [bx b9 #[nilS] 25], [bx b8 #[.string y8.Path, v16] 88], c11, c12, [bx b4 #[.i6 0, .i6 0] 29], [bx b3 #[nilS] 41], [bx b2 #[vnewer1] 44], [bx b1 #[vold_1] 44]] fr)) y8.Lines v16 (h21.mono l17) y12.Lines v20 h26 S hy13) rfl tc64 rfl rfl ?_; clear F a S
           rintro _ a w ⟨g20, v21, l20, S, h27, rfl⟩ F; replace S : St g20 [[bx b10 #[.i6 0, .i6 0] 29], [bx b9 #[nilS] 25], [bx b8 #[.string y8.Path, v16] 88], c11, c12, [bx b4 #[.i6 0, .i6 0] 29], [bx b3 #[nilS] 41], [bx b2 #[vnewer1] 44], [bx b1 #[vold_1] 44]] fr w := S
           refine dv_nx trivial ?_
           refine dv_et ok5 9 rfl (ev_move rfl) F rfl fun a F=>?_
           refine dv_et ok5 10 rfl (ev_extract rfl rfl) F rfl fun a F=>?_
           refine dv_et ok5 11 rfl (ev_extract rfl rfl) F rfl fun a F=>?_
           refine dv_join (HJ _ _ ?_)
           exact ⟨v21, b10, b9, g20, F.sub ⟨rfl, rfl, rfl, rfl, rfl, rfl, rfl, rfl, rfl, rfl, rfl, rfl, rfl, rfl, rfl, trivial⟩, l20, S, h27, hm⟩
         ·refine wl_alloc (wn rfl) rfl tz29 (cs := [.i6 0, .i6 0]) rfl F S rfl rfl ?_; clear F a S; rintro b10 a w F S
          refine dv_nx ⟨yl_ev rfl rfl (ev_load1 tu22 rfl rfl (ptr_mono (cks := [[bx b10 #[.i6 0, .i6 0] 29], [bx b8 #[.string y8.Path, v16] 88], c11, c12, [bx b4 #[.i6 0, .i6 0] 29], [bx b3 #[nilS] 41], [bx b2 #[vnewer1] 44], [bx b1 #[vold_1] 44]]) (fr := fr) hp4 (Le.refl _))) F S, yl_ev rfl rfl (ev_load1 tu42 rfl rfl (box_ptr (cells := [vnewer1]) 6 rfl 0 rfl (lb rfl))) F S, yl_ev rfl rfl (ev_load1 tu22 rfl rfl (box_ptr (cells := [v16]) 1 rfl 1 rfl (lb rfl))) F S, trivial⟩ ?_
          refine dv_fork ok5 8 [12] (fk 8 rfl [] ?_ (fk 12 rfl [(7, v20), (3, vnewer1), (1, v16)] ?_ trivial))
          ·refine wl_call0 (wn rfl) rfl F rfl (diff_Script_ok (fr := (fl [[bx b10 #[.i6 0, .i6 0] 29], [bx b8 #[.string y8.Path, v16] 88], c11, c12, [bx b4 #[.i6 0, .i6 0] 29], [bx b3 #[nilS] 41], [bx b2 #[vnewer1] 44], [bx b1 #[vold_1] 44]] fr)) y8.Lines v16 (h21.mono l17) y12.Lines v20 h26 S hy13) rfl tc64 rfl rfl ?_; clear F a S
           rintro _ a w ⟨g20, v21, l20, S, h27, rfl⟩ F; replace S : St g20 [[bx b10 #[.i6 0, .i6 0] 29], [bx b8 #[.string y8.Path, v16] 88], c11, c12, [bx b4 #[.i6 0, .i6 0] 29], [bx b3 #[nilS] 41], [bx b2 #[vnewer1] 44], [bx b1 #[vold_1] 44]] fr w := S
           refine dv_nx trivial ?_
           refine dv_et ok5 9 rfl (ev_move rfl) F rfl fun a F=>?_
           refine dv_et ok5 10 rfl (ev_extract rfl rfl) F rfl fun a F=>?_
           refine dv_et ok5 11 rfl (ev_extract rfl rfl) F rfl fun a F=>?_
           refine dv_op ok5 12 rfl [] ?_
           refine wl_alloc (wn rfl) rfl tz25 (cs := [nilS]) rfl F S rfl rfl ?_; clear F a S; rintro b9 a w F S
           refine dv_nx trivial ?_
           refine dv_join (HJ _ _ ?_)
           replace S : St g20 [[bx b10 #[.i6 0, .i6 0] 29], [bx b9 #[nilS] 25], [bx b8 #[.string y8.Path, v16] 88], c11, c12, [bx b4 #[.i6 0, .i6 0] 29], [bx b3 #[nilS] 41], [bx b2 #[vnewer1] 44], [bx b1 #[vold_1] 44]] fr w := St.tail [[bx b10 #[.i6 0, .i6 0] 29], [bx b9 #[nilS] 25], [bx b8 #[.string y8.Path, v16] 88], c11, c12, [bx b4 #[.i6 0, .i6 0] 29], [bx b3 #[nilS] 41], [bx b2 #[vnewer1] 44], [bx b1 #[vold_1] 44]] _ (((((((((S.frontC 8 rfl).frontC 8 rfl).frontC 8 rfl).frontC 8 rfl).frontC 8 rfl).frontC 8 rfl).frontC 8 rfl).frontC 7 rfl).frontC 9 rfl)
           exact ⟨v21, b10, b9, g20, F.sub ⟨rfl, rfl, rfl, rfl, rfl, rfl, rfl, rfl, rfl, rfl, rfl, rfl, rfl, rfl, rfl, trivial⟩, l20, S, h27, hm⟩
          ·refine wl_alloc (wn rfl) rfl tz25 (cs := [nilS]) rfl F S rfl rfl ?_; clear F a S; rintro b9 a w F S
           refine dv_nx ⟨yl_ev rfl rfl (ev_load1 tu22 rfl rfl (ptr_mono (cks := [[bx b9 #[nilS] 25], [bx b10 #[.i6 0, .i6 0] 29], [bx b8 #[.string y8.Path, v16] 88], c11, c12, [bx b4 #[.i6 0, .i6 0] 29], [bx b3 #[nilS] 41], [bx b2 #[vnewer1] 44], [bx b1 #[vold_1] 44]]) (fr := fr) hp4 (Le.refl _))) F S, yl_ev rfl rfl (ev_load1 tu42 rfl rfl (box_ptr (cells := [vnewer1]) 7 rfl 0 rfl (lb rfl))) F S, yl_ev rfl rfl (ev_load1 tu22 rfl rfl (box_ptr (cells := [v16]) 2 rfl 1 rfl (lb rfl))) F S, trivial⟩ ?_
           refine dv_op ok5 8 rfl [] ?_
           refine wl_call0 (wn rfl) rfl F rfl (diff_Script_ok (fr := (fl [[bx b9 #[nilS] 25], [bx b10 #[.i6 0, .i6 0] 29], [bx b8 #[.string y8.Path, v16] 88], c11, c12, [bx b4 #[.i6 0, .i6 0] 29], [bx b3 #[nilS] 41], [bx b2 #[vnewer1] 44], [bx b1 #[vold_1] 44]] fr)) y8.Lines v16 (h21.mono l17) y12.Lines v20 h26 S hy13) rfl tc64 rfl rfl ?_; clear F a S
           rintro _ a w ⟨g20, v21, l20, S, h27, rfl⟩ F; replace S : St g20 [[bx b9 #[nilS] 25], [bx b10 #[.i6 0, .i6 0] 29], [bx b8 #[.string y8.Path, v16] 88], c11, c12, [bx b4 #[.i6 0, .i6 0] 29], [bx b3 #[nilS] 41], [bx b2 #[vnewer1] 44], [bx b1 #[vold_1] 44]] fr w := S
           refine dv_nx trivial ?_
           refine dv_et ok5 9 rfl (ev_move rfl) F rfl fun a F=>?_
           refine dv_et ok5 10 rfl (ev_extract rfl rfl) F rfl fun a F=>?_
           refine dv_et ok5 11 rfl (ev_extract rfl rfl) F rfl fun a F=>?_
           refine dv_join (HJ _ _ ?_)
           replace S : St g20 [[bx b10 #[.i6 0, .i6 0] 29], [bx b9 #[nilS] 25], [bx b8 #[.string y8.Path, v16] 88], c11, c12, [bx b4 #[.i6 0, .i6 0] 29], [bx b3 #[nilS] 41], [bx b2 #[vnewer1] 44], [bx b1 #[vold_1] 44]] fr w := St.tail [[bx b10 #[.i6 0, .i6 0] 29], [bx b9 #[nilS] 25], [bx b8 #[.string y8.Path, v16] 88], c11, c12, [bx b4 #[.i6 0, .i6 0] 29], [bx b3 #[nilS] 41], [bx b2 #[vnewer1] 44], [bx b1 #[vold_1] 44]] _ (((((((((S.frontC 8 rfl).frontC 8 rfl).frontC 8 rfl).frontC 8 rfl).frontC 8 rfl).frontC 8 rfl).frontC 8 rfl).frontC 7 rfl).frontC 9 rfl)
           exact ⟨v21, b10, b9, g20, F.sub ⟨rfl, rfl, rfl, rfl, rfl, rfl, rfl, rfl, rfl, rfl, rfl, rfl, rfl, rfl, rfl, trivial⟩, l20, S, h27, hm⟩
        ·clear F S hm; rintro a w ⟨v22, b11, b12, g21, F, l21, S, h28, hm⟩
         refine dv_op ok5 14 rfl [] ?_
         refine wl_storeC (wn rfl) rfl F S rfl rfl (vs := [v22]) rfl ts25 (one_cons h28.one one_nil) (k := 1) rfl (lb rfl) (c' := #[v22]) rfl rfl ?_; clear S; intro w S
         refine dv_nx trivial ?_
         refine dv_op ok5 15 rfl [] ?_
         refine wl_storeC (wn rfl) rfl F S rfl rfl (vs := [.i6 y13.2.Code, .i6 y13.2.Index]) rfl ts29 (one_cons rfl (one_cons rfl one_nil)) (k := 0) rfl (lb rfl) (c' := #[.i6 y13.2.Code, .i6 y13.2.Index]) rfl rfl ?_; clear S; intro w S
         refine dv_nx trivial ?_
         refine dv_fin ok5 ?_
         refine then_n ?_
         refine wp_seq ?_
         refine wp_region_lit ?_
         refine wE (ev_fieldAddr' tu25 tf25_0 (z := 0) ts23 rfl ⟨_, rfl⟩ rfl) F S rfl fun a F=>?_
         refine wE (ev_load1 tu23 rfl rfl (box_ptr (cells := [v22]) 1 rfl 0 rfl (lb rfl))) F S rfl fun a F=>?_
         refine wE (ev_lenSh h28 rfl tu23) F S rfl fun a F=>?_
         refine wE (ev_int rfl rfl (bo_gtr _ _ _ _)) F S rfl fun a F=>?_
         refine wpList_nil ?_
         refine then_n ?_
         obtain ⟨hc8, hm⟩ | ⟨hc8, hm⟩ := ite_or hm
         ·refine wp_condT F rfl hc8 ?_
          refine wp_region_lit ?_
          refine wE (ev_move rfl) F S rfl fun a F=>?_
          refine wE (ev_fieldAddr' tu88 tf88_0 (z := 0) ts9 rfl ⟨_, rfl⟩ rfl) F S rfl fun a F=>?_
          refine wE (ev_load1 tu9 rfl rfl (box_ptr (cells := [.string y8.Path]) 2 rfl 0 rfl (lb rfl))) F S rfl fun a F=>?_
          refine wE (ev_loadA tu25 rfl (cs := [v22]) ts25 rfl (box_ptr (cells := [v22]) 1 rfl 0 rfl (lb rfl))) F S rfl fun a F=>?_
          refine wE (ev_build (parts := [(0, .const (.i6 4)), (1, .tmp 80), (4, .tmp 81)]) (vs := [(0, .i6 4), (1, .string y8.Path), (4, .agg #[v22])]) rfl (fun w => tb27_0_1_4 4 y8.Path v22 (RepSl.isSl h28) w)) F S rfl fun a F=>?_
          refine wl_lit (l := ([({ Kind := 4, Path := y8.Path, To := ByteArray.empty, Lines := [], Patch := y13.1 } : TreeChange)] : List TreeChange)) (vs := [.agg #[.i6 4, .string y8.Path, .string ByteArray.empty, nilS, v22]]) (parts := [(0, .tmp 82)]) (wn rfl) rfl rfl rfl tu39 te27 (sz_cons rfl sz_nil) rfl (Cat.cons (rep_TreeChange_mk (x := ({ Kind := 4, Path := y8.Path, To := ByteArray.empty, Lines := [], Patch := y13.1 } : TreeChange)) (RepSl.nil _) h28) (Cat.nil _)) (coa_cons rfl coa_nil) rfl F S rfl rfl ?_; clear F a S
          rintro v23 c18 a w h29 F S
          obtain ⟨cs6, hk3, hr8⟩ := OwnS.reads h29
          obtain ⟨y14, hy14, hm⟩ := bind_some hm
          refine wl_append (wn rfl) rfl tu39 tu39 te27 (by decide) (by decide) F S rfl rfl (k := 4) rfl (h17.mono (l17.trans l21)) hk3 rfl (hr8 _ _ _ 0 rfl S) hy14 rfl rfl ?_; clear F a S
          rintro v24 c19 a w h30 S F; replace S : St g21 [c18, [bx b11 #[.i6 y13.2.Code, .i6 y13.2.Index] 29], [bx b12 #[v22] 25], [bx b8 #[.string y8.Path, v16] 88], c19, c12, [bx b4 #[.i6 0, .i6 0] 29], [bx b3 #[nilS] 41], [bx b2 #[vnewer1] 44], [bx b1 #[vold_1] 44]] fr w := S
          refine wE (ev_assign rfl) F S rfl fun a F=>?_
          refine wpList_nil ?_
          refine inb_n ?_
          refine then_n ?_
          replace S : St g21 [c12, c19, [bx b4 #[.i6 0, .i6 0] 29], [bx b3 #[nilS] 41], [bx b2 #[vnewer1] 44], [bx b1 #[vold_1] 44]] fr w := St.tail [c12, c19, [bx b4 #[.i6 0, .i6 0] 29], [bx b3 #[nilS] 41], [bx b2 #[vnewer1] 44], [bx b1 #[vold_1] 44]] _ ((((((S.frontC 9 rfl).frontC 9 rfl).frontC 9 rfl).frontC 9 rfl).frontC 8 rfl).frontC 10 rfl)
          exact ⟨x10, y14, v13, v24, c12, c19, g21, F.sub ⟨rfl, rfl, rfl, rfl, rfl, rfl, rfl, rfl, rfl, rfl, trivial⟩, (l17.trans l21), S, (h18.mono (l17.trans l21)), h30, hm⟩
         ·refine wp_condF F rfl hc8 ?_
          refine wp_skip ?_
          refine inb_n ?_
          refine then_n ?_
          replace S : St g21 [c12, c11, [bx b4 #[.i6 0, .i6 0] 29], [bx b3 #[nilS] 41], [bx b2 #[vnewer1] 44], [bx b1 #[vold_1] 44]] fr w := St.tail [c12, c11, [bx b4 #[.i6 0, .i6 0] 29], [bx b3 #[nilS] 41], [bx b2 #[vnewer1] 44], [bx b1 #[vold_1] 44]] _ ((((((S.frontC 8 rfl).frontC 8 rfl).frontC 8 rfl).frontC 8 rfl).frontC 7 rfl).frontC 9 rfl)
          exact ⟨x10, x9, v13, v12, c12, c11, g21, F.sub ⟨rfl, rfl, rfl, rfl, rfl, rfl, rfl, rfl, rfl, rfl, trivial⟩, (l17.trans l21), S, (h18.mono (l17.trans l21)), (h17.mono (l17.trans l21)), hm⟩
      ·clear F S hm; rintro a w ⟨x12, x13, v14, v15, c13, c14, g16, F, l16, S, h19, h20, hm⟩
       refine wp_region_lit ?_
       obtain ⟨z2, hz2, hm⟩ := bind_some hm
       refine wE (ev_int rfl rfl (bo_add hz2)) F S rfl fun a F=>?_
       refine wE (ev_move rfl) F S rfl fun a F=>?_
       refine wpList_nil ?_
       refine then_n ?_
       obtain rfl := sinj hm
       refine ⟨_, rfl, ?_⟩
       dsimp only
       replace S : St g16 [c14, c13, [bx b4 #[.i6 0, .i6 0] 29], [bx b3 #[nilS] 41], [bx b2 #[vnewer1] 44], [bx b1 #[vold_1] 44]] fr w := St.tail [c14, c13, [bx b4 #[.i6 0, .i6 0] 29], [bx b3 #[nilS] 41], [bx b2 #[vnewer1] 44], [bx b1 #[vold_1] 44]] _ ((((((S.frontC 5 rfl).frontC 5 rfl).frontC 5 rfl).frontC 5 rfl).frontC 4 rfl).frontC 6 rfl)
       exact ⟨v15, v14, c14, c13, g16, F.sub ⟨rfl, rfl, rfl, rfl, rfl, rfl, rfl, rfl, rfl, rfl, trivial⟩, (l15.trans l16), S, h20, h19⟩
     ·refine wp_condF F rfl hc6 ?_
      refine wp_exit ?_
      refine then_e ?_
      refine then_e ?_
      refine inb_x ?_
      refine then_n ?_
      obtain rfl := sinj hm
      obtain rfl := hfin2 _ rfl
      clear hm
      have hm : (treepatch_Diff.j1 old_ newer x9 x10 : Option (TreePatch × Fault)) = some _ := hmo2
      exact ⟨x9, x10, v12, v13, c11, c12, g15, F.sub ⟨rfl, rfl, rfl, rfl, rfl, rfl, rfl, trivial⟩, l15, S, h17, h18, hm⟩
   ·clear F S hm; rintro a w ⟨x1, x2, v1, v2, c1, c2, g3, F, l3, S, h1, h2, hm⟩
    refine wp_cut (fun a w => ∃ (x3 : List TreeChange) (v3 : Value) (c3 : Hl) (g4 : Gh), Fr 126 a [(10, v3), (9, v1), (8, v2), (5, bp b4 0), (4, bp b3 0)] ∧ Le g3 g4 ∧ St g4 [c3, c1, c2, [bx b4 #[.i6 0, .i6 0] 29], [bx b3 #[nilS] 41]] fr w ∧ OwnS g4 x3 v3 c3 ∧ treepatch_Diff.j2 x1 x2 x3 = some r) ?_ ?_
    ·refine wp_seq ?_
     refine wp_region_lit ?_
     refine wE (ev_fieldAddr' tu44 tf44_0 (z := 0) ts42 rfl ⟨_, rfl⟩ rfl) F S rfl fun a F=>?_
     refine wE (ev_load1 tu42 rfl rfl (box_ptr (cells := [vnewer1]) 4 rfl 0 rfl (lb rfl))) F S rfl fun a F=>?_
     refine wE (ev_lenSh hnewer1 rfl tu42) F S rfl fun a F=>?_
     refine wE (ev_move rfl) F S rfl fun a F=>?_
     refine wpList_nil ?_
     refine then_n ?_
     refine wp_block ?_
     obtain ⟨r1, hr1, hm⟩ := bind_some hm
     have hmo1 := hm; clear hm
     refine wp_iter (σ := Int × (List TreeChange)) (ρ := (List TreeChange)) (m := fun s => treepatch_Diff.l1 old_ newer s.1 s.2) (I := fun s a w => match s with | (x4, x5) => ∃ (v6 : Value) (c6 : Hl) (g10 : Gh), Fr 126 a [(89, .i6 x4), (88, .i6 (newer.Files.length : Int)), (87, vnewer1), (10, v6), (9, v1), (8, v2), (5, bp b4 0), (4, bp b3 0), (2, bp b1 0)] ∧ Le g3 g10 ∧ St g10 [c6, c1, c2, [bx b4 #[.i6 0, .i6 0] 29], [bx b3 #[nilS] 41], [bx b1 #[vold_1] 44]] fr w ∧ OwnS g10 x5 v6 c6) hr1 ?_ ?_
     ·dsimp only
      replace S : St g3 [[], c1, c2, [bx b4 #[.i6 0, .i6 0] 29], [bx b3 #[nilS] 41], [bx b2 #[vnewer1] 44], [bx b1 #[vold_1] 44]] fr w := S
      replace S : St g3 [[], c1, c2, [bx b4 #[.i6 0, .i6 0] 29], [bx b3 #[nilS] 41], [bx b1 #[vold_1] 44]] fr w := St.tail [[], c1, c2, [bx b4 #[.i6 0, .i6 0] 29], [bx b3 #[nilS] 41], [bx b1 #[vold_1] 44]] _ ((((((S.frontC 6 rfl).frontC 5 rfl).frontC 5 rfl).frontC 5 rfl).frontC 5 rfl).frontC 5 rfl)
      exact ⟨(nilS), [], g3, F.sub ⟨rfl, rfl, rfl, rfl, rfl, rfl, rfl, rfl, rfl, trivial⟩, (Le.refl _), S, (OwnS.nil _)⟩
     ·clear F S; rintro ⟨x4, x5⟩ a w x6 ⟨v6, c6, g10, F, l10, S, h10⟩ hx1 hfin1
      have hm : treepatch_Diff.l1 old_ newer x4 x5 = some x6 := hx1; clear hx1
      unfold treepatch_Diff.l1 at hm
      refine wp_seq ?_
      refine wp_region_lit ?_
      refine wE (ev_int rfl rfl (bo_lss _ _ _ _)) F S rfl fun a F=>?_
      refine wpList_nil ?_
      refine then_n ?_
      refine wp_seq ?_
      obtain ⟨hc4, hm⟩ | ⟨hc4, hm⟩ := ite_or hm
      ·refine wp_condT F rfl hc4 ?_
       refine wp_skip ?_
       refine then_n ?_
       refine wp_cut (fun a w => ∃ (x7 : List TreeChange) (v7 : Value) (c7 : Hl) (g11 : Gh), Fr 126 a [(10, v7), (89, .i6 x4), (88, .i6 (newer.Files.length : Int)), (87, vnewer1), (9, v1), (8, v2), (5, bp b4 0), (4, bp b3 0), (2, bp b1 0)] ∧ Le g10 g11 ∧ St g11 [c7, c1, c2, [bx b4 #[.i6 0, .i6 0] 29], [bx b3 #[nilS] 41], [bx b1 #[vold_1] 44]] fr w ∧ OwnS g11 x7 v7 c7 ∧ treepatch_Diff.j3 x4 x7 = some x6) ?_ ?_
       ·refine wp_block ?_
        refine wp_seq ?_
        refine wp_region_lit ?_
        obtain ⟨y4, hy4, hm⟩ := bind_some hm
        obtain ⟨cs1, hr2, hp1⟩ := elemS (hnewer1.mono (((l1.trans l2).trans l3).trans l10)) hy4
        obtain ⟨v8, rfl, h12⟩ := rep_File hr2
        refine wE (ev_idxS (hnewer1.mono (((l1.trans l2).trans l3).trans l10)) hy4 tu42 ts88 rfl rfl) F S rfl fun a F=>?_
        refine wE (ev_loadA tu88 rfl (cs := [.string y4.Path, v8]) ts88 rfl (ptr_mono (cks := [c6, c1, c2, [bx b4 #[.i6 0, .i6 0] 29], [bx b3 #[nilS] 41], [bx b1 #[vold_1] 44]]) (fr := fr) hp1 (Le.refl _))) F S rfl fun a F=>?_
        refine wl_alloc (wn rfl) rfl tz88 (cs := [.string ByteArray.empty, nilS]) rfl F S rfl rfl ?_; clear F a S; rintro b7 a w F S
        refine wl_storeC (wn rfl) rfl F S rfl rfl (vs := [.string y4.Path, v8]) rfl ts88 (one_cons rfl (one_cons h12.one one_nil)) (k := 0) rfl (lb rfl) (c' := #[.string y4.Path, v8]) rfl rfl ?_; clear S; intro w S
        refine wpList_nil ?_
        refine then_n ?_
        refine wp_seq ?_
        refine wp_region_lit ?_
        refine wE (ev_fieldAddr' tu44 tf44_0 (z := 0) ts42 rfl ⟨_, rfl⟩ rfl) F S rfl fun a F=>?_
        refine wE (ev_load1 tu42 rfl rfl (box_ptr (cells := [vold_1]) 6 rfl 0 rfl (lb rfl))) F S rfl fun a F=>?_
        refine wE (ev_fieldAddr' tu88 tf88_0 (z := 0) ts9 rfl ⟨_, rfl⟩ rfl) F S rfl fun a F=>?_
        refine wE (ev_load1 tu9 rfl rfl (box_ptr (cells := [.string y4.Path]) 0 rfl 0 rfl (lb rfl))) F S rfl fun a F=>?_
        obtain ⟨y5, hy5, hm⟩ := bind_some hm
        refine wl_call0 (wn rfl) rfl F rfl (treepatch_Find_ok (fr := (fl [[bx b7 #[.string y4.Path, v8] 88], c6, c1, c2, [bx b4 #[.i6 0, .i6 0] 29], [bx b3 #[nilS] 41], [bx b1 #[vold_1] 44]] fr)) old_.Files vold_1 (hold_1.mono (((l1.trans l2).trans l3).trans l10)) y4.Path S hy5) rfl tc62 rfl rfl ?_; clear F a S
        rintro _ a w ⟨g12, l12, S, rfl⟩ F; replace S : St g12 [[bx b7 #[.string y4.Path, v8] 88], c6, c1, c2, [bx b4 #[.i6 0, .i6 0] 29], [bx b3 #[nilS] 41], [bx b1 #[vold_1] 44]] fr w := S
        refine wE (ev_move rfl) F S rfl fun a F=>?_
        refine wE (ev_extract rfl rfl) F S rfl fun a F=>?_
        refine wE (ev_extract rfl rfl) F S rfl fun a F=>?_
        refine wE (ev_assign rfl) F S rfl fun a F=>?_
        refine wE (ev_assign rfl) F S rfl fun a F=>?_
        refine wpList_nil ?_
        refine then_n ?_
        refine wp_seq ?_
        refine wp_region_lit ?_
        refine wE (ev_move rfl) F S rfl fun a F=>?_
        refine wE (ev_not rfl) F S rfl fun a F=>?_
        refine wpList_nil ?_
        refine then_n ?_
        obtain ⟨hc5, hm⟩ | ⟨hc5, hm⟩ := ite_or hm
        ·refine wp_condT F rfl hc5 ?_
         refine wp_dv [9] mo S ?_; clear S; intro ok3 w S
         refine dv_et ok3 0 rfl (ev_move rfl) F rfl fun a F=>?_
         refine dv_et ok3 1 rfl (ev_fieldAddr' tu88 tf88_0 (z := 0) ts9 rfl ⟨_, rfl⟩ rfl) F rfl fun a F=>?_
         refine dv_ev ok3 2 rfl (ev_load1 tu9 rfl rfl (box_ptr (cells := [.string y4.Path]) 0 rfl 0 rfl (lb rfl))) F S rfl fun a F=>?_
         refine dv_et ok3 3 rfl (ev_fieldAddr' tu88 tf88_1 (z := 0) ts22 rfl ⟨_, rfl⟩ rfl) F rfl fun a F=>?_
         refine dv_ev ok3 4 rfl (ev_load1 tu22 rfl rfl (box_ptr (cells := [v8]) 0 rfl 1 rfl (lb rfl))) F S rfl fun a F=>?_
         refine dv_op ok3 5 rfl [(2, .string y4.Path)] ?_
         obtain ⟨y6, hy6, hm⟩ := bind_some hm
         refine wl_call0 (wn rfl) rfl F rfl (slices_Clone_ok (fr := (fl [[bx b7 #[.string y4.Path, v8] 88], c6, c1, c2, [bx b4 #[.i6 0, .i6 0] 29], [bx b3 #[nilS] 41], [bx b1 #[vold_1] 44]] fr)) y4.Lines v8 (h12.mono l12) S hy6) rfl tc63 rfl rfl ?_; clear F a S
         rintro _ a w ⟨g13, v9, c8, l13, S, h13, rfl⟩ F; replace S : St g13 [c8, [bx b7 #[.string y4.Path, v8] 88], c6, c1, c2, [bx b4 #[.i6 0, .i6 0] 29], [bx b3 #[nilS] 41], [bx b1 #[vold_1] 44]] fr w := S
         refine dv_nx ⟨yl_ev rfl rfl (ev_load1 tu9 rfl rfl (box_ptr (cells := [.string y4.Path]) 1 rfl 0 rfl (lb rfl))) F S, trivial⟩ ?_
         refine dv_et ok3 6 rfl (ev_build (parts := [(0, .const (.i6 1)), (1, .tmp 105), (3, .tmp 108)]) (vs := [(0, .i6 1), (1, .string y4.Path), (3, v9)]) rfl (fun w => tb27_0_1_3 1 y4.Path v9 (OwnS.isSl h13) w)) F rfl fun a F=>?_
         refine dv_op ok3 7 rfl [] ?_
         obtain ⟨g14, l14, S, h14⟩ : ∃ gz, Le g13 gz ∧ St gz [[bx b7 #[.string y4.Path, v8] 88], c6, c1, c2, [bx b4 #[.i6 0, .i6 0] 29], [bx b3 #[nilS] 41], [bx b1 #[vold_1] 44]] fr w ∧ RepSl gz y6 v9 := ⟨_, Le.add _ _, S.freeze 0 rfl, OwnS.freeze (S.front 0 rfl) h13⟩
         refine wl_lit (l := ([({ Kind := 1, Path := y4.Path, To := ByteArray.empty, Lines := y6, Patch := ({ Hunks := [] } : Patch) } : TreeChange)] : List TreeChange)) (vs := [.agg #[.i6 1, .string y4.Path, .string ByteArray.empty, v9, nilS]]) (parts := [(0, .tmp 109)]) (wn rfl) rfl rfl rfl tu39 te27 (sz_cons rfl sz_nil) rfl (Cat.cons (rep_TreeChange_mk (x := ({ Kind := 1, Path := y4.Path, To := ByteArray.empty, Lines := y6, Patch := ({ Hunks := [] } : Patch) } : TreeChange)) h14 (RepSl.nil _)) (Cat.nil _)) (coa_cons rfl coa_nil) rfl F S rfl rfl ?_; clear F a S
         rintro v10 c9 a w h15 F S
         refine dv_nx trivial ?_
         refine dv_op ok3 8 rfl [] ?_
         obtain ⟨cs2, hk1, hr3⟩ := OwnS.reads h15
         obtain ⟨y7, hy7, hm⟩ := bind_some hm
         refine wl_append (wn rfl) rfl tu39 tu39 te27 (by decide) (by decide) F S rfl rfl (k := 2) rfl (h10.mono ((l12.trans l13).trans l14)) hk1 rfl (hr3 _ _ _ 0 rfl S) hy7 rfl rfl ?_; clear F a S
         rintro v11 c10 a w h16 S F; replace S : St g14 [c9, [bx b7 #[.string y4.Path, v8] 88], c10, c1, c2, [bx b4 #[.i6 0, .i6 0] 29], [bx b3 #[nilS] 41], [bx b1 #[vold_1] 44]] fr w := S
         refine dv_nx trivial ?_
         refine dv_op ok3 9 rfl [] ?_
         refine wE (ev_assign rfl) F S rfl fun a F=>?_
         refine dv_nx trivial ?_
         refine dv_fin ok3 ?_
         refine inb_n ?_
         refine then_n ?_
         replace S : St g14 [c10, c1, c2, [bx b4 #[.i6 0, .i6 0] 29], [bx b3 #[nilS] 41], [bx b1 #[vold_1] 44]] fr w := St.tail [c10, c1, c2, [bx b4 #[.i6 0, .i6 0] 29], [bx b3 #[nilS] 41], [bx b1 #[vold_1] 44]] _ ((((((S.frontC 7 rfl).frontC 7 rfl).frontC 7 rfl).frontC 7 rfl).frontC 7 rfl).frontC 7 rfl)
         exact ⟨y7, v11, c10, g14, F.sub ⟨rfl, rfl, rfl, rfl, rfl, rfl, rfl, rfl, rfl, trivial⟩, ((l12.trans l13).trans l14), S, h16, hm⟩
        ·refine wp_condF F rfl hc5 ?_
         refine wp_skip ?_
         refine inb_n ?_
         refine then_n ?_
         replace S : St g12 [c6, c1, c2, [bx b4 #[.i6 0, .i6 0] 29], [bx b3 #[nilS] 41], [bx b1 #[vold_1] 44]] fr w := St.tail [c6, c1, c2, [bx b4 #[.i6 0, .i6 0] 29], [bx b3 #[nilS] 41], [bx b1 #[vold_1] 44]] _ ((((((S.frontC 6 rfl).frontC 6 rfl).frontC 6 rfl).frontC 6 rfl).frontC 6 rfl).frontC 6 rfl)
         exact ⟨x5, v6, c6, g12, F.sub ⟨rfl, rfl, rfl, rfl, rfl, rfl, rfl, rfl, rfl, trivial⟩, l12, S, (h10.mono l12), hm⟩
       ·clear F S hm; rintro a w ⟨x7, v7, c7, g11, F, l11, S, h11, hm⟩
        refine wp_region_lit ?_
        obtain ⟨z1, hz1, hm⟩ := bind_some hm
        refine wE (ev_int rfl rfl (bo_add hz1)) F S rfl fun a F=>?_
        refine wE (ev_move rfl) F S rfl fun a F=>?_
        refine wpList_nil ?_
        refine then_n ?_
        obtain rfl := sinj hm
        refine ⟨_, rfl, ?_⟩
        dsimp only
        exact ⟨v7, c7, g11, F.sub ⟨rfl, rfl, rfl, rfl, rfl, rfl, rfl, rfl, rfl, trivial⟩, (l10.trans l11), S, h11⟩
      ·refine wp_condF F rfl hc4 ?_
       refine wp_exit ?_
       refine then_e ?_
       refine then_e ?_
       refine inb_x ?_
       refine then_n ?_
       obtain rfl := sinj hm
       obtain rfl := hfin1 _ rfl
       clear hm
       have hm : (treepatch_Diff.j2 x1 x2 x5 : Option (TreePatch × Fault)) = some _ := hmo1
       replace S : St g10 [c6, c1, c2, [bx b4 #[.i6 0, .i6 0] 29], [bx b3 #[nilS] 41]] fr w := St.tail [c6, c1, c2, [bx b4 #[.i6 0, .i6 0] 29], [bx b3 #[nilS] 41]] _ (((((S.frontC 4 rfl).frontC 4 rfl).frontC 4 rfl).frontC 4 rfl).frontC 4 rfl)
       exact ⟨x5, v6, c6, g10, F.sub ⟨rfl, rfl, rfl, rfl, rfl, trivial⟩, l10, S, h10, hm⟩
    ·clear F S hm; rintro a w ⟨x3, v3, c3, g4, F, l4, S, h3, hm⟩
     refine wp_seq ?_
     refine wp_region_lit ?_
     refine wE (ev_move rfl) F S rfl fun a F=>?_
     refine wE (ev_move rfl) F S rfl fun a F=>?_
     refine wE (ev_move rfl) F S rfl fun a F=>?_
     obtain ⟨g5, l5, S, h4⟩ : ∃ gz, Le g4 gz ∧ St gz [c3, c1, [bx b4 #[.i6 0, .i6 0] 29], [bx b3 #[nilS] 41]] fr w ∧ RepSl gz x2 v2 := ⟨_, Le.add _ _, S.freeze 2 rfl, OwnS.freeze (S.front 2 rfl) (h2.mono l4)⟩
     obtain ⟨g6, l6, S, h5⟩ : ∃ gz, Le g5 gz ∧ St gz [c3, [bx b4 #[.i6 0, .i6 0] 29], [bx b3 #[nilS] 41]] fr w ∧ RepSl gz x1 v1 := ⟨_, Le.add _ _, S.freeze 1 rfl, OwnS.freeze (S.front 1 rfl) (h1.mono (l4.trans l5))⟩
     obtain ⟨g7, l7, S, h6⟩ : ∃ gz, Le g6 gz ∧ St gz [[bx b4 #[.i6 0, .i6 0] 29], [bx b3 #[nilS] 41]] fr w ∧ RepSl gz x3 v3 := ⟨_, Le.add _ _, S.freeze 0 rfl, OwnS.freeze (S.front 0 rfl) (h3.mono (l5.trans l6))⟩
     refine wl_lit (l := ([x2, x1, x3] : List (List TreeChange))) (vs := [v2, v1, v3]) (parts := [(0, .tmp 113), (1, .tmp 114), (2, .tmp 115)]) (wn rfl) rfl rfl rfl tu137 te39 (sz_cons h4.csz (sz_cons h5.csz (sz_cons h6.csz sz_nil))) rfl (Cat.cons ⟨_, rfl, (h4.mono (l6.trans l7))⟩ (Cat.cons ⟨_, rfl, (h5.mono l7)⟩ (Cat.cons ⟨_, rfl, h6⟩ (Cat.nil _)))) (coa_cons h4.cl (coa_cons h5.cl (coa_cons h6.cl coa_nil))) rfl F S rfl rfl ?_; clear F a S
     rintro v4 c4 a w h7 F S
     obtain ⟨g8, l8, S, h8⟩ : ∃ gz, Le g7 gz ∧ St gz [[bx b4 #[.i6 0, .i6 0] 29], [bx b3 #[nilS] 41]] fr w ∧ RepSl gz ([x2, x1, x3] : List (List TreeChange)) v4 := ⟨_, Le.add _ _, S.freeze 0 rfl, OwnS.freeze (S.front 0 rfl) h7⟩
     obtain ⟨y3, hy3, hm⟩ := bind_some hm
     refine wl_call0 (wn rfl) rfl F rfl (api_TreeChange__ok (fr := (fl [[bx b4 #[.i6 0, .i6 0] 29], [bx b3 #[nilS] 41]] fr)) ([x2, x1, x3] : List (List TreeChange)) v4 h8 S hy3) rfl tc65 rfl rfl ?_; clear F a S
     rintro _ a w ⟨g9, v5, c5, l9, S, h9, rfl⟩ F; replace S : St g9 [c5, [bx b4 #[.i6 0, .i6 0] 29], [bx b3 #[nilS] 41]] fr w := S
     refine wE (ev_assign rfl) F S rfl fun a F=>?_
     refine wpList_nil ?_
     refine then_n ?_
     refine wp_seq ?_
     refine wp_seq ?_
     refine wp_region_lit ?_
     refine wE (ev_move rfl) F S rfl fun a F=>?_
     refine wE (ev_lenOw h9 rfl tu39) F S rfl fun a F=>?_
     refine wE (ev_int rfl rfl (bo_gtr _ _ _ _)) F S rfl fun a F=>?_
     refine wpList_nil ?_
     refine then_n ?_
     obtain ⟨hc3, hm⟩ | ⟨hc3, hm⟩ := ite_or hm
     ·refine wp_condT F rfl hc3 ?_
      refine wp_seq ?_
      refine wp_region_lit ?_
      refine wE (ev_build (parts := []) (vs := []) rfl (fun w => tb41_  w)) F S rfl fun a F=>?_
      refine wE (ev_build (parts := [(0, .const (.i6 10)), (1, .const (.i6 (-1)))]) (vs := [(0, .i6 10), (1, .i6 (-1))]) rfl (fun w => tb29_0_1 10 (-1) w)) F S rfl fun a F=>?_
      refine wl_storeC (wn rfl) rfl F S rfl rfl (vs := [nilS]) rfl ts41 (one_cons rfl one_nil) (k := 2) rfl (lb rfl) (c' := #[nilS]) rfl rfl ?_; clear S; intro w S
      refine wl_storeC (wn rfl) rfl F S rfl rfl (vs := [.i6 10, .i6 (-1)]) rfl ts29 (one_cons rfl (one_cons rfl one_nil)) (k := 1) rfl (lb rfl) (c' := #[.i6 10, .i6 (-1)]) rfl rfl ?_; clear S; intro w S
      refine wpList_nil ?_
      refine then_n ?_
      refine wp_ret ?_
      refine then_r ?_
      obtain rfl := sinj hm
      replace S : St g9 [[], c5, [bx b4 #[.i6 10, .i6 (-1)] 29], [bx b3 #[nilS] 41]] fr w := S
      refine post_r _ F rfl (ar_cons (resA rfl tu41 rfl (box_ptr (cells := [nilS]) 3 rfl 0 rfl (lb rfl) w S) ts41) (ar_cons (resA rfl tu29 rfl (box_ptr (cells := [.i6 10, .i6 (-1)]) 2 rfl 0 rfl (lb rfl) w S) ts29) ar_nil)) ?_
      replace S : St g9 [[]] fr w := St.tail [[]] _ (S.frontC 0 rfl)
      exact ⟨_, rfl, g9, (nilS), [], ((((((((l1.trans l2).trans l3).trans l4).trans l5).trans l6).trans l7).trans l8).trans l9), S, (OwnS.nil _), rfl⟩
     ·refine wp_condF F rfl hc3 ?_
      refine wp_skip ?_
      refine then_n ?_
      refine wp_seq ?_
      refine wp_region_lit ?_
      refine wE (ev_move rfl) F S rfl fun a F=>?_
      refine wE (ev_build (parts := [(0, .tmp 123)]) (vs := [(0, v5)]) rfl (fun w => tb41_0 v5 (OwnS.isSl h9) w)) F S rfl fun a F=>?_
      refine wE (ev_build (parts := []) (vs := []) rfl (fun w => tb29_  w)) F S rfl fun a F=>?_
      refine wl_storeC (wn rfl) rfl F S rfl rfl (vs := [v5]) rfl ts41 (one_cons (OwnS.one h9) one_nil) (k := 2) rfl (lb rfl) (c' := #[v5]) rfl rfl ?_; clear S; intro w S
      refine wl_storeC (wn rfl) rfl F S rfl rfl (vs := [.i6 0, .i6 0]) rfl ts29 (one_cons rfl (one_cons rfl one_nil)) (k := 1) rfl (lb rfl) (c' := #[.i6 0, .i6 0]) rfl rfl ?_; clear S; intro w S
      refine wpList_nil ?_
      refine then_n ?_
      refine wp_ret ?_
      obtain rfl := sinj hm
      refine post_r _ F rfl (ar_cons (resA rfl tu41 rfl (box_ptr (cells := [v5]) 2 rfl 0 rfl (lb rfl) w S) ts41) (ar_cons (resA rfl tu29 rfl (box_ptr (cells := [.i6 0, .i6 0]) 1 rfl 0 rfl (lb rfl) w S) ts29) ar_nil)) ?_
      replace S : St g9 [c5] fr w := St.tail [c5] _ (S.frontC 0 rfl)
      exact ⟨_, rfl, g9, v5, c5, ((((((((l1.trans l2).trans l3).trans l4).trans l5).trans l6).trans l7).trans l8).trans l9), S, h9, rfl⟩

theorem changeforgelaw2_TreepatchDiffApplies_ok {g : Gh} {fr : Hl} {w : World} {r : Bool} (a_ : FileTree) (va_1 : Value) (ha_1 : RepSl g a_.Files va_1) (b_ : FileTree) (vb_1 : Value) (hb_1 : RepSl g b_.Files vb_1) (S : St g [] fr w) (hm : changeforgelaw2_TreepatchDiffApplies a_ b_ = some r) :
  Calls Tryd.prog 10 [.agg #[va_1], .agg #[vb_1]].toArray w (fun en w' => ∃ v, en = .returned v ∧ ∃ (g' : Gh), Le g g' ∧ St g' [] fr w' ∧ .bool r = v) := by
 unfold changeforgelaw2_TreepatchDiffApplies at hm
 refine calls_enter (fn := Tryd.f10) Tryd.func10 rfl Tryd.ntmps10 (lb rfl) ?_
 intro a F
 replace F : Fr 36 a [(0, .agg #[va_1]), (1, .agg #[vb_1])] := F
 refine wp_seq ?_
 refine wp_region_lit ?_
 refine wl_boxC (wn rfl) rfl rfl rfl F S rfl rfl ?_; clear F a S; rintro b1 a w F S
 refine wl_boxC (wn rfl) rfl rfl rfl F S rfl rfl ?_; clear F a S; rintro b2 a w F S
 refine wE (ev_assign rfl) F S rfl fun a F=>?_
 refine wpList_nil ?_
 refine then_n ?_
 refine wp_seq ?_
 refine wp_region_lit ?_
 refine wE (ev_loadA tu44 rfl (cs := [va_1]) ts44 rfl (box_ptr (cells := [va_1]) 1 rfl 0 rfl (lb rfl))) F S rfl fun a F=>?_
 refine wE (ev_loadA tu44 rfl (cs := [vb_1]) ts44 rfl (box_ptr (cells := [vb_1]) 0 rfl 0 rfl (lb rfl))) F S rfl fun a F=>?_
 obtain ⟨y1, hy1, hm⟩ := bind_some hm
 refine wl_call0 (wn rfl) rfl F rfl (treepatch_Diff_ok (fr := (fl [[bx b2 #[vb_1] 44], [bx b1 #[va_1] 44]] fr)) a_ va_1 ha_1 b_ vb_1 hb_1 S hy1) rfl tc29 rfl rfl ?_; clear F a S
 rintro _ a w ⟨g1, v1, c1, l1, S, h1, rfl⟩ F; replace S : St g1 [c1, [bx b2 #[vb_1] 44], [bx b1 #[va_1] 44]] fr w := S
 refine wE (ev_move rfl) F S rfl fun a F=>?_
 refine wE (ev_extract rfl rfl) F S rfl fun a F=>?_
 refine wE (ev_extract rfl rfl) F S rfl fun a F=>?_
 refine wl_alloc (wn rfl) rfl tz41 (cs := [nilS]) rfl F S rfl rfl ?_; clear F a S; rintro b3 a w F S
 refine wl_alloc (wn rfl) rfl tz29 (cs := [.i6 0, .i6 0]) rfl F S rfl rfl ?_; clear F a S; rintro b4 a w F S
 refine wl_storeC (wn rfl) rfl F S rfl rfl (vs := [v1]) rfl ts41 (one_cons (OwnS.one h1) one_nil) (k := 1) rfl (lb rfl) (c' := #[v1]) rfl rfl ?_; clear S; intro w S
 refine wl_storeC (wn rfl) rfl F S rfl rfl (vs := [.i6 y1.2.Code, .i6 y1.2.Index]) rfl ts29 (one_cons rfl (one_cons rfl one_nil)) (k := 0) rfl (lb rfl) (c' := #[.i6 y1.2.Code, .i6 y1.2.Index]) rfl rfl ?_; clear S; intro w S
 refine wpList_nil ?_
 refine then_n ?_
 refine wp_seq ?_
 refine wp_seq ?_
 refine wp_region_lit ?_
 refine wE (ev_fieldAddr' tu29 tf29_0 (z := 0) ts3 rfl ⟨_, rfl⟩ rfl) F S rfl fun a F=>?_
 refine wE (ev_load1 tu3 rfl rfl (box_ptr (cells := [.i6 y1.2.Code]) 0 rfl 0 rfl (lb rfl))) F S rfl fun a F=>?_
 refine wE (ev_int rfl rfl (bo_neq _ _ _ _)) F S rfl fun a F=>?_
 refine wpList_nil ?_
 refine then_n ?_
 obtain ⟨hc1, hm⟩ | ⟨hc1, hm⟩ := ite_or hm
 ·refine wp_condT F rfl hc1 ?_
  refine wp_seq ?_
  refine wp_region_lit ?_
  obtain ⟨y2, hy2, hm⟩ := bind_some hm
  refine wl_call0 (wn rfl) rfl F rfl (changeforgelaw2_renamed_ok (fr := (fl [[bx b4 #[.i6 y1.2.Code, .i6 y1.2.Index] 29], [bx b3 #[v1] 41], c1, [bx b2 #[vb_1] 44], [bx b1 #[va_1] 44]] fr))  S hy2) rfl tc27 rfl rfl ?_; clear F a S
  rintro _ a w ⟨g2, l2, S, rfl⟩ F; replace S : St g2 [[bx b4 #[.i6 y1.2.Code, .i6 y1.2.Index] 29], [bx b3 #[v1] 41], c1, [bx b2 #[vb_1] 44], [bx b1 #[va_1] 44]] fr w := S
  refine wE (ev_assign rfl) F S rfl fun a F=>?_
  refine wpList_nil ?_
  refine then_n ?_
  refine wp_ret ?_
  refine then_r ?_
  obtain rfl := sinj hm
  refine post_r _ F rfl (ar_cons (resT rfl) ar_nil) ?_
  replace S : St g2 [] fr w := St.tail [] _ S
  exact ⟨_, rfl, g2, (l1.trans l2), S, rfl⟩
 ·refine wp_condF F rfl hc1 ?_
  refine wp_skip ?_
  refine then_n ?_
  refine wp_seq ?_
  refine wp_region_lit ?_
  refine wE (ev_loadA tu41 rfl (cs := [v1]) ts41 rfl (box_ptr (cells := [v1]) 1 rfl 0 rfl (lb rfl))) F S rfl fun a F=>?_
  refine wE (ev_loadA tu44 rfl (cs := [va_1]) ts44 rfl (box_ptr (cells := [va_1]) 4 rfl 0 rfl (lb rfl))) F S rfl fun a F=>?_
  obtain ⟨g3, l3, S, h2⟩ : ∃ gz, Le g1 gz ∧ St gz [[bx b4 #[.i6 y1.2.Code, .i6 y1.2.Index] 29], [bx b3 #[v1] 41], [bx b2 #[vb_1] 44], [bx b1 #[va_1] 44]] fr w ∧ RepSl gz y1.1.Changes v1 := ⟨_, Le.add _ _, S.freeze 2 rfl, OwnS.freeze (S.front 2 rfl) h1⟩
  obtain ⟨y3, hy3, hm⟩ := bind_some hm
  refine wl_call0 (wn rfl) rfl F rfl (treepatch_Apply_ok (fr := (fl [[bx b4 #[.i6 y1.2.Code, .i6 y1.2.Index] 29], [bx b3 #[v1] 41], [bx b2 #[vb_1] 44], [bx b1 #[va_1] 44]] fr)) y1.1 v1 h2 a_ va_1 (ha_1.mono (l1.trans l3)) S hy3) rfl tc18 rfl rfl ?_; clear F a S
  rintro _ a w ⟨g4, v2, c2, l4, S, h3, rfl⟩ F; replace S : St g4 [c2, [bx b4 #[.i6 y1.2.Code, .i6 y1.2.Index] 29], [bx b3 #[v1] 41], [bx b2 #[vb_1] 44], [bx b1 #[va_1] 44]] fr w := S
  refine wE (ev_move rfl) F S rfl fun a F=>?_
  refine wE (ev_extract rfl rfl) F S rfl fun a F=>?_
  refine wE (ev_extract rfl rfl) F S rfl fun a F=>?_
  refine wl_alloc (wn rfl) rfl tz44 (cs := [nilS]) rfl F S rfl rfl ?_; clear F a S; rintro b5 a w F S
  refine wl_alloc (wn rfl) rfl tz29 (cs := [.i6 0, .i6 0]) rfl F S rfl rfl ?_; clear F a S; rintro b6 a w F S
  refine wl_storeC (wn rfl) rfl F S rfl rfl (vs := [v2]) rfl ts44 (one_cons (OwnS.one h3) one_nil) (k := 1) rfl (lb rfl) (c' := #[v2]) rfl rfl ?_; clear S; intro w S
  refine wl_storeC (wn rfl) rfl F S rfl rfl (vs := [.i6 y3.2.Code, .i6 y3.2.Index]) rfl ts29 (one_cons rfl (one_cons rfl one_nil)) (k := 0) rfl (lb rfl) (c' := #[.i6 y3.2.Code, .i6 y3.2.Index]) rfl rfl ?_; clear S; intro w S
  refine wpList_nil ?_
  refine then_n ?_
  refine wp_seq ?_
  refine wp_region_lit ?_
  refine wE (ev_fieldAddr' tu29 tf29_0 (z := 0) ts3 rfl ⟨_, rfl⟩ rfl) F S rfl fun a F=>?_
  refine wE (ev_load1 tu3 rfl rfl (box_ptr (cells := [.i6 y3.2.Code]) 0 rfl 0 rfl (lb rfl))) F S rfl fun a F=>?_
  refine wE (ev_int rfl rfl (bo_eql _ _ _ _)) F S rfl fun a F=>?_
  refine wE (ev_move rfl) F S rfl fun a F=>?_
  obtain ⟨g5, l5, S, h4⟩ : ∃ gz, Le g4 gz ∧ St gz [[bx b6 #[.i6 y3.2.Code, .i6 y3.2.Index] 29], [bx b5 #[v2] 44], [bx b4 #[.i6 y1.2.Code, .i6 y1.2.Index] 29], [bx b3 #[v1] 41], [bx b2 #[vb_1] 44], [bx b1 #[va_1] 44]] fr w ∧ RepSl gz y3.1.Files v2 := ⟨_, Le.add _ _, S.freeze 2 rfl, OwnS.freeze (S.front 2 rfl) h3⟩
  obtain ⟨x1, hx1, hm⟩ := bind_some hm
  refine wl_cut 4 (fun a w => ∃ g6, Fr 36 a [(32, .bool x1), (4, .bool false)] ∧ Le g5 g6 ∧ St g6 [[bx b6 #[.i6 y3.2.Code, .i6 y3.2.Index] 29], [bx b5 #[v2] 44], [bx b4 #[.i6 y1.2.Code, .i6 y1.2.Index] 29], [bx b3 #[v1] 41], [bx b2 #[vb_1] 44], [bx b1 #[va_1] 44]] fr w) ?_ ?_
  ·clear hm; obtain ⟨hc2, hm⟩ | ⟨hc2, hm⟩ := ite_or hx1
   ·refine wl_ev (wg F rfl rfl rfl rfl hc2) (ev_loadA tu44 rfl (cs := [v2]) ts44 rfl (box_ptr (cells := [v2]) 1 rfl 0 rfl (lb rfl))) F S rfl rfl ?_; clear F a; intro a F
    refine wl_ev (wg F rfl rfl rfl rfl hc2) (ev_loadA tu44 rfl (cs := [vb_1]) ts44 rfl (box_ptr (cells := [vb_1]) 4 rfl 0 rfl (lb rfl))) F S rfl rfl ?_; clear F a; intro a F
    obtain ⟨y4, hy4, hm⟩ := bind_some hm
    refine wl_call0 (wg F rfl rfl rfl rfl hc2) rfl F rfl (changeforgeequal_Tree_ok (fr := (fl [[bx b6 #[.i6 y3.2.Code, .i6 y3.2.Index] 29], [bx b5 #[v2] 44], [bx b4 #[.i6 y1.2.Code, .i6 y1.2.Index] 29], [bx b3 #[v1] 41], [bx b2 #[vb_1] 44], [bx b1 #[va_1] 44]] fr)) y3.1 v2 h4 b_ vb_1 (hb_1.mono (((l1.trans l3).trans l4).trans l5)) S hy4) rfl tc26 rfl rfl ?_; clear F a S
    rintro _ a w ⟨g7, l7, S, rfl⟩ F; replace S : St g7 [[bx b6 #[.i6 y3.2.Code, .i6 y3.2.Index] 29], [bx b5 #[v2] 44], [bx b4 #[.i6 y1.2.Code, .i6 y1.2.Index] 29], [bx b3 #[v1] 41], [bx b2 #[vb_1] 44], [bx b1 #[va_1] 44]] fr w := S
    refine wE (ev_pickT rfl hc2 rfl) F S rfl fun a F=>?_
    obtain rfl := sinj hm
    refine wpList_nil (then_n ?_); exact ⟨g7, F.sub ⟨rfl, rfl, trivial⟩, l7, S⟩
   ·refine wl_skip rfl rfl rfl rfl (ne_tf hc2) F rfl rfl ?_; clear F a; intro a F
    refine wl_skip rfl rfl rfl rfl (ne_tf hc2) F rfl rfl ?_; clear F a; intro a F
    refine wl_skip rfl rfl rfl rfl (ne_tf hc2) F rfl rfl ?_; clear F a; intro a F
    refine wE (ev_pickF rfl hc2 rfl) F S rfl fun a F=>?_
    obtain rfl := sinj hm
    refine wpList_nil (then_n ?_); exact ⟨g5, F.sub ⟨rfl, rfl, trivial⟩, (Le.refl _), S⟩
  clear F S; rintro a w ⟨g6, F, l6, S⟩
  refine wE (ev_move rfl) F S rfl fun a F=>?_
  obtain ⟨x2, hx2, hm⟩ := bind_some hm
  refine wl_cut 2 (fun a w => ∃ g8, Fr 36 a [(35, .bool x2), (4, .bool false)] ∧ Le g6 g8 ∧ St g8 [[bx b6 #[.i6 y3.2.Code, .i6 y3.2.Index] 29], [bx b5 #[v2] 44], [bx b4 #[.i6 y1.2.Code, .i6 y1.2.Index] 29], [bx b3 #[v1] 41], [bx b2 #[vb_1] 44], [bx b1 #[va_1] 44]] fr w) ?_ ?_
  ·clear hm; obtain ⟨hc3, hm⟩ | ⟨hc3, hm⟩ := ite_or hx2
   ·obtain ⟨y5, hy5, hm⟩ := bind_some hm
    refine wl_call0 (wg F rfl rfl rfl rfl hc3) rfl F rfl (changeforgelaw2_renamed_ok (fr := (fl [[bx b6 #[.i6 y3.2.Code, .i6 y3.2.Index] 29], [bx b5 #[v2] 44], [bx b4 #[.i6 y1.2.Code, .i6 y1.2.Index] 29], [bx b3 #[v1] 41], [bx b2 #[vb_1] 44], [bx b1 #[va_1] 44]] fr))  S hy5) rfl tc27 rfl rfl ?_; clear F a S
    rintro _ a w ⟨g9, l9, S, rfl⟩ F; replace S : St g9 [[bx b6 #[.i6 y3.2.Code, .i6 y3.2.Index] 29], [bx b5 #[v2] 44], [bx b4 #[.i6 y1.2.Code, .i6 y1.2.Index] 29], [bx b3 #[v1] 41], [bx b2 #[vb_1] 44], [bx b1 #[va_1] 44]] fr w := S
    refine wE (ev_pickT rfl hc3 rfl) F S rfl fun a F=>?_
    obtain rfl := sinj hm
    refine wpList_nil (then_n ?_); exact ⟨g9, F.sub ⟨rfl, rfl, trivial⟩, l9, S⟩
   ·refine wl_skip rfl rfl rfl rfl (ne_tf hc3) F rfl rfl ?_; clear F a; intro a F
    refine wE (ev_pickF rfl hc3 rfl) F S rfl fun a F=>?_
    obtain rfl := sinj hm
    refine wpList_nil (then_n ?_); exact ⟨g6, F.sub ⟨rfl, rfl, trivial⟩, (Le.refl _), S⟩
  clear F S; rintro a w ⟨g8, F, l8, S⟩
  refine wE (ev_assign rfl) F S rfl fun a F=>?_
  refine wpList_nil ?_
  refine then_n ?_
  refine wp_ret ?_
  obtain rfl := sinj hm
  refine post_r _ F rfl (ar_cons (resT rfl) ar_nil) ?_
  replace S : St g8 [] fr w := St.tail [] _ S
  exact ⟨_, rfl, g8, (((((l1.trans l3).trans l4).trans l5).trans l6).trans l8), S, rfl⟩
end Go.Dc
