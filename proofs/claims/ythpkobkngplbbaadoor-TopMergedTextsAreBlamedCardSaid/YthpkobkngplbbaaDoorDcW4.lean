/- Walks: each function comes to what its model says. -/
import Derived.Test.YthpkobkngplbbaaDoorDcTab
import Derived.Test.YthpkobkngplbbaaDoorDcM
import Derived.Test.YthpkobkngplbbaaDoorDcW1
import Derived.Test.YthpkobkngplbbaaDoorDcW2
namespace Go.Dc
open Go Go.Proofs
set_option maxRecDepth 100000
set_option maxHeartbeats 4000000
set_option linter.unusedVariables false
theorem textpatch_Raw_ok {g : Gh} {fr : Hl} {w : World} {r : (List ByteArray)} (hunks : (List Hunk)) (vhunks1 : Value) (hhunks1 : RepSl g hunks vhunks1) (text : (List ByteArray)) (vtext1 : Value) (htext1 : RepSl g text vtext1) (low : Int) (high : Int) (S : St g [] fr w) (hm : textpatch_Raw hunks text low high = some r) :
  Calls Tryd.prog 22 [vhunks1, vtext1, .i6 low, .i6 high].toArray w (fun en w' => ∃ v, en = .returned v ∧ ∃ (g' : Gh) (v1 : Value) (c1 : Hl), Le g g' ∧ St g' [c1] fr w' ∧ OwnS g' r v1 c1 ∧ v1 = v) := by
 unfold textpatch_Raw at hm
 refine calls_enter (fn := Tryd.f22) Tryd.func22 rfl Tryd.ntmps22 (lb rfl) ?_
 intro a F
 replace F : Fr 37 a [(0, vhunks1), (1, vtext1), (2, .i6 low), (3, .i6 high)] := F
 refine wp_seq ?_
 refine wp_region_lit ?_
 refine wE (ev_assign rfl) F S rfl fun a F=>?_
 refine wpList_nil ?_
 refine then_n ?_
 refine wp_seq ?_
 refine wp_region_lit ?_
 refine wE (ev_assign rfl) F S rfl fun a F=>?_
 refine wpList_nil ?_
 refine then_n ?_
 refine wp_cut (fun a w => ∃ (x1 : List ByteArray) (x2 : Int) (v1 : Value) (c1 : Hl) (g1 : Gh), Fr 37 a [(9, v1), (1, vtext1), (2, .i6 x2), (3, .i6 high)] ∧ Le g g1 ∧ St g1 [c1] fr w ∧ OwnS g1 x1 v1 c1 ∧ textpatch_Raw.j1 text high x1 x2 = some r) ?_ ?_
 ·refine wp_seq ?_
  refine wp_region_lit ?_
  refine wE (ev_move rfl) F S rfl fun a F=>?_
  refine wE (ev_lenSh hhunks1 rfl tu53) F S rfl fun a F=>?_
  refine wE (ev_move rfl) F S rfl fun a F=>?_
  refine wpList_nil ?_
  refine then_n ?_
  refine wp_block ?_
  obtain ⟨r1, hr2, hm⟩ := bind_some hm
  have hmo1 := hm; clear hm
  refine wp_iter (σ := Int × (List ByteArray) × Int) (ρ := (List ByteArray) × Int) (m := fun s => textpatch_Raw.l1 hunks text s.1 s.2.1 s.2.2) (I := fun s a w => match s with | (x3, x4, x5) => ∃ (v4 : Value) (c3 : Hl) (g2 : Gh), Fr 37 a [(14, .i6 x3), (13, .i6 (hunks.length : Int)), (12, vhunks1), (9, v4), (1, vtext1), (2, .i6 x5), (3, .i6 high)] ∧ Le g g2 ∧ St g2 [c3] fr w ∧ OwnS g2 x4 v4 c3) hr2 ?_ ?_
  ·dsimp only
   replace S : St g [[]] fr w := S
   exact ⟨(nilS), [], g, F.sub ⟨rfl, rfl, rfl, rfl, rfl, rfl, rfl, trivial⟩, (Le.refl _), S, (OwnS.nil _)⟩
  ·clear F S; rintro ⟨x3, x4, x5⟩ a w x6 ⟨v4, c3, g2, F, l2, S, h4⟩ hx1 hfin1
   have hm : textpatch_Raw.l1 hunks text x3 x4 x5 = some x6 := hx1; clear hx1
   unfold textpatch_Raw.l1 at hm
   refine wp_seq ?_
   refine wp_region_lit ?_
   refine wE (ev_int rfl rfl (bo_lss _ _ _ _)) F S rfl fun a F=>?_
   refine wpList_nil ?_
   refine then_n ?_
   refine wp_seq ?_
   obtain ⟨hc1, hm⟩ | ⟨hc1, hm⟩ := ite_or hm
   ·refine wp_condT F rfl hc1 ?_
    refine wp_skip ?_
    refine then_n ?_
    refine wp_seq ?_
    refine wp_block ?_
    refine wp_seq ?_
    refine wp_region_lit ?_
    obtain ⟨y3, hy3, hm⟩ := bind_some hm
    obtain ⟨cs2, hr3, hp1⟩ := elemS (hhunks1.mono l2) hy3
    obtain ⟨v5, v6, rfl, h5, h6⟩ := rep_Hunk hr3
    refine wE (ev_idxS (hhunks1.mono l2) hy3 tu53 ts75 rfl rfl) F S rfl fun a F=>?_
    refine wE (ev_loadA tu75 rfl (cs := [.i6 y3.At, v5, v6]) ts75 rfl (ptr_mono (cks := [c3]) (fr := fr) hp1 (Le.refl _))) F S rfl fun a F=>?_
    refine wl_alloc (wn rfl) rfl tz75 (cs := [.i6 0, nilS, nilS]) rfl F S rfl rfl ?_; clear F a S; rintro b1 a w F S
    refine wl_storeC (wn rfl) rfl F S rfl rfl (vs := [.i6 y3.At, v5, v6]) rfl ts75 (one_cons rfl (one_cons h5.one (one_cons h6.one one_nil))) (k := 0) rfl (lb rfl) (c' := #[.i6 y3.At, v5, v6]) rfl rfl ?_; clear S; intro w S
    refine wpList_nil ?_
    refine then_n ?_
    refine wp_seq ?_
    refine wp_dv [10] mo S ?_; clear S; intro ok1 w S
    refine dv_et ok1 0 rfl (ev_move rfl) F rfl fun a F=>?_
    refine dv_et ok1 1 rfl (ev_move rfl) F rfl fun a F=>?_
    refine dv_et ok1 2 rfl (ev_move rfl) F rfl fun a F=>?_
    refine dv_et ok1 3 rfl (ev_fieldAddr' tu75 tf75_0 (z := 0) ts3 rfl ⟨_, rfl⟩ rfl) F rfl fun a F=>?_
    refine dv_ev ok1 4 rfl (ev_load1 tu3 rfl rfl (box_ptr (cells := [.i6 y3.At]) 0 rfl 0 rfl (lb rfl))) F S rfl fun a F=>?_
    obtain ⟨y4, hy4, hm⟩ := bind_some hm
    obtain ⟨v7, h7, he1⟩ := ev_cut (P := Tryd.prog) (n := 37) (e := [(22, .i6 y3.At), (21, bp b1 0), (20, .i6 x5), (19, vtext1), (18, v4), (11, bp b1 0), (17, .agg #[.i6 y3.At, v5, v6]), (16, (elemP vhunks1 x3 3)), (15, .bool (decide (x3 < (hunks.length : Int)))), (14, .i6 x3), (13, .i6 (hunks.length : Int)), (12, vhunks1), (9, v4), (1, vtext1), (2, .i6 x5), (3, .i6 high)]) (C := fun _ => True) (x := .tmp 19) (lo := some (.tmp 20)) (hi := some (.tmp 22)) (htext1.mono l2) hy4 tu22 ts9 rfl (bndV rfl) (bndV rfl)
    refine dv_et ok1 5 rfl he1 F rfl fun a F=>?_
    refine dv_et ok1 7 rfl (ev_fieldAddr' tu75 tf75_2 (z := 0) ts22 rfl ⟨_, rfl⟩ rfl) F rfl fun a F=>?_
    refine dv_ev ok1 8 rfl (ev_load1 tu22 rfl rfl (box_ptr (cells := [v6]) 0 rfl 2 rfl (lb rfl))) F S rfl fun a F=>?_
    refine dv_op ok1 6 rfl [(8, v6)] ?_
    obtain ⟨cs3, hk2, hr4⟩ := RepSl.reads h7
    obtain ⟨y5, hy5, hm⟩ := bind_some hm
    refine wl_append (wn rfl) rfl tu22 tu22 te9 (by decide) (by decide) F S rfl rfl (k := 1) rfl h4 hk2 rfl (hr4 _ _ S) hy5 rfl rfl ?_; clear F a S
    rintro v8 c4 a w h8 S F; replace S : St g2 [[bx b1 #[.i6 y3.At, v5, v6] 75], c4] fr w := S
    refine dv_nx ⟨yl_ev rfl rfl (ev_load1 tu22 rfl rfl (box_ptr (cells := [v6]) 0 rfl 2 rfl (lb rfl))) F S, trivial⟩ ?_
    refine dv_op ok1 9 rfl [] ?_
    obtain ⟨cs4, hk3, hr5⟩ := RepSl.reads h6
    obtain ⟨y6, hy6, hm⟩ := bind_some hm
    refine wl_append (wn rfl) rfl tu22 tu22 te9 (by decide) (by decide) F S rfl rfl (k := 1) rfl h8 hk3 rfl (hr5 _ _ S) hy6 rfl rfl ?_; clear F a S
    rintro v9 c5 a w h9 S F; replace S : St g2 [[bx b1 #[.i6 y3.At, v5, v6] 75], c5] fr w := S
    refine dv_nx trivial ?_
    refine dv_op ok1 10 rfl [] ?_
    refine wE (ev_assign rfl) F S rfl fun a F=>?_
    refine dv_nx trivial ?_
    refine dv_fin ok1 ?_
    refine then_n ?_
    refine wp_region_lit ?_
    refine wE (ev_loadA tu75 rfl (cs := [.i6 y3.At, v5, v6]) ts75 rfl (box_ptr (cells := [.i6 y3.At, v5, v6]) 0 rfl 0 rfl (lb rfl))) F S rfl fun a F=>?_
    obtain ⟨y7, hy7, hm⟩ := bind_some hm
    refine wl_call0 (wn rfl) rfl F rfl (textpatch_End_ok (fr := (fl [[bx b1 #[.i6 y3.At, v5, v6] 75], c5] fr)) y3 v5 h5 v6 h6 S hy7) rfl tc53 rfl rfl ?_; clear F a S
    rintro _ a w ⟨g3, l3, S, rfl⟩ F; replace S : St g3 [[bx b1 #[.i6 y3.At, v5, v6] 75], c5] fr w := S
    refine wE (ev_assign rfl) F S rfl fun a F=>?_
    refine wpList_nil ?_
    refine inb_n ?_
    refine then_n ?_
    refine wp_region_lit ?_
    obtain ⟨z1, hz1, hm⟩ := bind_some hm
    refine wE (ev_int rfl rfl (bo_add hz1)) F S rfl fun a F=>?_
    refine wE (ev_move rfl) F S rfl fun a F=>?_
    refine wpList_nil ?_
    refine then_n ?_
    obtain rfl := sinj hm
    refine ⟨_, rfl, ?_⟩
    dsimp only
    replace S : St g3 [c5] fr w := St.tail [c5] _ (S.frontC 1 rfl)
    exact ⟨v9, c5, g3, F.sub ⟨rfl, rfl, rfl, rfl, rfl, rfl, rfl, trivial⟩, (l2.trans l3), S, (h9.mono l3)⟩
   ·refine wp_condF F rfl hc1 ?_
    refine wp_exit ?_
    refine then_e ?_
    refine then_e ?_
    refine inb_x ?_
    refine then_n ?_
    obtain rfl := sinj hm
    obtain rfl := hfin1 _ rfl
    clear hm
    have hm : (textpatch_Raw.j1 text high x4 x5 : Option (List ByteArray)) = some _ := hmo1
    exact ⟨x4, x5, v4, c3, g2, F.sub ⟨rfl, rfl, rfl, rfl, trivial⟩, l2, S, h4, hm⟩
 ·clear F S hm; rintro a w ⟨x1, x2, v1, c1, g1, F, l1, S, h1, hm⟩
  refine wp_seq ?_
  refine wp_region_lit ?_
  refine wE (ev_move rfl) F S rfl fun a F=>?_
  refine wE (ev_move rfl) F S rfl fun a F=>?_
  refine wE (ev_move rfl) F S rfl fun a F=>?_
  refine wE (ev_move rfl) F S rfl fun a F=>?_
  obtain ⟨y1, hy1, hm⟩ := bind_some hm
  refine wl_cutS (wn rfl) rfl (htext1.mono l1) hy1 tu22 ts9 rfl (bndV rfl) (bndV rfl) F rfl rfl ?_; clear F a; rintro v2 h2 a F
  obtain ⟨cs1, hk1, hr1⟩ := RepSl.reads h2
  obtain ⟨y2, hy2, hm⟩ := bind_some hm
  refine wl_append (wn rfl) rfl tu22 tu22 te9 (by decide) (by decide) F S rfl rfl (k := 0) rfl h1 hk1 rfl (hr1 _ _ S) hy2 rfl rfl ?_; clear F a S
  rintro v3 c2 a w h3 S F; replace S : St g1 [c2] fr w := S
  refine wE (ev_assign rfl) F S rfl fun a F=>?_
  refine wpList_nil ?_
  refine then_n ?_
  refine wp_ret ?_
  obtain rfl := sinj hm
  refine post_r _ F rfl (ar_cons (resT rfl) ar_nil) ?_
  exact ⟨_, rfl, g1, v3, c2, l1, S, h3, rfl⟩

theorem slices_Equal_ok {g : Gh} {fr : Hl} {w : World} {r : Bool} (s1_ : (List ByteArray)) (vs1_1 : Value) (hs1_1 : RepSl g s1_ vs1_1) (s2_ : (List ByteArray)) (vs2_1 : Value) (hs2_1 : RepSl g s2_ vs2_1) (S : St g [] fr w) (hm : slices_Equal s1_ s2_ = some r) :
  Calls Tryd.prog 23 [vs1_1, vs2_1].toArray w (fun en w' => ∃ v, en = .returned v ∧ ∃ (g' : Gh), Le g g' ∧ St g' [] fr w' ∧ .bool r = v) := by
 unfold slices_Equal at hm
 refine calls_enter (fn := Tryd.f23) Tryd.func23 rfl Tryd.ntmps23 (lb rfl) ?_
 intro a F
 replace F : Fr 26 a [(0, vs1_1), (1, vs2_1)] := F
 refine wp_seq ?_
 refine wp_region_lit ?_
 refine wE (ev_assign rfl) F S rfl fun a F=>?_
 refine wpList_nil ?_
 refine then_n ?_
 refine wp_seq ?_
 refine wp_seq ?_
 refine wp_region_lit ?_
 refine wE (ev_move rfl) F S rfl fun a F=>?_
 refine wE (ev_lenSh hs1_1 rfl tu22) F S rfl fun a F=>?_
 refine wE (ev_move rfl) F S rfl fun a F=>?_
 refine wE (ev_lenSh hs2_1 rfl tu22) F S rfl fun a F=>?_
 refine wE (ev_int rfl rfl (bo_neq _ _ _ _)) F S rfl fun a F=>?_
 refine wpList_nil ?_
 refine then_n ?_
 obtain ⟨hc1, hm⟩ | ⟨hc1, hm⟩ := ite_or hm
 ·refine wp_condT F rfl hc1 ?_
  refine wp_seq ?_
  refine wp_region_lit ?_
  refine wE (ev_assign rfl) F S rfl fun a F=>?_
  refine wpList_nil ?_
  refine then_n ?_
  refine wp_ret ?_
  refine then_r ?_
  obtain rfl := sinj hm
  refine post_r _ F rfl (ar_cons (resT rfl) ar_nil) ?_
  exact ⟨_, rfl, g, (Le.refl _), S, rfl⟩
 ·refine wp_condF F rfl hc1 ?_
  refine wp_skip ?_
  refine then_n ?_
  refine wp_cut (fun a w => ∃ (g1 : Gh), Fr 26 a [] ∧ Le g g1 ∧ St g1 [] fr w ∧ slices_Equal.j1 = some r) ?_ ?_
  ·refine wp_seq ?_
   refine wp_region_lit ?_
   refine wE (ev_move rfl) F S rfl fun a F=>?_
   refine wE (ev_lenSh hs1_1 rfl tu22) F S rfl fun a F=>?_
   refine wE (ev_move rfl) F S rfl fun a F=>?_
   refine wpList_nil ?_
   refine then_n ?_
   refine wp_block ?_
   obtain ⟨r1, hr1, hm⟩ := bind_some hm
   have hmo1 := hm; clear hm
   refine wp_iter (σ := Int) (ρ := Bool ⊕ Unit) (m := fun s => slices_Equal.l1 s1_ s2_ s) (I := fun x1 a w => ∃ (g2 : Gh), Fr 26 a [(13, .i6 x1), (12, .i6 (s1_.length : Int)), (0, vs1_1), (1, vs2_1)] ∧ Le g g2 ∧ St g2 [] fr w) hr1 ?_ ?_
   ·exact ⟨g, F.sub ⟨rfl, rfl, rfl, rfl, trivial⟩, (Le.refl _), S⟩
   ·clear F S; rintro x1 a w x2 ⟨g2, F, l2, S⟩ hx1 hfin1
    have hm : slices_Equal.l1 s1_ s2_ x1 = some x2 := hx1; clear hx1
    unfold slices_Equal.l1 at hm
    refine wp_seq ?_
    refine wp_region_lit ?_
    refine wE (ev_int rfl rfl (bo_lss _ _ _ _)) F S rfl fun a F=>?_
    refine wpList_nil ?_
    refine then_n ?_
    refine wp_seq ?_
    obtain ⟨hc2, hm⟩ | ⟨hc2, hm⟩ := ite_or hm
    ·refine wp_condT F rfl hc2 ?_
     refine wp_skip ?_
     refine then_n ?_
     refine wp_seq ?_
     refine wp_block ?_
     refine wp_seq ?_
     refine wp_region_lit ?_
     refine wE (ev_move rfl) F S rfl fun a F=>?_
     refine wE (ev_assign rfl) F S rfl fun a F=>?_
     refine wpList_nil ?_
     refine then_n ?_
     refine wp_seq ?_
     refine wp_quiet mo (by kernel_rfl) S ?_
     refine wq_ev (wn rfl) (ev_move rfl) F rfl rfl ?_; clear F a; intro a F
     refine wq_ev (wn rfl) (ev_move rfl) F rfl rfl ?_; clear F a; intro a F
     obtain ⟨y1, hy1, hm⟩ := bind_some hm
     obtain ⟨cs1, hr2, hp1⟩ := elemS (hs1_1.mono l2) hy1
     obtain rfl := rep_str hr2
     refine wq_ev (wn rfl) (ev_idxS (hs1_1.mono l2) hy1 tu22 ts9 rfl rfl) F rfl rfl ?_; clear F a; intro a F
     refine wq_ev (wn rfl) (ev_load1 tu9 rfl rfl (ptr_mono (cks := []) (fr := fr) hp1 (Le.refl _))) F rfl rfl ?_; clear F a; intro a F
     refine wq_ev (wn rfl) (ev_move rfl) F rfl rfl ?_; clear F a; intro a F
     refine wq_ev (wn rfl) (ev_move rfl) F rfl rfl ?_; clear F a; intro a F
     obtain ⟨y2, hy2, hm⟩ := bind_some hm
     obtain ⟨cs2, hr3, hp2⟩ := elemS (hs2_1.mono l2) hy2
     obtain rfl := rep_str hr3
     refine wq_ev (wn rfl) (ev_idxS (hs2_1.mono l2) hy2 tu22 ts9 rfl rfl) F rfl rfl ?_; clear F a; intro a F
     refine wq_ev (wn rfl) (ev_load1 tu9 rfl rfl (ptr_mono (cks := []) (fr := fr) hp2 (Le.refl _))) F rfl rfl ?_; clear F a; intro a F
     refine wq_ev (wn rfl) (ev_str rfl rfl (bs_neq _ _ _)) F rfl rfl ?_; clear F a; intro a F
     refine wq_nil ?_; clear S; intro w S
     refine then_n ?_
     obtain ⟨hc3, hm⟩ | ⟨hc3, hm⟩ := ite_or hm
     ·refine wp_condT F rfl hc3 ?_
      refine wp_seq ?_
      refine wp_region_lit ?_
      refine wE (ev_assign rfl) F S rfl fun a F=>?_
      refine wpList_nil ?_
      refine then_n ?_
      refine wp_ret ?_
      refine inb_r ?_
      refine then_r ?_
      refine then_r ?_
      refine inb_r ?_
      refine then_r ?_
      obtain rfl := sinj hm
      obtain rfl := hfin1 _ rfl
      clear hm
      have hm : (some false : Option Bool) = some _ := hmo1
      obtain rfl := sinj hm
      refine post_r _ F rfl (ar_cons (resT rfl) ar_nil) ?_
      exact ⟨_, rfl, g2, l2, S, rfl⟩
     ·refine wp_condF F rfl hc3 ?_
      refine wp_skip ?_
      refine inb_n ?_
      refine then_n ?_
      refine wp_region_lit ?_
      obtain ⟨z1, hz1, hm⟩ := bind_some hm
      refine wE (ev_int rfl rfl (bo_add hz1)) F S rfl fun a F=>?_
      refine wE (ev_move rfl) F S rfl fun a F=>?_
      refine wpList_nil ?_
      refine then_n ?_
      obtain rfl := sinj hm
      refine ⟨_, rfl, ?_⟩
      exact ⟨g2, F.sub ⟨rfl, rfl, rfl, rfl, trivial⟩, l2, S⟩
    ·refine wp_condF F rfl hc2 ?_
     refine wp_exit ?_
     refine then_e ?_
     refine then_e ?_
     refine inb_x ?_
     refine then_n ?_
     obtain rfl := sinj hm
     obtain rfl := hfin1 _ rfl
     clear hm
     have hm : (slices_Equal.j1 : Option Bool) = some _ := hmo1
     exact ⟨g2, F.sub trivial, l2, S, hm⟩
  ·clear F S hm; rintro a w ⟨g1, F, l1, S, hm⟩
   refine wp_seq ?_
   refine wp_region_lit ?_
   refine wE (ev_assign rfl) F S rfl fun a F=>?_
   refine wpList_nil ?_
   refine then_n ?_
   refine wp_ret ?_
   obtain rfl := sinj hm
   refine post_r _ F rfl (ar_cons (resT rfl) ar_nil) ?_
   exact ⟨_, rfl, g1, l1, S, rfl⟩

theorem slices_Clone_ok {g : Gh} {fr : Hl} {w : World} {r : (List ByteArray)} (s_ : (List ByteArray)) (vs_1 : Value) (hs_1 : RepSl g s_ vs_1) (S : St g [] fr w) (hm : slices_Clone s_ = some r) :
  Calls Tryd.prog 24 [vs_1].toArray w (fun en w' => ∃ v, en = .returned v ∧ ∃ (g' : Gh) (v1 : Value) (c1 : Hl), Le g g' ∧ St g' [c1] fr w' ∧ OwnS g' r v1 c1 ∧ v1 = v) := by
 unfold slices_Clone at hm
 refine calls_enter (fn := Tryd.f24) Tryd.func24 rfl Tryd.ntmps24 (lb rfl) ?_
 intro a F
 replace F : Fr 8 a [(0, vs_1)] := F
 refine wp_seq ?_
 refine wp_region_lit ?_
 refine wE (ev_assign rfl) F S rfl fun a F=>?_
 refine wpList_nil ?_
 refine then_n ?_
 refine wp_seq ?_
 refine wp_seq ?_
 refine wp_region_lit ?_
 refine wE (ev_move rfl) F S rfl fun a F=>?_
 obtain ⟨nb1, hnb1, he1⟩ := ev_nileqlS (P := Tryd.prog) (n := 8) (e := [(3, vs_1), (2, nilS), (0, vs_1)]) (C := fun w => St g [] fr w) (x := .tmp 3) (y := .const (nilS)) hs_1 tu22 rfl rfl
 refine wE he1 F S rfl fun a F=>?_
 refine wpList_nil ?_
 refine then_n ?_
 obtain ⟨hc1, hm⟩ | ⟨hc1, hm⟩ := nil_or hnb1 hm
 ·refine wp_condT F rfl hc1 ?_
  refine wp_seq ?_
  refine wp_region_lit ?_
  refine wE (ev_assign rfl) F S rfl fun a F=>?_
  refine wpList_nil ?_
  refine then_n ?_
  refine wp_ret ?_
  refine then_r ?_
  obtain rfl := sinj hm
  replace S : St g [[]] fr w := S
  refine post_r _ F rfl (ar_cons (resT rfl) ar_nil) ?_
  exact ⟨_, rfl, g, (nilS), [], (Le.refl _), S, (OwnS.nil _), rfl⟩
 ·refine wp_condF F rfl hc1 ?_
  refine wp_skip ?_
  refine then_n ?_
  refine wp_seq ?_
  refine wp_region_lit ?_
  refine wl_lit (l := ([] : List ByteArray)) (vs := []) (parts := []) (wn rfl) rfl rfl rfl tu22 te9 sz_nil rfl (Cat.nil _) coa_nil rfl F S rfl rfl ?_; clear F a S
  rintro v1 c1 a w h1 F S
  refine wE (ev_move rfl) F S rfl fun a F=>?_
  obtain ⟨cs1, hk1, hr1⟩ := RepSl.reads hs_1
  obtain ⟨y1, hy1, hm⟩ := bind_some hm
  refine wl_append (wn rfl) rfl tu22 tu22 te9 (by decide) (by decide) F S rfl rfl (k := 0) rfl h1 hk1 rfl (hr1 _ _ S) hy1 rfl rfl ?_; clear F a S
  rintro v2 c2 a w h2 S F; replace S : St g [c2] fr w := S
  refine wE (ev_assign rfl) F S rfl fun a F=>?_
  refine wpList_nil ?_
  refine then_n ?_
  refine wp_ret ?_
  obtain rfl := sinj hm
  refine post_r _ F rfl (ar_cons (resT rfl) ar_nil) ?_
  exact ⟨_, rfl, g, v2, c2, (Le.refl _), S, h2, rfl⟩

theorem merge3_Merge_ok {g : Gh} {fr : Hl} {w : World} {r : (List Chunk) × Fault} (base : (List ByteArray)) (vbase1 : Value) (hbase1 : RepSl g base vbase1) (left : (List ByteArray)) (vleft1 : Value) (hleft1 : RepSl g left vleft1) (right : (List ByteArray)) (vright1 : Value) (hright1 : RepSl g right vright1) (S : St g [] fr w) (hm : merge3_Merge base left right = some r) :
  Calls Tryd.prog 6 [vbase1, vleft1, vright1].toArray w (fun en w' => ∃ v, en = .returned v ∧ ∃ (g' : Gh) (v1 : Value), Le g g' ∧ St g' [] fr w' ∧ RepSl g' r.1 v1 ∧ .tuple #[v1, .agg #[.i6 r.2.Code, .i6 r.2.Index]] = v) := by
 unfold merge3_Merge at hm
 refine calls_enter (fn := Tryd.f6) Tryd.func6 rfl Tryd.ntmps6 (lb rfl) ?_
 intro a F
 replace F : Fr 123 a [(0, vbase1), (1, vleft1), (2, vright1)] := F
 refine wp_seq ?_
 refine wp_region_lit ?_
 refine wE (ev_assign rfl) F S rfl fun a F=>?_
 refine wl_alloc (wn rfl) rfl tz25 (cs := [.i6 0, .i6 0]) rfl F S rfl rfl ?_; clear F a S; rintro b1 a w F S
 refine wpList_nil ?_
 refine then_n ?_
 refine wp_seq ?_
 refine wp_seq ?_
 refine wp_region_lit ?_
 refine wE (ev_move rfl) F S rfl fun a F=>?_
 refine wE (ev_move rfl) F S rfl fun a F=>?_
 obtain ⟨y1, hy1, hm⟩ := bind_some hm
 refine wl_call0 (wn rfl) rfl F rfl (lines_Both_ok (fr := (fl [[bx b1 #[.i6 0, .i6 0] 25]] fr)) base vbase1 hbase1 left vleft1 hleft1 S hy1) rfl tc16 rfl rfl ?_; clear F a S
 rintro _ a w ⟨g1, l1, S, rfl⟩ F; replace S : St g1 [[bx b1 #[.i6 0, .i6 0] 25]] fr w := S
 refine wl_alloc (wn rfl) rfl tz25 (cs := [.i6 0, .i6 0]) rfl F S rfl rfl ?_; clear F a S; rintro b2 a w F S
 refine wl_storeC (wn rfl) rfl F S rfl rfl (vs := [.i6 y1.Code, .i6 y1.Index]) rfl ts25 (one_cons rfl (one_cons rfl one_nil)) (k := 0) rfl (lb rfl) (c' := #[.i6 y1.Code, .i6 y1.Index]) rfl rfl ?_; clear S; intro w S
 refine wpList_nil ?_
 refine then_n ?_
 refine wp_seq ?_
 refine wp_region_lit ?_
 refine wE (ev_loadA tu25 rfl (cs := [.i6 y1.Code, .i6 y1.Index]) ts25 rfl (box_ptr (cells := [.i6 y1.Code, .i6 y1.Index]) 0 rfl 0 rfl (lb rfl))) F S rfl fun a F=>?_
 refine wE (ev_build (parts := []) (vs := []) rfl (fun w => tb25_  w)) F S rfl fun a F=>?_
 refine wE (ev_neS tu25 tqa25 tqb25 tqc25 (xs := [.i6 y1.Code, .i6 y1.Index]) (ys := [.i6 0, .i6 0]) rfl rfl ⟨_, _, rfl, by decide, ⟨_, _, rfl, rfl, leaf_int tu3⟩, ⟨_, _, rfl, by decide, ⟨_, _, rfl, rfl, leaf_int tu3⟩, rfl⟩⟩) F S rfl fun a F=>?_
 refine wpList_nil ?_
 refine then_n ?_
 obtain ⟨hc1, hm⟩ | ⟨hc1, hm⟩ := ite_or hm
 ·refine wp_condT F rfl hc1 ?_
  refine wp_seq ?_
  refine wp_dv [] mo S ?_; clear S; intro ok1 w S
  refine dv_ev ok1 0 rfl (ev_loadA tu25 rfl (cs := [.i6 y1.Code, .i6 y1.Index]) ts25 rfl (box_ptr (cells := [.i6 y1.Code, .i6 y1.Index]) 0 rfl 0 rfl (lb rfl))) F S rfl fun a F=>?_
  refine dv_et ok1 1 rfl (ev_assign rfl) F rfl fun a F=>?_
  refine dv_op ok1 2 rfl [] ?_
  refine wl_storeC (wn rfl) rfl F S rfl rfl (vs := [.i6 y1.Code, .i6 y1.Index]) rfl ts25 (one_cons rfl (one_cons rfl one_nil)) (k := 1) rfl (lb rfl) (c' := #[.i6 y1.Code, .i6 y1.Index]) rfl rfl ?_; clear S; intro w S
  refine dv_nx trivial ?_
  refine dv_fin ok1 ?_
  refine then_n ?_
  refine wp_ret ?_
  refine then_r ?_
  obtain rfl := sinj hm
  refine post_r _ F rfl (ar_cons (resT rfl) (ar_cons (resA rfl tu25 rfl (box_ptr (cells := [.i6 y1.Code, .i6 y1.Index]) 1 rfl 0 rfl (lb rfl) w S) ts25) ar_nil)) ?_
  replace S : St g1 [] fr w := St.tail [] _ S
  exact ⟨_, rfl, g1, (nilS), l1, S, (RepSl.nil _), rfl⟩
 ·refine wp_condF F rfl hc1 ?_
  refine wp_skip ?_
  refine then_n ?_
  refine wp_seq ?_
  refine wp_seq ?_
  refine wp_region_lit ?_
  refine wE (ev_move rfl) F S rfl fun a F=>?_
  obtain ⟨y2, hy2, hm⟩ := bind_some hm
  refine wl_call0 (wn rfl) rfl F rfl (lines_Second_ok (fr := (fl [[bx b2 #[.i6 y1.Code, .i6 y1.Index] 25], [bx b1 #[.i6 0, .i6 0] 25]] fr)) right vright1 (hright1.mono l1) (-3) S hy2) rfl tc17 rfl rfl ?_; clear F a S
  rintro _ a w ⟨g2, l2, S, rfl⟩ F; replace S : St g2 [[bx b2 #[.i6 y1.Code, .i6 y1.Index] 25], [bx b1 #[.i6 0, .i6 0] 25]] fr w := S
  refine wl_alloc (wn rfl) rfl tz25 (cs := [.i6 0, .i6 0]) rfl F S rfl rfl ?_; clear F a S; rintro b3 a w F S
  refine wl_storeC (wn rfl) rfl F S rfl rfl (vs := [.i6 y2.Code, .i6 y2.Index]) rfl ts25 (one_cons rfl (one_cons rfl one_nil)) (k := 0) rfl (lb rfl) (c' := #[.i6 y2.Code, .i6 y2.Index]) rfl rfl ?_; clear S; intro w S
  refine wpList_nil ?_
  refine then_n ?_
  refine wp_seq ?_
  refine wp_region_lit ?_
  refine wE (ev_loadA tu25 rfl (cs := [.i6 y2.Code, .i6 y2.Index]) ts25 rfl (box_ptr (cells := [.i6 y2.Code, .i6 y2.Index]) 0 rfl 0 rfl (lb rfl))) F S rfl fun a F=>?_
  refine wE (ev_build (parts := []) (vs := []) rfl (fun w => tb25_  w)) F S rfl fun a F=>?_
  refine wE (ev_neS tu25 tqa25 tqb25 tqc25 (xs := [.i6 y2.Code, .i6 y2.Index]) (ys := [.i6 0, .i6 0]) rfl rfl ⟨_, _, rfl, by decide, ⟨_, _, rfl, rfl, leaf_int tu3⟩, ⟨_, _, rfl, by decide, ⟨_, _, rfl, rfl, leaf_int tu3⟩, rfl⟩⟩) F S rfl fun a F=>?_
  refine wpList_nil ?_
  refine then_n ?_
  obtain ⟨hc2, hm⟩ | ⟨hc2, hm⟩ := ite_or hm
  ·refine wp_condT F rfl hc2 ?_
   refine wp_seq ?_
   refine wp_dv [] mo S ?_; clear S; intro ok2 w S
   refine dv_ev ok2 0 rfl (ev_loadA tu25 rfl (cs := [.i6 y2.Code, .i6 y2.Index]) ts25 rfl (box_ptr (cells := [.i6 y2.Code, .i6 y2.Index]) 0 rfl 0 rfl (lb rfl))) F S rfl fun a F=>?_
   refine dv_et ok2 1 rfl (ev_assign rfl) F rfl fun a F=>?_
   refine dv_op ok2 2 rfl [] ?_
   refine wl_storeC (wn rfl) rfl F S rfl rfl (vs := [.i6 y2.Code, .i6 y2.Index]) rfl ts25 (one_cons rfl (one_cons rfl one_nil)) (k := 2) rfl (lb rfl) (c' := #[.i6 y2.Code, .i6 y2.Index]) rfl rfl ?_; clear S; intro w S
   refine dv_nx trivial ?_
   refine dv_fin ok2 ?_
   refine then_n ?_
   refine wp_ret ?_
   refine then_r ?_
   obtain rfl := sinj hm
   refine post_r _ F rfl (ar_cons (resT rfl) (ar_cons (resA rfl tu25 rfl (box_ptr (cells := [.i6 y2.Code, .i6 y2.Index]) 2 rfl 0 rfl (lb rfl) w S) ts25) ar_nil)) ?_
   replace S : St g2 [] fr w := St.tail [] _ S
   exact ⟨_, rfl, g2, (nilS), (l1.trans l2), S, (RepSl.nil _), rfl⟩
  ·refine wp_condF F rfl hc2 ?_
   refine wp_skip ?_
   refine then_n ?_
   refine wp_seq ?_
   refine wp_region_lit ?_
   refine wE (ev_move rfl) F S rfl fun a F=>?_
   refine wE (ev_move rfl) F S rfl fun a F=>?_
   obtain ⟨y3, hy3, hm⟩ := bind_some hm
   refine wl_call0 (wn rfl) rfl F rfl (diff_Script_ok (fr := (fl [[bx b3 #[.i6 y2.Code, .i6 y2.Index] 25], [bx b2 #[.i6 y1.Code, .i6 y1.Index] 25], [bx b1 #[.i6 0, .i6 0] 25]] fr)) base vbase1 (hbase1.mono (l1.trans l2)) left vleft1 (hleft1.mono (l1.trans l2)) S hy3) rfl tc18 rfl rfl ?_; clear F a S
   rintro _ a w ⟨g3, v1, l3, S, h1, rfl⟩ F; replace S : St g3 [[bx b3 #[.i6 y2.Code, .i6 y2.Index] 25], [bx b2 #[.i6 y1.Code, .i6 y1.Index] 25], [bx b1 #[.i6 0, .i6 0] 25]] fr w := S
   refine wE (ev_move rfl) F S rfl fun a F=>?_
   refine wE (ev_extract rfl rfl) F S rfl fun a F=>?_
   refine wE (ev_extract rfl rfl) F S rfl fun a F=>?_
   refine wl_alloc (wn rfl) rfl tz55 (cs := [nilS]) rfl F S rfl rfl ?_; clear F a S; rintro b4 a w F S
   refine wl_alloc (wn rfl) rfl tz25 (cs := [.i6 0, .i6 0]) rfl F S rfl rfl ?_; clear F a S; rintro b5 a w F S
   refine wl_storeC (wn rfl) rfl F S rfl rfl (vs := [v1]) rfl ts55 (one_cons h1.one one_nil) (k := 1) rfl (lb rfl) (c' := #[v1]) rfl rfl ?_; clear S; intro w S
   refine wl_storeC (wn rfl) rfl F S rfl rfl (vs := [.i6 y3.2.Code, .i6 y3.2.Index]) rfl ts25 (one_cons rfl (one_cons rfl one_nil)) (k := 0) rfl (lb rfl) (c' := #[.i6 y3.2.Code, .i6 y3.2.Index]) rfl rfl ?_; clear S; intro w S
   refine wpList_nil ?_
   refine then_n ?_
   refine wp_seq ?_
   refine wp_region_lit ?_
   refine wE (ev_move rfl) F S rfl fun a F=>?_
   refine wE (ev_move rfl) F S rfl fun a F=>?_
   obtain ⟨y4, hy4, hm⟩ := bind_some hm
   refine wl_call0 (wn rfl) rfl F rfl (diff_Script_ok (fr := (fl [[bx b5 #[.i6 y3.2.Code, .i6 y3.2.Index] 25], [bx b4 #[v1] 55], [bx b3 #[.i6 y2.Code, .i6 y2.Index] 25], [bx b2 #[.i6 y1.Code, .i6 y1.Index] 25], [bx b1 #[.i6 0, .i6 0] 25]] fr)) base vbase1 (hbase1.mono ((l1.trans l2).trans l3)) right vright1 (hright1.mono ((l1.trans l2).trans l3)) S hy4) rfl tc18 rfl rfl ?_; clear F a S
   rintro _ a w ⟨g4, v2, l4, S, h2, rfl⟩ F; replace S : St g4 [[bx b5 #[.i6 y3.2.Code, .i6 y3.2.Index] 25], [bx b4 #[v1] 55], [bx b3 #[.i6 y2.Code, .i6 y2.Index] 25], [bx b2 #[.i6 y1.Code, .i6 y1.Index] 25], [bx b1 #[.i6 0, .i6 0] 25]] fr w := S
   refine wE (ev_move rfl) F S rfl fun a F=>?_
   refine wE (ev_extract rfl rfl) F S rfl fun a F=>?_
   refine wE (ev_extract rfl rfl) F S rfl fun a F=>?_
   refine wl_alloc (wn rfl) rfl tz55 (cs := [nilS]) rfl F S rfl rfl ?_; clear F a S; rintro b6 a w F S
   refine wl_alloc (wn rfl) rfl tz25 (cs := [.i6 0, .i6 0]) rfl F S rfl rfl ?_; clear F a S; rintro b7 a w F S
   refine wl_storeC (wn rfl) rfl F S rfl rfl (vs := [v2]) rfl ts55 (one_cons h2.one one_nil) (k := 1) rfl (lb rfl) (c' := #[v2]) rfl rfl ?_; clear S; intro w S
   refine wl_storeC (wn rfl) rfl F S rfl rfl (vs := [.i6 y4.2.Code, .i6 y4.2.Index]) rfl ts25 (one_cons rfl (one_cons rfl one_nil)) (k := 0) rfl (lb rfl) (c' := #[.i6 y4.2.Code, .i6 y4.2.Index]) rfl rfl ?_; clear S; intro w S
   refine wpList_nil ?_
   refine then_n ?_
   refine wp_seq ?_
   refine wp_region_lit ?_
   refine wl_alloc (wn rfl) rfl tz59 (cs := [nilS]) rfl F S rfl rfl ?_; clear F a S; rintro b8 a w F S
   refine wpList_nil ?_
   refine then_n ?_
   refine wp_seq ?_
   refine wp_region_lit ?_
   refine wE (ev_assign rfl) F S rfl fun a F=>?_
   refine wpList_nil ?_
   refine then_n ?_
   refine wp_cut (fun a w => ∃ (x1 : Int) (x2 : List Chunk) (v3 : Value) (c1 : Hl) (g5 : Gh), Fr 123 a [(15, .i6 x1), (14, bp b8 0), (7, bp b1 0), (0, vbase1)] ∧ Le g4 g5 ∧ St g5 [[bx b8 #[v3] 59], [bx b1 #[.i6 0, .i6 0] 25], c1] fr w ∧ OwnN g5 x2 v3 c1 ∧ merge3_Merge.j1 base x1 x2 = some r) ?_ ?_
   ·refine wp_seq ?_
    refine wp_region_lit ?_
    refine wE (ev_loadA tu55 rfl (cs := [v1]) ts55 rfl (box_ptr (cells := [v1]) 4 rfl 0 rfl (lb rfl))) F S rfl fun a F=>?_
    refine wE (ev_loadA tu55 rfl (cs := [v2]) ts55 rfl (box_ptr (cells := [v2]) 2 rfl 0 rfl (lb rfl))) F S rfl fun a F=>?_
    obtain ⟨y7, hy7, hm⟩ := bind_some hm
    refine wl_call0 (wn rfl) rfl F rfl (merge3_regions_ok (fr := (fl [[bx b8 #[nilS] 59], [bx b7 #[.i6 y4.2.Code, .i6 y4.2.Index] 25], [bx b6 #[v2] 55], [bx b5 #[.i6 y3.2.Code, .i6 y3.2.Index] 25], [bx b4 #[v1] 55], [bx b3 #[.i6 y2.Code, .i6 y2.Index] 25], [bx b2 #[.i6 y1.Code, .i6 y1.Index] 25], [bx b1 #[.i6 0, .i6 0] 25]] fr)) y3.1 v1 (h1.mono l4) y4.1 v2 h2 S hy7) rfl tc19 rfl rfl ?_; clear F a S
    rintro _ a w ⟨g8, v6, c3, l8, S, h7, rfl⟩ F; replace S : St g8 [c3, [bx b8 #[nilS] 59], [bx b7 #[.i6 y4.2.Code, .i6 y4.2.Index] 25], [bx b6 #[v2] 55], [bx b5 #[.i6 y3.2.Code, .i6 y3.2.Index] 25], [bx b4 #[v1] 55], [bx b3 #[.i6 y2.Code, .i6 y2.Index] 25], [bx b2 #[.i6 y1.Code, .i6 y1.Index] 25], [bx b1 #[.i6 0, .i6 0] 25]] fr w := S
    refine wE (ev_lenOw h7 rfl tu60) F S rfl fun a F=>?_
    refine wE (ev_move rfl) F S rfl fun a F=>?_
    refine wpList_nil ?_
    replace F := F.sub (e' := [(51, .i6 0), (50, .i6 (y7.length : Int)), (49, v6), (15, .i6 0), (14, bp b8 0), (12, bp b6 0), (10, bp b4 0), (7, bp b1 0), (0, vbase1)]) ⟨rfl, rfl, rfl, rfl, rfl, rfl, rfl, rfl, rfl, trivial⟩
    refine then_n ?_
    refine wp_block ?_
    obtain ⟨r1, hr1, hm⟩ := bind_some hm
    have hmo1 := hm; clear hm
    refine wp_iter (σ := Int × Int × (List Chunk)) (ρ := Int × (List Chunk)) (m := fun s => merge3_Merge.l1 base y3 y4 y7 s.1 s.2.1 s.2.2) (I := fun s a w => match s with | (x3, x4, x5) => ∃ (v7 : Value) (c4 : Hl) (g9 : Gh), Fr 123 a [(51, .i6 x3), (50, .i6 (y7.length : Int)), (49, v6), (15, .i6 x4), (14, bp b8 0), (12, bp b6 0), (10, bp b4 0), (7, bp b1 0), (0, vbase1)] ∧ Le g8 g9 ∧ St g9 [c3, [bx b8 #[v7] 59], [bx b6 #[v2] 55], [bx b4 #[v1] 55], [bx b1 #[.i6 0, .i6 0] 25], c4] fr w ∧ OwnN g9 x5 v7 c4) hr1 ?_ ?_
    ·dsimp only
     replace S : St g8 [[], c3, [bx b8 #[nilS] 59], [bx b7 #[.i6 y4.2.Code, .i6 y4.2.Index] 25], [bx b6 #[v2] 55], [bx b5 #[.i6 y3.2.Code, .i6 y3.2.Index] 25], [bx b4 #[v1] 55], [bx b3 #[.i6 y2.Code, .i6 y2.Index] 25], [bx b2 #[.i6 y1.Code, .i6 y1.Index] 25], [bx b1 #[.i6 0, .i6 0] 25]] fr w := S
     replace S : St g8 [c3, [bx b8 #[nilS] 59], [bx b6 #[v2] 55], [bx b4 #[v1] 55], [bx b1 #[.i6 0, .i6 0] 25], []] fr w := St.tail [c3, [bx b8 #[nilS] 59], [bx b6 #[v2] 55], [bx b4 #[v1] 55], [bx b1 #[.i6 0, .i6 0] 25], []] _ ((((((S.frontC 0 rfl).frontC 10 rfl).frontC 8 rfl).frontC 7 rfl).frontC 6 rfl).frontC 6 rfl)
     exact ⟨(nilS), [], g8, F.sub ⟨rfl, rfl, rfl, rfl, rfl, rfl, rfl, rfl, rfl, trivial⟩, (Le.refl _), S, (OwnN.nil _)⟩
    ·clear F S; rintro ⟨x3, x4, x5⟩ a w x6 ⟨v7, c4, g9, F, l9, S, h8⟩ hx1 hfin1
     have hm : merge3_Merge.l1 base y3 y4 y7 x3 x4 x5 = some x6 := hx1; clear hx1
     unfold merge3_Merge.l1 at hm
     refine wp_seq ?_
     refine wp_region_lit ?_
     refine wE (ev_int rfl rfl (bo_lss _ _ _ _)) F S rfl fun a F=>?_
     refine wpList_nil ?_
     refine then_n ?_
     refine wp_seq ?_
     obtain ⟨hc3, hm⟩ | ⟨hc3, hm⟩ := ite_or hm
     ·refine wp_condT F rfl hc3 ?_
      refine wp_skip ?_
      refine then_n ?_
      refine wp_cut (fun a w => ∃ (x7 : Int) (x8 : List Chunk) (v8 : Value) (c5 : Hl) (g10 : Gh), Fr 123 a [(15, .i6 x7), (51, .i6 x3), (50, .i6 (y7.length : Int)), (49, v6), (14, bp b8 0), (12, bp b6 0), (10, bp b4 0), (7, bp b1 0), (0, vbase1)] ∧ Le g9 g10 ∧ St g10 [c3, [bx b8 #[v8] 59], [bx b6 #[v2] 55], [bx b4 #[v1] 55], [bx b1 #[.i6 0, .i6 0] 25], c5] fr w ∧ OwnN g10 x8 v8 c5 ∧ merge3_Merge.j2 x3 x7 x8 = some x6) ?_ ?_
      ·refine wp_block ?_
       refine wp_seq ?_
       refine wp_region_lit ?_
       obtain ⟨y8, hy8, hm⟩ := bind_some hm
       refine wE (ev_idxO (h7.mono l9) hy8 tu60 ts63 rfl rfl) F S rfl fun a F=>?_
       obtain ⟨cs1, hr2, hq1⟩ := elemO (h7.mono l9) hy8
       obtain ⟨v9, rfl, h10⟩ := rep_RangeX_commute hr2
       refine wE (ev_loadA tu63 rfl (cs := [.i6 y8.Low, .i6 y8.High, v9]) ts63 rfl (hq1 _ _ 0 rfl)) F S rfl fun a F=>?_
       refine wl_alloc (wn rfl) rfl tz63 (cs := [.i6 0, .i6 0, (.i6 0)]) rfl F S rfl rfl ?_; clear F a S; rintro b9 a w F S
       refine wl_storeC (wn rfl) rfl F S rfl rfl (vs := [.i6 y8.Low, .i6 y8.High, v9]) rfl ts63 (one_cons rfl (one_cons rfl (one_cons h10.one one_nil))) (k := 0) rfl (lb rfl) (c' := #[.i6 y8.Low, .i6 y8.High, v9]) rfl rfl ?_; clear S; intro w S
       refine wpList_nil ?_
       refine then_n ?_
       refine wp_seq ?_
       refine wp_region_lit ?_
       refine wE (ev_move rfl) F S rfl fun a F=>?_
       refine wE (ev_move rfl) F S rfl fun a F=>?_
       refine wE (ev_fieldAddr' tu63 tf63_0 (z := 0) ts3 rfl ⟨_, rfl⟩ rfl) F S rfl fun a F=>?_
       refine wE (ev_load1 tu3 rfl rfl (box_ptr (cells := [.i6 y8.Low]) 0 rfl 0 rfl (lb rfl))) F S rfl fun a F=>?_
       obtain ⟨y9, hy9, hm⟩ := bind_some hm
       refine wl_cutS (wn rfl) rfl (hbase1.mono (((((l1.trans l2).trans l3).trans l4).trans l8).trans l9)) hy9 tu22 ts9 rfl (bndV rfl) (bndV rfl) F rfl rfl ?_; clear F a; rintro v10 h11 a F
       replace S : St g9 [[bx b8 #[v7] 59], c4, [bx b9 #[.i6 y8.Low, .i6 y8.High, v9] 63], c3, [bx b6 #[v2] 55], [bx b4 #[v1] 55], [bx b1 #[.i6 0, .i6 0] 25]] fr w := (((((((S.frontC 5 rfl).frontC 5 rfl).frontC 5 rfl).frontC 4 rfl).frontC 4 rfl).frontC 11 rfl).frontC 8 rfl)
       obtain ⟨y10, hy10, hm⟩ := bind_some hm
       refine wl_call0 (wn rfl) rfl F rfl (merge3_merger__plain_ok (fr := (fl [[bx b9 #[.i6 y8.Low, .i6 y8.High, v9] 63], c3, [bx b6 #[v2] 55], [bx b4 #[v1] 55], [bx b1 #[.i6 0, .i6 0] 25]] fr)) b8 ({ out := x5 } : Merger_merge3) v7 c4 h8 y9 v10 h11 S hy10) rfl tc20 rfl rfl ?_; clear F a S
       rintro _ a w ⟨g11, v11, c6, l11, S, h12, rfl⟩ F; replace S : St g11 [[bx b8 #[v11] 59], c6, [bx b9 #[.i6 y8.Low, .i6 y8.High, v9] 63], c3, [bx b6 #[v2] 55], [bx b4 #[v1] 55], [bx b1 #[.i6 0, .i6 0] 25]] fr w := S
       refine wpList_nil ?_
       refine then_n ?_
       refine wp_seq ?_
       refine wp_region_lit ?_
       refine wE (ev_fieldAddr' tu63 tf63_1 (z := 0) ts3 rfl ⟨_, rfl⟩ rfl) F S rfl fun a F=>?_
       refine wE (ev_load1 tu3 rfl rfl (box_ptr (cells := [.i6 y8.High]) 2 rfl 1 rfl (lb rfl))) F S rfl fun a F=>?_
       refine wE (ev_assign rfl) F S rfl fun a F=>?_
       refine wpList_nil ?_
       refine then_n ?_
       refine wp_seq ?_
       refine wp_dv [] mo S ?_; clear S; intro ok3 w S
       refine dv_ev ok3 0 rfl (ev_loadA tu55 rfl (cs := [v1]) ts55 rfl (box_ptr (cells := [v1]) 5 rfl 0 rfl (lb rfl))) F S rfl fun a F=>?_
       refine dv_ev ok3 1 rfl (ev_loadA tu63 rfl (cs := [.i6 y8.Low, .i6 y8.High, v9]) ts63 rfl (box_ptr (cells := [.i6 y8.Low, .i6 y8.High, v9]) 2 rfl 0 rfl (lb rfl))) F S rfl fun a F=>?_
       refine dv_ev ok3 3 rfl (ev_loadA tu55 rfl (cs := [v2]) ts55 rfl (box_ptr (cells := [v2]) 4 rfl 0 rfl (lb rfl))) F S rfl fun a F=>?_
       refine dv_ev ok3 4 rfl (ev_loadA tu63 rfl (cs := [.i6 y8.Low, .i6 y8.High, v9]) ts63 rfl (box_ptr (cells := [.i6 y8.Low, .i6 y8.High, v9]) 2 rfl 0 rfl (lb rfl))) F S rfl fun a F=>?_
       refine dv_op ok3 2 rfl [(4, .agg #[.i6 y8.Low, .i6 y8.High, v9]), (3, .agg #[v2])] ?_
       obtain ⟨y11, hy11, hm⟩ := bind_some hm
       refine wl_call0 (wn rfl) rfl F rfl (merge3_within_ok (fr := (fl [[bx b8 #[v11] 59], c6, [bx b9 #[.i6 y8.Low, .i6 y8.High, v9] 63], c3, [bx b6 #[v2] 55], [bx b4 #[v1] 55], [bx b1 #[.i6 0, .i6 0] 25]] fr)) y3.1 v1 (h1.mono (((l4.trans l8).trans l9).trans l11)) y8 v9 (h10.mono l11) S hy11) rfl tc21 rfl rfl ?_; clear F a S
       rintro _ a w ⟨g12, v12, c7, l12, S, h13, rfl⟩ F; replace S : St g12 [c7, [bx b8 #[v11] 59], c6, [bx b9 #[.i6 y8.Low, .i6 y8.High, v9] 63], c3, [bx b6 #[v2] 55], [bx b4 #[v1] 55], [bx b1 #[.i6 0, .i6 0] 25]] fr w := S
       refine dv_nx ⟨yl_ev rfl rfl (ev_loadA tu63 rfl (cs := [.i6 y8.Low, .i6 y8.High, v9]) ts63 rfl (box_ptr (cells := [.i6 y8.Low, .i6 y8.High, v9]) 3 rfl 0 rfl (lb rfl))) F S, yl_ev rfl rfl (ev_loadA tu55 rfl (cs := [v2]) ts55 rfl (box_ptr (cells := [v2]) 5 rfl 0 rfl (lb rfl))) F S, trivial⟩ ?_
       refine dv_op ok3 5 rfl [] ?_
       obtain ⟨y12, hy12, hm⟩ := bind_some hm
       refine wl_call0 (wn rfl) rfl F rfl (merge3_within_ok (fr := (fl [c7, [bx b8 #[v11] 59], c6, [bx b9 #[.i6 y8.Low, .i6 y8.High, v9] 63], c3, [bx b6 #[v2] 55], [bx b4 #[v1] 55], [bx b1 #[.i6 0, .i6 0] 25]] fr)) y4.1 v2 (h2.mono (((l8.trans l9).trans l11).trans l12)) y8 v9 (h10.mono (l11.trans l12)) S hy12) rfl tc21 rfl rfl ?_; clear F a S
       rintro _ a w ⟨g13, v13, c8, l13, S, h14, rfl⟩ F; replace S : St g13 [c8, c7, [bx b8 #[v11] 59], c6, [bx b9 #[.i6 y8.Low, .i6 y8.High, v9] 63], c3, [bx b6 #[v2] 55], [bx b4 #[v1] 55], [bx b1 #[.i6 0, .i6 0] 25]] fr w := S
       refine dv_nx trivial ?_
       refine dv_et ok3 6 rfl (ev_assign rfl) F rfl fun a F=>?_
       refine dv_et ok3 7 rfl (ev_assign rfl) F rfl fun a F=>?_
       refine dv_fin ok3 ?_
       refine then_n ?_
       refine wp_seq ?_
       refine wp_dv [] mo S ?_; clear S; intro ok4 w S
       refine dv_et ok4 0 rfl (ev_move rfl) F rfl fun a F=>?_
       refine dv_et ok4 1 rfl (ev_move rfl) F rfl fun a F=>?_
       refine dv_et ok4 2 rfl (ev_fieldAddr' tu63 tf63_0 (z := 0) ts3 rfl ⟨_, rfl⟩ rfl) F rfl fun a F=>?_
       refine dv_ev ok4 3 rfl (ev_load1 tu3 rfl rfl (box_ptr (cells := [.i6 y8.Low]) 4 rfl 0 rfl (lb rfl))) F S rfl fun a F=>?_
       refine dv_et ok4 4 rfl (ev_fieldAddr' tu63 tf63_1 (z := 0) ts3 rfl ⟨_, rfl⟩ rfl) F rfl fun a F=>?_
       refine dv_ev ok4 5 rfl (ev_load1 tu3 rfl rfl (box_ptr (cells := [.i6 y8.High]) 4 rfl 1 rfl (lb rfl))) F S rfl fun a F=>?_
       refine dv_et ok4 7 rfl (ev_move rfl) F rfl fun a F=>?_
       refine dv_et ok4 8 rfl (ev_move rfl) F rfl fun a F=>?_
       refine dv_et ok4 9 rfl (ev_fieldAddr' tu63 tf63_0 (z := 0) ts3 rfl ⟨_, rfl⟩ rfl) F rfl fun a F=>?_
       refine dv_ev ok4 10 rfl (ev_load1 tu3 rfl rfl (box_ptr (cells := [.i6 y8.Low]) 4 rfl 0 rfl (lb rfl))) F S rfl fun a F=>?_
       refine dv_et ok4 11 rfl (ev_fieldAddr' tu63 tf63_1 (z := 0) ts3 rfl ⟨_, rfl⟩ rfl) F rfl fun a F=>?_
       refine dv_ev ok4 12 rfl (ev_load1 tu3 rfl rfl (box_ptr (cells := [.i6 y8.High]) 4 rfl 1 rfl (lb rfl))) F S rfl fun a F=>?_
       refine dv_op ok4 6 rfl [(12, .i6 y8.High), (10, .i6 y8.Low)] ?_
       obtain ⟨g14, l14, S, h15⟩ : ∃ gz, Le g13 gz ∧ St gz [c8, [bx b8 #[v11] 59], c6, [bx b9 #[.i6 y8.Low, .i6 y8.High, v9] 63], c3, [bx b6 #[v2] 55], [bx b4 #[v1] 55], [bx b1 #[.i6 0, .i6 0] 25]] fr w ∧ RepSl gz y11 v12 := ⟨_, Le.add _ _, S.freeze 1 rfl, OwnS.freeze (S.front 1 rfl) (h13.mono l13)⟩
       obtain ⟨y13, hy13, hm⟩ := bind_some hm
       refine wl_call0 (wn rfl) rfl F rfl (textpatch_Raw_ok (fr := (fl [c8, [bx b8 #[v11] 59], c6, [bx b9 #[.i6 y8.Low, .i6 y8.High, v9] 63], c3, [bx b6 #[v2] 55], [bx b4 #[v1] 55], [bx b1 #[.i6 0, .i6 0] 25]] fr)) y11 v12 h15 base vbase1 (hbase1.mono (((((((((l1.trans l2).trans l3).trans l4).trans l8).trans l9).trans l11).trans l12).trans l13).trans l14)) y8.Low y8.High S hy13) rfl tc22 rfl rfl ?_; clear F a S
       rintro _ a w ⟨g15, v14, c9, l15, S, h16, rfl⟩ F; replace S : St g15 [c9, c8, [bx b8 #[v11] 59], c6, [bx b9 #[.i6 y8.Low, .i6 y8.High, v9] 63], c3, [bx b6 #[v2] 55], [bx b4 #[v1] 55], [bx b1 #[.i6 0, .i6 0] 25]] fr w := S
       refine dv_nx ⟨yl_ev rfl rfl (ev_load1 tu3 rfl rfl (box_ptr (cells := [.i6 y8.High]) 4 rfl 1 rfl (lb rfl))) F S, yl_ev rfl rfl (ev_load1 tu3 rfl rfl (box_ptr (cells := [.i6 y8.Low]) 4 rfl 0 rfl (lb rfl))) F S, trivial⟩ ?_
       refine dv_op ok4 13 rfl [] ?_
       obtain ⟨g16, l16, S, h17⟩ : ∃ gz, Le g15 gz ∧ St gz [c9, [bx b8 #[v11] 59], c6, [bx b9 #[.i6 y8.Low, .i6 y8.High, v9] 63], c3, [bx b6 #[v2] 55], [bx b4 #[v1] 55], [bx b1 #[.i6 0, .i6 0] 25]] fr w ∧ RepSl gz y12 v13 := ⟨_, Le.add _ _, S.freeze 1 rfl, OwnS.freeze (S.front 1 rfl) (h14.mono (l14.trans l15))⟩
       obtain ⟨y14, hy14, hm⟩ := bind_some hm
       refine wl_call0 (wn rfl) rfl F rfl (textpatch_Raw_ok (fr := (fl [c9, [bx b8 #[v11] 59], c6, [bx b9 #[.i6 y8.Low, .i6 y8.High, v9] 63], c3, [bx b6 #[v2] 55], [bx b4 #[v1] 55], [bx b1 #[.i6 0, .i6 0] 25]] fr)) y12 v13 h17 base vbase1 (hbase1.mono (((((((((((l1.trans l2).trans l3).trans l4).trans l8).trans l9).trans l11).trans l12).trans l13).trans l14).trans l15).trans l16)) y8.Low y8.High S hy14) rfl tc22 rfl rfl ?_; clear F a S
       rintro _ a w ⟨g17, v15, c10, l17, S, h18, rfl⟩ F; replace S : St g17 [c10, c9, [bx b8 #[v11] 59], c6, [bx b9 #[.i6 y8.Low, .i6 y8.High, v9] 63], c3, [bx b6 #[v2] 55], [bx b4 #[v1] 55], [bx b1 #[.i6 0, .i6 0] 25]] fr w := S
       refine dv_nx trivial ?_
       refine dv_et ok4 14 rfl (ev_assign rfl) F rfl fun a F=>?_
       refine dv_et ok4 15 rfl (ev_assign rfl) F rfl fun a F=>?_
       refine dv_fin ok4 ?_
       replace F := F.sub (e' := [(21, v15), (20, v14), (19, v13), (18, v12), (15, .i6 y8.High), (17, bp b9 0), (51, .i6 x3), (50, .i6 (y7.length : Int)), (49, v6), (14, bp b8 0), (12, bp b6 0), (10, bp b4 0), (7, bp b1 0), (0, vbase1)]) ⟨rfl, rfl, rfl, rfl, rfl, rfl, rfl, rfl, rfl, rfl, rfl, rfl, rfl, rfl, trivial⟩
       refine then_n ?_
       refine wp_block ?_
       refine wp_seq ?_
       refine wp_region_lit ?_
       refine wE (ev_move rfl) F S rfl fun a F=>?_
       refine wE (ev_lenSh h17 rfl tu53) F S rfl fun a F=>?_
       refine wE (ev_int rfl rfl (bo_eql _ _ _ _)) F S rfl fun a F=>?_
       refine wE (ev_move rfl) F S rfl fun a F=>?_
       obtain ⟨g18, l18, S, h19⟩ : ∃ gz, Le g17 gz ∧ St gz [c9, [bx b8 #[v11] 59], c6, [bx b9 #[.i6 y8.Low, .i6 y8.High, v9] 63], c3, [bx b6 #[v2] 55], [bx b4 #[v1] 55], [bx b1 #[.i6 0, .i6 0] 25]] fr w ∧ RepSl gz y14 v15 := ⟨_, Le.add _ _, S.freeze 0 rfl, OwnS.freeze (S.front 0 rfl) h18⟩
       obtain ⟨g19, l19, S, h20⟩ : ∃ gz, Le g18 gz ∧ St gz [[bx b8 #[v11] 59], c6, [bx b9 #[.i6 y8.Low, .i6 y8.High, v9] 63], c3, [bx b6 #[v2] 55], [bx b4 #[v1] 55], [bx b1 #[.i6 0, .i6 0] 25]] fr w ∧ RepSl gz y13 v14 := ⟨_, Le.add _ _, S.freeze 0 rfl, OwnS.freeze (S.front 0 rfl) (h16.mono ((l16.trans l17).trans l18))⟩
       obtain ⟨x9, hx2, hm⟩ := bind_some hm
       refine wl_cut 4 (fun a w => ∃ g20, Fr 123 a [(106, .bool x9), (21, v15), (20, v14), (18, v12), (15, .i6 y8.High), (17, bp b9 0), (51, .i6 x3), (50, .i6 (y7.length : Int)), (49, v6), (14, bp b8 0), (12, bp b6 0), (10, bp b4 0), (7, bp b1 0), (0, vbase1)] ∧ Le g19 g20 ∧ St g20 [[bx b8 #[v11] 59], c6, [bx b9 #[.i6 y8.Low, .i6 y8.High, v9] 63], c3, [bx b6 #[v2] 55], [bx b4 #[v1] 55], [bx b1 #[.i6 0, .i6 0] 25]] fr w) ?_ ?_
       ·clear hm; obtain ⟨hc4, hm⟩ | ⟨hc4, hm⟩ := ite_or hx2
        ·refine wl_skip rfl rfl rfl rfl (ne_ft hc4) F rfl rfl ?_; clear F a; intro a F
         refine wl_skip rfl rfl rfl rfl (ne_ft hc4) F rfl rfl ?_; clear F a; intro a F
         refine wl_skip rfl rfl rfl rfl (ne_ft hc4) F rfl rfl ?_; clear F a; intro a F
         refine wE (ev_pickT rfl hc4 rfl) F S rfl fun a F=>?_
         obtain rfl := sinj hm
         refine wpList_nil (then_n ?_); exact ⟨g19, F.sub ⟨rfl, rfl, rfl, rfl, rfl, rfl, rfl, rfl, rfl, rfl, rfl, rfl, rfl, rfl, trivial⟩, (Le.refl _), S⟩
        ·refine wl_ev (wg F rfl rfl rfl rfl hc4) (ev_move rfl) F S rfl rfl ?_; clear F a; intro a F
         refine wl_ev (wg F rfl rfl rfl rfl hc4) (ev_move rfl) F S rfl rfl ?_; clear F a; intro a F
         obtain ⟨y15, hy15, hm⟩ := bind_some hm
         refine wl_call0 (wg F rfl rfl rfl rfl hc4) rfl F rfl (slices_Equal_ok (fr := (fl [[bx b8 #[v11] 59], c6, [bx b9 #[.i6 y8.Low, .i6 y8.High, v9] 63], c3, [bx b6 #[v2] 55], [bx b4 #[v1] 55], [bx b1 #[.i6 0, .i6 0] 25]] fr)) y13 v14 h20 y14 v15 (h19.mono l19) S hy15) rfl tc23 rfl rfl ?_; clear F a S
         rintro _ a w ⟨g21, l21, S, rfl⟩ F; replace S : St g21 [[bx b8 #[v11] 59], c6, [bx b9 #[.i6 y8.Low, .i6 y8.High, v9] 63], c3, [bx b6 #[v2] 55], [bx b4 #[v1] 55], [bx b1 #[.i6 0, .i6 0] 25]] fr w := S
         refine wE (ev_pickF rfl hc4 rfl) F S rfl fun a F=>?_
         obtain rfl := sinj hm
         refine wpList_nil (then_n ?_); exact ⟨g21, F.sub ⟨rfl, rfl, rfl, rfl, rfl, rfl, rfl, rfl, rfl, rfl, rfl, rfl, rfl, rfl, trivial⟩, l21, S⟩
       clear F S; rintro a w ⟨g20, F, l20, S⟩
       refine wE (ev_assign rfl) F S rfl fun a F=>?_
       refine wpList_nil ?_
       refine then_n ?_
       obtain ⟨hc5, hm⟩ | ⟨hc5, hm⟩ := ite_or hm
       ·refine wp_condT F rfl hc5 ?_
        refine wp_region_lit ?_
        refine wE (ev_move rfl) F S rfl fun a F=>?_
        obtain ⟨y16, hy16, hm⟩ := bind_some hm
        refine wl_call0 (wn rfl) rfl F rfl (merge3_merger__plain_ok (fr := (fl [[bx b9 #[.i6 y8.Low, .i6 y8.High, v9] 63], c3, [bx b6 #[v2] 55], [bx b4 #[v1] 55], [bx b1 #[.i6 0, .i6 0] 25]] fr)) b8 y10 v11 c6 (h12.mono ((((((((l12.trans l13).trans l14).trans l15).trans l16).trans l17).trans l18).trans l19).trans l20)) y13 v14 (h20.mono l20) S hy16) rfl tc20 rfl rfl ?_; clear F a S
        rintro _ a w ⟨g22, v16, c11, l22, S, h21, rfl⟩ F; replace S : St g22 [[bx b8 #[v16] 59], c11, [bx b9 #[.i6 y8.Low, .i6 y8.High, v9] 63], c3, [bx b6 #[v2] 55], [bx b4 #[v1] 55], [bx b1 #[.i6 0, .i6 0] 25]] fr w := S
        refine wpList_nil ?_
        refine inb_n ?_
        refine inb_n ?_
        refine then_n ?_
        replace S : St g22 [c3, [bx b8 #[v16] 59], [bx b6 #[v2] 55], [bx b4 #[v1] 55], [bx b1 #[.i6 0, .i6 0] 25], c11] fr w := St.tail [c3, [bx b8 #[v16] 59], [bx b6 #[v2] 55], [bx b4 #[v1] 55], [bx b1 #[.i6 0, .i6 0] 25], c11] _ ((((((S.frontC 1 rfl).frontC 7 rfl).frontC 7 rfl).frontC 7 rfl).frontC 4 rfl).frontC 8 rfl)
        exact ⟨y8.High, y16.out, v16, c11, g22, F.sub ⟨rfl, rfl, rfl, rfl, rfl, rfl, rfl, rfl, rfl, trivial⟩, ((((((((((l11.trans l12).trans l13).trans l14).trans l15).trans l16).trans l17).trans l18).trans l19).trans l20).trans l22), S, h21, hm⟩
       ·refine wp_condF F rfl hc5 ?_
        refine wp_seq ?_
        refine wp_region_lit ?_
        refine wE (ev_move rfl) F S rfl fun a F=>?_
        refine wE (ev_lenSh h15 rfl tu53) F S rfl fun a F=>?_
        refine wE (ev_int rfl rfl (bo_eql _ _ _ _)) F S rfl fun a F=>?_
        refine wE (ev_assign rfl) F S rfl fun a F=>?_
        refine wpList_nil ?_
        refine then_n ?_
        obtain ⟨hc6, hm⟩ | ⟨hc6, hm⟩ := ite_or hm
        ·refine wp_condT F rfl hc6 ?_
         refine wp_region_lit ?_
         refine wE (ev_move rfl) F S rfl fun a F=>?_
         obtain ⟨y17, hy17, hm⟩ := bind_some hm
         refine wl_call0 (wn rfl) rfl F rfl (merge3_merger__plain_ok (fr := (fl [[bx b9 #[.i6 y8.Low, .i6 y8.High, v9] 63], c3, [bx b6 #[v2] 55], [bx b4 #[v1] 55], [bx b1 #[.i6 0, .i6 0] 25]] fr)) b8 y10 v11 c6 (h12.mono ((((((((l12.trans l13).trans l14).trans l15).trans l16).trans l17).trans l18).trans l19).trans l20)) y14 v15 (h19.mono (l19.trans l20)) S hy17) rfl tc20 rfl rfl ?_; clear F a S
         rintro _ a w ⟨g23, v17, c12, l23, S, h22, rfl⟩ F; replace S : St g23 [[bx b8 #[v17] 59], c12, [bx b9 #[.i6 y8.Low, .i6 y8.High, v9] 63], c3, [bx b6 #[v2] 55], [bx b4 #[v1] 55], [bx b1 #[.i6 0, .i6 0] 25]] fr w := S
         refine wpList_nil ?_
         refine inb_n ?_
         refine inb_n ?_
         refine then_n ?_
         replace S : St g23 [c3, [bx b8 #[v17] 59], [bx b6 #[v2] 55], [bx b4 #[v1] 55], [bx b1 #[.i6 0, .i6 0] 25], c12] fr w := St.tail [c3, [bx b8 #[v17] 59], [bx b6 #[v2] 55], [bx b4 #[v1] 55], [bx b1 #[.i6 0, .i6 0] 25], c12] _ ((((((S.frontC 1 rfl).frontC 7 rfl).frontC 7 rfl).frontC 7 rfl).frontC 4 rfl).frontC 8 rfl)
         exact ⟨y8.High, y17.out, v17, c12, g23, F.sub ⟨rfl, rfl, rfl, rfl, rfl, rfl, rfl, rfl, rfl, trivial⟩, ((((((((((l11.trans l12).trans l13).trans l14).trans l15).trans l16).trans l17).trans l18).trans l19).trans l20).trans l23), S, h22, hm⟩
        ·refine wp_condF F rfl hc6 ?_
         refine wp_dv [] mo S ?_; clear S; intro ok5 w S
         refine dv_et ok5 0 rfl (ev_fieldAddr' tu59 tf59_0 (z := 0) ts23 rfl ⟨_, rfl⟩ rfl) F rfl fun a F=>?_
         refine dv_ev ok5 1 rfl (ev_load1 tu23 rfl rfl (box_ptr (cells := [v11]) 0 rfl 0 rfl (lb rfl))) F S rfl fun a F=>?_
         refine dv_et ok5 2 rfl (ev_move rfl) F rfl fun a F=>?_
         refine dv_et ok5 3 rfl (ev_fieldAddr' tu63 tf63_0 (z := 0) ts3 rfl ⟨_, rfl⟩ rfl) F rfl fun a F=>?_
         refine dv_ev ok5 4 rfl (ev_load1 tu3 rfl rfl (box_ptr (cells := [.i6 y8.Low]) 2 rfl 0 rfl (lb rfl))) F S rfl fun a F=>?_
         refine dv_et ok5 5 rfl (ev_fieldAddr' tu63 tf63_1 (z := 0) ts3 rfl ⟨_, rfl⟩ rfl) F rfl fun a F=>?_
         refine dv_ev ok5 6 rfl (ev_load1 tu3 rfl rfl (box_ptr (cells := [.i6 y8.High]) 2 rfl 1 rfl (lb rfl))) F S rfl fun a F=>?_
         obtain ⟨y18, hy18, hm⟩ := bind_some hm
         obtain ⟨v18, h23, he1⟩ := ev_cut (P := Tryd.prog) (n := 123) (e := [(89, .i6 y8.High), (88, bp b9 1), (87, .i6 y8.Low), (86, bp b9 0), (85, vbase1), (84, v11), (83, bp b8 0), (109, .bool (decide ((y11.length : Int) = 0))), (112, .bool (decide ((y11.length : Int) = 0))), (111, .i6 (y11.length : Int)), (110, v12), (98, .bool x9), (106, .bool x9), (21, v15), (20, v14), (18, v12), (15, .i6 y8.High), (17, bp b9 0), (51, .i6 x3), (50, .i6 (y7.length : Int)), (49, v6), (14, bp b8 0), (12, bp b6 0), (10, bp b4 0), (7, bp b1 0), (0, vbase1)]) (C := fun _ => True) (x := .tmp 85) (lo := some (.tmp 87)) (hi := some (.tmp 89)) (hbase1.mono (((((((((((((((l1.trans l2).trans l3).trans l4).trans l8).trans l9).trans l11).trans l12).trans l13).trans l14).trans l15).trans l16).trans l17).trans l18).trans l19).trans l20)) hy18 tu22 ts9 rfl (bndV rfl) (bndV rfl)
         refine dv_et ok5 7 rfl he1 F rfl fun a F=>?_
         refine dv_et ok5 9 rfl (ev_move rfl) F rfl fun a F=>?_
         refine dv_et ok5 10 rfl (ev_move rfl) F rfl fun a F=>?_
         refine dv_op ok5 8 rfl [(1, v11)] ?_
         obtain ⟨y19, hy19, hm⟩ := bind_some hm
         refine wl_call0 (wn rfl) rfl F rfl (slices_Clone_ok (fr := (fl [[bx b8 #[v11] 59], c6, [bx b9 #[.i6 y8.Low, .i6 y8.High, v9] 63], c3, [bx b6 #[v2] 55], [bx b4 #[v1] 55], [bx b1 #[.i6 0, .i6 0] 25]] fr)) y18 v18 h23 S hy19) rfl tc24 rfl rfl ?_; clear F a S
         rintro _ a w ⟨g24, v19, c13, l24, S, h24, rfl⟩ F; replace S : St g24 [c13, [bx b8 #[v11] 59], c6, [bx b9 #[.i6 y8.Low, .i6 y8.High, v9] 63], c3, [bx b6 #[v2] 55], [bx b4 #[v1] 55], [bx b1 #[.i6 0, .i6 0] 25]] fr w := S
         refine dv_nx ⟨yl_ev rfl rfl (ev_load1 tu23 rfl rfl (box_ptr (cells := [v11]) 1 rfl 0 rfl (lb rfl))) F S, trivial⟩ ?_
         refine dv_et ok5 11 rfl (ev_build (parts := [(0, .const (.bool true)), (2, .tmp 91), (3, .tmp 92), (4, .tmp 93)]) (vs := [(0, .bool true), (2, v19), (3, v14), (4, v15)]) rfl (fun w => tb70_0_2_3_4 true v19 (OwnS.isSl h24) v14 (RepSl.isSl h20) v15 (RepSl.isSl h19) w)) F rfl fun a F=>?_
         refine dv_op ok5 12 rfl [(1, v11)] ?_
         obtain ⟨g25, l25, S, h25⟩ : ∃ gz, Le g24 gz ∧ St gz [[bx b8 #[v11] 59], c6, [bx b9 #[.i6 y8.Low, .i6 y8.High, v9] 63], c3, [bx b6 #[v2] 55], [bx b4 #[v1] 55], [bx b1 #[.i6 0, .i6 0] 25]] fr w ∧ RepSl gz y19 v19 := ⟨_, Le.add _ _, S.freeze 0 rfl, OwnS.freeze (S.front 0 rfl) h24⟩
         replace S : St g25 [[], [bx b8 #[v11] 59], c6, [bx b9 #[.i6 y8.Low, .i6 y8.High, v9] 63], c3, [bx b6 #[v2] 55], [bx b4 #[v1] 55], [bx b1 #[.i6 0, .i6 0] 25]] fr w := S
         replace S : St g25 [([] ++ []), [bx b8 #[v11] 59], c6, [bx b9 #[.i6 y8.Low, .i6 y8.High, v9] 63], c3, [bx b6 #[v2] 55], [bx b4 #[v1] 55], [bx b1 #[.i6 0, .i6 0] 25]] fr w := S.of_eq (by simp only [fl, List.append_assoc, List.append_nil, List.nil_append])
         refine wl_lit1N (p := ({ Conflict := true, Lines := [], Base := y19, Left := y13, Right := y14 } : Chunk)) (wn rfl) rfl rfl tu23 te70 rfl rfl rfl (orep_Chunk_mk (x := ({ Conflict := true, Lines := [], Base := y19, Left := y13, Right := y14 } : Chunk)) (OwnS.nil _) h25 (h20.mono ((l20.trans l24).trans l25)) (h19.mono (((l19.trans l20).trans l24).trans l25))) F S rfl rfl ?_; clear F a S
         rintro v20 c14 a w h26 F S
         refine dv_nx ⟨yl_ev rfl rfl (ev_load1 tu23 rfl rfl (box_ptr (cells := [v11]) 1 rfl 0 rfl (lb rfl))) F S, trivial⟩ ?_
         refine dv_op ok5 13 rfl [] ?_
         replace S : St g25 [c6, c14, [bx b8 #[v11] 59], [bx b9 #[.i6 y8.Low, .i6 y8.High, v9] 63], c3, [bx b6 #[v2] 55], [bx b4 #[v1] 55], [bx b1 #[.i6 0, .i6 0] 25]] fr w := ((((((((S.frontC 7 rfl).frontC 7 rfl).frontC 7 rfl).frontC 7 rfl).frontC 7 rfl).frontC 6 rfl).frontC 6 rfl).frontC 9 rfl)
         obtain ⟨y20, hy20, hm⟩ := bind_some hm
         refine wl_appendN (wn rfl) rfl tu23 tu23 te70 (by decide) (by decide) F S rfl rfl (h12.mono ((((((((((l12.trans l13).trans l14).trans l15).trans l16).trans l17).trans l18).trans l19).trans l20).trans l24).trans l25)) h26 hy20 rfl rfl ?_; clear F a S
         rintro v21 c15 a w h27 S F; replace S : St g25 [c15, [bx b8 #[v11] 59], [bx b9 #[.i6 y8.Low, .i6 y8.High, v9] 63], c3, [bx b6 #[v2] 55], [bx b4 #[v1] 55], [bx b1 #[.i6 0, .i6 0] 25]] fr w := S
         refine dv_nx trivial ?_
         refine dv_et ok5 14 rfl (ev_fieldAddr' tu59 tf59_0 (z := 0) ts23 rfl ⟨_, rfl⟩ rfl) F rfl fun a F=>?_
         refine dv_op ok5 15 rfl [] ?_
         refine wl_storeC (wn rfl) rfl F S rfl rfl (vs := [v21]) (OwnN.cl h27) ts23 (one_cons (OwnN.one h27) one_nil) (k := 1) rfl (lb rfl) (c' := #[v21]) rfl rfl ?_; clear S; intro w S
         refine dv_nx trivial ?_
         refine dv_fin ok5 ?_
         refine inb_n ?_
         refine inb_n ?_
         refine then_n ?_
         replace S : St g25 [c3, [bx b8 #[v21] 59], [bx b6 #[v2] 55], [bx b4 #[v1] 55], [bx b1 #[.i6 0, .i6 0] 25], c15] fr w := St.tail [c3, [bx b8 #[v21] 59], [bx b6 #[v2] 55], [bx b4 #[v1] 55], [bx b1 #[.i6 0, .i6 0] 25], c15] _ ((((((S.frontC 0 rfl).frontC 7 rfl).frontC 7 rfl).frontC 7 rfl).frontC 5 rfl).frontC 8 rfl)
         exact ⟨y8.High, y20, v21, c15, g25, F.sub ⟨rfl, rfl, rfl, rfl, rfl, rfl, rfl, rfl, rfl, trivial⟩, (((((((((((l11.trans l12).trans l13).trans l14).trans l15).trans l16).trans l17).trans l18).trans l19).trans l20).trans l24).trans l25), S, h27, hm⟩
      ·clear F S hm; rintro a w ⟨x7, x8, v8, c5, g10, F, l10, S, h9, hm⟩
       refine wp_region_lit ?_
       obtain ⟨z1, hz1, hm⟩ := bind_some hm
       refine wE (ev_int rfl rfl (bo_add hz1)) F S rfl fun a F=>?_
       refine wE (ev_move rfl) F S rfl fun a F=>?_
       refine wpList_nil ?_
       refine then_n ?_
       obtain rfl := sinj hm
       refine ⟨_, rfl, ?_⟩
       dsimp only
       exact ⟨v8, c5, g10, F.sub ⟨rfl, rfl, rfl, rfl, rfl, rfl, rfl, rfl, rfl, trivial⟩, (l9.trans l10), S, h9⟩
     ·refine wp_condF F rfl hc3 ?_
      refine wp_exit ?_
      refine then_e ?_
      refine then_e ?_
      refine inb_x ?_
      refine then_n ?_
      obtain rfl := sinj hm
      obtain rfl := hfin1 _ rfl
      clear hm
      have hm : (merge3_Merge.j1 base x4 x5 : Option ((List Chunk) × Fault)) = some _ := hmo1
      replace S : St g9 [[bx b8 #[v7] 59], [bx b1 #[.i6 0, .i6 0] 25], c4] fr w := St.tail [[bx b8 #[v7] 59], [bx b1 #[.i6 0, .i6 0] 25], c4] _ (((S.frontC 5 rfl).frontC 5 rfl).frontC 3 rfl)
      exact ⟨x4, x5, v7, c4, g9, F.sub ⟨rfl, rfl, rfl, rfl, trivial⟩, (l8.trans l9), S, h8, hm⟩
   ·clear F S hm; rintro a w ⟨x1, x2, v3, c1, g5, F, l5, S, h3, hm⟩
    refine wp_seq ?_
    refine wp_region_lit ?_
    refine wE (ev_move rfl) F S rfl fun a F=>?_
    refine wE (ev_move rfl) F S rfl fun a F=>?_
    obtain ⟨y5, hy5, hm⟩ := bind_some hm
    refine wl_cutS (wn rfl) rfl (hbase1.mono ((((l1.trans l2).trans l3).trans l4).trans l5)) hy5 tu22 ts9 rfl (bndV rfl) (bnd0 _) F rfl rfl ?_; clear F a; rintro v4 h4 a F
    replace S : St g5 [[bx b8 #[v3] 59], c1, [bx b1 #[.i6 0, .i6 0] 25]] fr w := (((S.frontC 1 rfl).frontC 3 rfl).frontC 2 rfl)
    obtain ⟨y6, hy6, hm⟩ := bind_some hm
    refine wl_call0 (wn rfl) rfl F rfl (merge3_merger__plain_ok (fr := (fl [[bx b1 #[.i6 0, .i6 0] 25]] fr)) b8 ({ out := x2 } : Merger_merge3) v3 c1 h3 y5 v4 h4 S hy6) rfl tc20 rfl rfl ?_; clear F a S
    rintro _ a w ⟨g6, v5, c2, l6, S, h5, rfl⟩ F; replace S : St g6 [[bx b8 #[v5] 59], c2, [bx b1 #[.i6 0, .i6 0] 25]] fr w := S
    refine wpList_nil ?_
    refine then_n ?_
    refine wp_seq ?_
    refine wp_region_lit ?_
    refine wE (ev_fieldAddr' tu59 tf59_0 (z := 0) ts23 rfl ⟨_, rfl⟩ rfl) F S rfl fun a F=>?_
    refine wE (ev_load1 tu23 rfl rfl (box_ptr (cells := [v5]) 0 rfl 0 rfl (lb rfl))) F S rfl fun a F=>?_
    refine wE (ev_build (parts := []) (vs := []) rfl (fun w => tb25_  w)) F S rfl fun a F=>?_
    refine wE (ev_assign rfl) F S rfl fun a F=>?_
    refine wl_storeC (wn rfl) rfl F S rfl rfl (vs := [.i6 0, .i6 0]) rfl ts25 (one_cons rfl (one_cons rfl one_nil)) (k := 2) rfl (lb rfl) (c' := #[.i6 0, .i6 0]) rfl rfl ?_; clear S; intro w S
    refine wpList_nil ?_
    refine then_n ?_
    refine wp_ret ?_
    obtain rfl := sinj hm
    obtain ⟨g7, l7, S, h6⟩ : ∃ gz, Le g6 gz ∧ St gz [[bx b8 #[v5] 59], [bx b1 #[.i6 0, .i6 0] 25]] fr w ∧ RepSl gz y6.out v5 := ⟨_, Le.add _ _, S.freeze 1 rfl, OwnN.freeze (S.front 1 rfl) h5⟩
    refine post_r _ F rfl (ar_cons (resT rfl) (ar_cons (resA rfl tu25 rfl (box_ptr (cells := [.i6 0, .i6 0]) 1 rfl 0 rfl (lb rfl) w S) ts25) ar_nil)) ?_
    replace S : St g7 [] fr w := St.tail [] _ S
    exact ⟨_, rfl, g7, v5, ((((((l1.trans l2).trans l3).trans l4).trans l5).trans l6).trans l7), S, h6, rfl⟩

theorem merge3_check_ok {g : Gh} {fr : Hl} {w : World} {r : Fault} (chunks : (List Chunk)) (vchunks1 : Value) (hchunks1 : RepSl g chunks vchunks1) (S : St g [] fr w) (hm : merge3_check chunks = some r) :
  Calls Tryd.prog 25 [vchunks1].toArray w (fun en w' => ∃ v, en = .returned v ∧ ∃ (g' : Gh), Le g g' ∧ St g' [] fr w' ∧ .agg #[.i6 r.Code, .i6 r.Index] = v) := by
 unfold merge3_check at hm
 refine calls_enter (fn := Tryd.f25) Tryd.func25 rfl Tryd.ntmps25 (lb rfl) ?_
 intro a F
 replace F : Fr 78 a [(0, vchunks1)] := F
 refine wp_seq ?_
 refine wp_region_lit ?_
 refine wl_alloc (wn rfl) rfl tz25 (cs := [.i6 0, .i6 0]) rfl F S rfl rfl ?_; clear F a S; rintro b1 a w F S
 refine wpList_nil ?_
 refine then_n ?_
 refine wp_seq ?_
 refine wp_seq ?_
 refine wp_region_lit ?_
 refine wE (ev_move rfl) F S rfl fun a F=>?_
 refine wE (ev_lenSh hchunks1 rfl tu23) F S rfl fun a F=>?_
 refine wE (ev_int rfl rfl (bo_gtr _ _ _ _)) F S rfl fun a F=>?_
 refine wpList_nil ?_
 refine then_n ?_
 obtain ⟨hc1, hm⟩ | ⟨hc1, hm⟩ := ite_or hm
 ·refine wp_condT F rfl hc1 ?_
  refine wp_seq ?_
  refine wp_region_lit ?_
  refine wE (ev_build (parts := [(0, .const (.i6 2)), (1, .const (.i6 (-1)))]) (vs := [(0, .i6 2), (1, .i6 (-1))]) rfl (fun w => tb25_0_1 2 (-1) w)) F S rfl fun a F=>?_
  refine wl_storeC (wn rfl) rfl F S rfl rfl (vs := [.i6 2, .i6 (-1)]) rfl ts25 (one_cons rfl (one_cons rfl one_nil)) (k := 0) rfl (lb rfl) (c' := #[.i6 2, .i6 (-1)]) rfl rfl ?_; clear S; intro w S
  refine wpList_nil ?_
  refine then_n ?_
  refine wp_ret ?_
  refine then_r ?_
  obtain rfl := sinj hm
  refine post_r _ F rfl (ar_cons (resA rfl tu25 rfl (box_ptr (cells := [.i6 2, .i6 (-1)]) 0 rfl 0 rfl (lb rfl) w S) ts25) ar_nil) ?_
  replace S : St g [] fr w := St.tail [] _ S
  exact ⟨_, rfl, g, (Le.refl _), S, rfl⟩
 ·refine wp_condF F rfl hc1 ?_
  refine wp_skip ?_
  refine then_n ?_
  refine wp_cut (fun a w => ∃ (g1 : Gh), Fr 78 a [(2, bp b1 0)] ∧ Le g g1 ∧ St g1 [[bx b1 #[.i6 0, .i6 0] 25]] fr w ∧ merge3_check.j1 = some r) ?_ ?_
  ·refine wp_seq ?_
   refine wp_region_lit ?_
   refine wE (ev_move rfl) F S rfl fun a F=>?_
   refine wE (ev_lenSh hchunks1 rfl tu23) F S rfl fun a F=>?_
   refine wE (ev_move rfl) F S rfl fun a F=>?_
   refine wpList_nil ?_
   refine then_n ?_
   refine wp_block ?_
   obtain ⟨r1, hr1, hm⟩ := bind_some hm
   have hmo1 := hm; clear hm
   refine wp_iter (σ := Int) (ρ := Fault ⊕ Unit) (m := fun s => merge3_check.l1 chunks s) (I := fun x1 a w => ∃ (g2 : Gh), Fr 78 a [(15, .i6 x1), (14, .i6 (chunks.length : Int)), (13, vchunks1), (2, bp b1 0)] ∧ Le g g2 ∧ St g2 [[bx b1 #[.i6 0, .i6 0] 25]] fr w) hr1 ?_ ?_
   ·exact ⟨g, F.sub ⟨rfl, rfl, rfl, rfl, trivial⟩, (Le.refl _), S⟩
   ·clear F S; rintro x1 a w x2 ⟨g2, F, l2, S⟩ hx1 hfin1
    have hm : merge3_check.l1 chunks x1 = some x2 := hx1; clear hx1
    unfold merge3_check.l1 at hm
    refine wp_seq ?_
    refine wp_region_lit ?_
    refine wE (ev_int rfl rfl (bo_lss _ _ _ _)) F S rfl fun a F=>?_
    refine wpList_nil ?_
    refine then_n ?_
    refine wp_seq ?_
    obtain ⟨hc2, hm⟩ | ⟨hc2, hm⟩ := ite_or hm
    ·refine wp_condT F rfl hc2 ?_
     refine wp_skip ?_
     refine then_n ?_
     refine wp_cut (fun a w => ∃ (g3 : Gh), Fr 78 a [(15, .i6 x1), (14, .i6 (chunks.length : Int)), (13, vchunks1), (2, bp b1 0)] ∧ Le g2 g3 ∧ St g3 [[bx b1 #[.i6 0, .i6 0] 25]] fr w ∧ merge3_check.j2 x1 = some x2) ?_ ?_
     ·refine wp_block ?_
      refine wp_seq ?_
      refine wp_region_lit ?_
      refine wE (ev_move rfl) F S rfl fun a F=>?_
      obtain ⟨y1, hy1, hm⟩ := bind_some hm
      obtain ⟨cs1, hr2, hp1⟩ := elemS (hchunks1.mono l2) hy1
      obtain ⟨v1, v2, v3, v4, rfl, h1, h2, h3, h4⟩ := rep_Chunk hr2
      refine wE (ev_idxS (hchunks1.mono l2) hy1 tu23 ts70 rfl rfl) F S rfl fun a F=>?_
      refine wE (ev_loadA tu70 rfl (cs := [.bool y1.Conflict, v1, v2, v3, v4]) ts70 rfl (ptr_mono (cks := [[bx b1 #[.i6 0, .i6 0] 25]]) (fr := fr) hp1 (Le.refl _))) F S rfl fun a F=>?_
      refine wl_alloc (wn rfl) rfl tz70 (cs := [.bool false, nilS, nilS, nilS, nilS]) rfl F S rfl rfl ?_; clear F a S; rintro b2 a w F S
      refine wE (ev_assign rfl) F S rfl fun a F=>?_
      refine wl_storeC (wn rfl) rfl F S rfl rfl (vs := [.bool y1.Conflict, v1, v2, v3, v4]) rfl ts70 (one_cons rfl (one_cons h1.one (one_cons h2.one (one_cons h3.one (one_cons h4.one one_nil))))) (k := 0) rfl (lb rfl) (c' := #[.bool y1.Conflict, v1, v2, v3, v4]) rfl rfl ?_; clear S; intro w S
      refine wpList_nil ?_
      refine then_n ?_
      refine wp_cut (fun a w => ∃ (g4 : Gh), Fr 78 a [(3, .i6 x1), (4, bp b2 0), (15, .i6 x1), (14, .i6 (chunks.length : Int)), (13, vchunks1), (2, bp b1 0)] ∧ Le g2 g4 ∧ St g4 [[bx b2 #[.bool y1.Conflict, v1, v2, v3, v4] 70], [bx b1 #[.i6 0, .i6 0] 25]] fr w ∧ merge3_check.j3 x1 y1 = some x2) ?_ ?_
      ·refine wp_seq ?_
       refine wp_region_lit ?_
       refine wE (ev_fieldAddr' tu70 tf70_1 (z := 0) ts22 rfl ⟨_, rfl⟩ rfl) F S rfl fun a F=>?_
       refine wE (ev_load1 tu22 rfl rfl (box_ptr (cells := [v1]) 0 rfl 1 rfl (lb rfl))) F S rfl fun a F=>?_
       refine wE (ev_fieldAddr' tu70 tf70_2 (z := 0) ts22 rfl ⟨_, rfl⟩ rfl) F S rfl fun a F=>?_
       refine wE (ev_load1 tu22 rfl rfl (box_ptr (cells := [v2]) 0 rfl 2 rfl (lb rfl))) F S rfl fun a F=>?_
       refine wE (ev_fieldAddr' tu70 tf70_3 (z := 0) ts22 rfl ⟨_, rfl⟩ rfl) F S rfl fun a F=>?_
       refine wE (ev_load1 tu22 rfl rfl (box_ptr (cells := [v3]) 0 rfl 3 rfl (lb rfl))) F S rfl fun a F=>?_
       refine wE (ev_fieldAddr' tu70 tf70_4 (z := 0) ts22 rfl ⟨_, rfl⟩ rfl) F S rfl fun a F=>?_
       refine wE (ev_load1 tu22 rfl rfl (box_ptr (cells := [v4]) 0 rfl 4 rfl (lb rfl))) F S rfl fun a F=>?_
       refine wE (ev_build (parts := [(0, .tmp 21), (1, .tmp 23), (2, .tmp 25), (3, .tmp 27)]) (vs := [(0, v1), (1, v2), (2, v3), (3, v4)]) rfl (fun w => tb112_0_1_2_3 v1 (RepSl.isSl h1) v2 (RepSl.isSl h2) v3 (RepSl.isSl h3) v4 (RepSl.isSl h4) w)) F S rfl fun a F=>?_
       refine wE (ev_move rfl) F S rfl fun a F=>?_
       refine wpList_nil ?_
       refine then_n ?_
       refine wp_block ?_
       obtain ⟨r2, hr3, hm⟩ := bind_some hm
       have hmo2 := hm; clear hm
       refine wp_iter (σ := Int) (ρ := Fault ⊕ Unit) (m := fun s => merge3_check.l2 x1 y1 s) (I := fun x7 a w => ∃ (g5 : Gh), Fr 78 a [(29, .i6 x7), (28, .agg #[v1, v2, v3, v4]), (3, .i6 x1), (4, bp b2 0), (15, .i6 x1), (14, .i6 (chunks.length : Int)), (13, vchunks1), (2, bp b1 0)] ∧ Le g2 g5 ∧ St g5 [[bx b2 #[.bool y1.Conflict, v1, v2, v3, v4] 70], [bx b1 #[.i6 0, .i6 0] 25]] fr w) hr3 ?_ ?_
       ·exact ⟨g2, F.sub ⟨rfl, rfl, rfl, rfl, rfl, rfl, rfl, rfl, trivial⟩, (Le.refl _), S⟩
       ·clear F S; rintro x7 a w x8 ⟨g5, F, l5, S⟩ hx6 hfin2
        have hm : merge3_check.l2 x1 y1 x7 = some x8 := hx6; clear hx6
        unfold merge3_check.l2 at hm
        refine wp_seq ?_
        refine wp_region_lit ?_
        refine wE (ev_int rfl rfl (bo_lss _ _ _ _)) F S rfl fun a F=>?_
        refine wpList_nil ?_
        refine then_n ?_
        refine wp_seq ?_
        obtain ⟨hc8, hm⟩ | ⟨hc8, hm⟩ := ite_or hm
        ·refine wp_condT F rfl hc8 ?_
         refine wp_skip ?_
         refine then_n ?_
         refine wp_seq ?_
         refine wp_block ?_
         refine wp_seq ?_
         refine wp_region_lit ?_
         obtain ⟨y2, hy2, hm⟩ := bind_some hm
         obtain ⟨v5, h5, he1⟩ := ev_indexASl (P := Tryd.prog) (n := 78) (e := [(30, .bool (decide (x7 < 4))), (29, .i6 x7), (28, .agg #[v1, v2, v3, v4]), (3, .i6 x1), (4, bp b2 0), (15, .i6 x1), (14, .i6 (chunks.length : Int)), (13, vchunks1), (2, bp b1 0)]) (C := fun w => St g5 [[bx b2 #[.bool y1.Conflict, v1, v2, v3, v4] 70], [bx b1 #[.i6 0, .i6 0] 25]] fr w) (g := g5) (x := .tmp 28) (y := .tmp 29) hy2 tu112 tu22 ts22 rfl (cs := [v1, v2, v3, v4]) ⟨(h1.mono l5), ⟨(h2.mono l5), ⟨(h3.mono l5), ⟨(h4.mono l5), trivial⟩⟩⟩⟩ rfl rfl
         refine wE he1 F S rfl fun a F=>?_
         refine wE (ev_assign rfl) F S rfl fun a F=>?_
         refine wpList_nil ?_
         refine then_n ?_
         refine wp_seq ?_
         refine wp_region_lit ?_
         refine wE (ev_move rfl) F S rfl fun a F=>?_
         refine wE (ev_move rfl) F S rfl fun a F=>?_
         obtain ⟨y3, hy3, hm⟩ := bind_some hm
         refine wl_call0 (wn rfl) rfl F rfl (lines_Second_ok (fr := (fl [[bx b2 #[.bool y1.Conflict, v1, v2, v3, v4] 70], [bx b1 #[.i6 0, .i6 0] 25]] fr)) y2 v5 h5 x1 S hy3) rfl tc17 rfl rfl ?_; clear F a S
         rintro _ a w ⟨g6, l6, S, rfl⟩ F; replace S : St g6 [[bx b2 #[.bool y1.Conflict, v1, v2, v3, v4] 70], [bx b1 #[.i6 0, .i6 0] 25]] fr w := S
         refine wl_alloc (wn rfl) rfl tz25 (cs := [.i6 0, .i6 0]) rfl F S rfl rfl ?_; clear F a S; rintro b3 a w F S
         refine wl_storeC (wn rfl) rfl F S rfl rfl (vs := [.i6 y3.Code, .i6 y3.Index]) rfl ts25 (one_cons rfl (one_cons rfl one_nil)) (k := 0) rfl (lb rfl) (c' := #[.i6 y3.Code, .i6 y3.Index]) rfl rfl ?_; clear S; intro w S
         refine wpList_nil ?_
         refine then_n ?_
         refine wp_seq ?_
         refine wp_region_lit ?_
         refine wE (ev_loadA tu25 rfl (cs := [.i6 y3.Code, .i6 y3.Index]) ts25 rfl (box_ptr (cells := [.i6 y3.Code, .i6 y3.Index]) 0 rfl 0 rfl (lb rfl))) F S rfl fun a F=>?_
         refine wE (ev_build (parts := []) (vs := []) rfl (fun w => tb25_  w)) F S rfl fun a F=>?_
         refine wE (ev_neS tu25 tqa25 tqb25 tqc25 (xs := [.i6 y3.Code, .i6 y3.Index]) (ys := [.i6 0, .i6 0]) rfl rfl ⟨_, _, rfl, by decide, ⟨_, _, rfl, rfl, leaf_int tu3⟩, ⟨_, _, rfl, by decide, ⟨_, _, rfl, rfl, leaf_int tu3⟩, rfl⟩⟩) F S rfl fun a F=>?_
         refine wpList_nil ?_
         refine then_n ?_
         obtain ⟨hc9, hm⟩ | ⟨hc9, hm⟩ := ite_or hm
         ·refine wp_condT F rfl hc9 ?_
          refine wp_seq ?_
          refine wp_region_lit ?_
          refine wE (ev_loadA tu25 rfl (cs := [.i6 y3.Code, .i6 y3.Index]) ts25 rfl (box_ptr (cells := [.i6 y3.Code, .i6 y3.Index]) 0 rfl 0 rfl (lb rfl))) F S rfl fun a F=>?_
          refine wl_storeC (wn rfl) rfl F S rfl rfl (vs := [.i6 y3.Code, .i6 y3.Index]) rfl ts25 (one_cons rfl (one_cons rfl one_nil)) (k := 2) rfl (lb rfl) (c' := #[.i6 y3.Code, .i6 y3.Index]) rfl rfl ?_; clear S; intro w S
          refine wpList_nil ?_
          refine then_n ?_
          refine wp_ret ?_
          refine inb_r ?_
          refine then_r ?_
          refine then_r ?_
          refine inb_r ?_
          refine then_r ?_
          refine inb_r ?_
          refine then_r ?_
          refine then_r ?_
          refine inb_r ?_
          refine then_r ?_
          obtain rfl := sinj hm
          obtain rfl := hfin2 _ rfl
          clear hm
          have hm : (some (Step.done (Sum.inl y3)) : Option (Step Int (Fault ⊕ Unit))) = some _ := hmo2
          obtain rfl := sinj hm
          obtain rfl := hfin1 _ rfl
          clear hm
          have hm : (some y3 : Option Fault) = some _ := hmo1
          obtain rfl := sinj hm
          refine post_r _ F rfl (ar_cons (resA rfl tu25 rfl (box_ptr (cells := [.i6 y3.Code, .i6 y3.Index]) 2 rfl 0 rfl (lb rfl) w S) ts25) ar_nil) ?_
          replace S : St g6 [] fr w := St.tail [] _ S
          exact ⟨_, rfl, g6, ((l2.trans l5).trans l6), S, rfl⟩
         ·refine wp_condF F rfl hc9 ?_
          refine wp_skip ?_
          refine inb_n ?_
          refine then_n ?_
          refine wp_region_lit ?_
          obtain ⟨z4, hz4, hm⟩ := bind_some hm
          refine wE (ev_int rfl rfl (bo_add hz4)) F S rfl fun a F=>?_
          refine wE (ev_move rfl) F S rfl fun a F=>?_
          refine wpList_nil ?_
          refine then_n ?_
          obtain rfl := sinj hm
          refine ⟨_, rfl, ?_⟩
          replace S : St g6 [[bx b2 #[.bool y1.Conflict, v1, v2, v3, v4] 70], [bx b1 #[.i6 0, .i6 0] 25]] fr w := St.tail [[bx b2 #[.bool y1.Conflict, v1, v2, v3, v4] 70], [bx b1 #[.i6 0, .i6 0] 25]] _ ((S.frontC 2 rfl).frontC 2 rfl)
          exact ⟨g6, F.sub ⟨rfl, rfl, rfl, rfl, rfl, rfl, rfl, rfl, trivial⟩, (l5.trans l6), S⟩
        ·refine wp_condF F rfl hc8 ?_
         refine wp_exit ?_
         refine then_e ?_
         refine then_e ?_
         refine inb_x ?_
         refine then_n ?_
         obtain rfl := sinj hm
         obtain rfl := hfin2 _ rfl
         clear hm
         have hm : (merge3_check.j3 x1 y1 : Option (Step Int (Fault ⊕ Unit))) = some _ := hmo2
         exact ⟨g5, F.sub ⟨rfl, rfl, rfl, rfl, rfl, rfl, trivial⟩, l5, S, hm⟩
      ·clear F S hm; rintro a w ⟨g4, F, l4, S, hm⟩
       refine wp_seq ?_
       refine wp_region_lit ?_
       refine wE (ev_fieldAddr' tu70 tf70_2 (z := 0) ts22 rfl ⟨_, rfl⟩ rfl) F S rfl fun a F=>?_
       refine wE (ev_load1 tu22 rfl rfl (box_ptr (cells := [v2]) 0 rfl 2 rfl (lb rfl))) F S rfl fun a F=>?_
       refine wE (ev_lenSh h2 rfl tu22) F S rfl fun a F=>?_
       refine wE (ev_fieldAddr' tu70 tf70_3 (z := 0) ts22 rfl ⟨_, rfl⟩ rfl) F S rfl fun a F=>?_
       refine wE (ev_load1 tu22 rfl rfl (box_ptr (cells := [v3]) 0 rfl 3 rfl (lb rfl))) F S rfl fun a F=>?_
       refine wE (ev_lenSh h3 rfl tu22) F S rfl fun a F=>?_
       obtain ⟨z2, hz2, hm⟩ := bind_some hm
       refine wE (ev_int rfl rfl (bo_add hz2)) F S rfl fun a F=>?_
       refine wE (ev_fieldAddr' tu70 tf70_4 (z := 0) ts22 rfl ⟨_, rfl⟩ rfl) F S rfl fun a F=>?_
       refine wE (ev_load1 tu22 rfl rfl (box_ptr (cells := [v4]) 0 rfl 4 rfl (lb rfl))) F S rfl fun a F=>?_
       refine wE (ev_lenSh h4 rfl tu22) F S rfl fun a F=>?_
       obtain ⟨z3, hz3, hm⟩ := bind_some hm
       refine wE (ev_int rfl rfl (bo_add hz3)) F S rfl fun a F=>?_
       refine wE (ev_assign rfl) F S rfl fun a F=>?_
       refine wpList_nil ?_
       refine then_n ?_
       refine wp_seq ?_
       refine wp_region_lit ?_
       refine wE (ev_fieldAddr' tu70 tf70_0 (z := 0) ts4 rfl ⟨_, rfl⟩ rfl) F S rfl fun a F=>?_
       refine wE (ev_load1 tu4 rfl rfl (box_ptr (cells := [.bool y1.Conflict]) 0 rfl 0 rfl (lb rfl))) F S rfl fun a F=>?_
       refine wE (ev_move rfl) F S rfl fun a F=>?_
       obtain ⟨x3, hx2, hm⟩ := bind_some hm
       refine wl_cut 5 (fun a w' => w = w' ∧ Fr 78 a [(58, .bool x3), (8, .i6 z3), (3, .i6 x1), (4, bp b2 0), (15, .i6 x1), (14, .i6 (chunks.length : Int)), (13, vchunks1), (2, bp b1 0)]) ?_ ?_
       ·clear hm; obtain ⟨hc3, hm⟩ | ⟨hc3, hm⟩ := ite_or hx2
        ·refine wl_ev (wg F rfl rfl rfl rfl hc3) (ev_fieldAddr' tu70 tf70_1 (z := 0) ts22 rfl ⟨_, rfl⟩ rfl) F S rfl rfl ?_; clear F a; intro a F
         refine wl_ev (wg F rfl rfl rfl rfl hc3) (ev_load1 tu22 rfl rfl (box_ptr (cells := [v1]) 0 rfl 1 rfl (lb rfl))) F S rfl rfl ?_; clear F a; intro a F
         refine wl_ev (wg F rfl rfl rfl rfl hc3) (ev_lenSh h1 rfl tu22) F S rfl rfl ?_; clear F a; intro a F
         refine wl_ev (wg F rfl rfl rfl rfl hc3) (ev_int rfl rfl (bo_gtr _ _ _ _)) F S rfl rfl ?_; clear F a; intro a F
         refine wE (ev_pickT rfl hc3 rfl) F S rfl fun a F=>?_
         obtain rfl := sinj hm
         refine wpList_nil (then_n ?_); exact ⟨rfl, F.sub ⟨rfl, rfl, rfl, rfl, rfl, rfl, rfl, rfl, trivial⟩⟩
        ·refine wl_skip rfl rfl rfl rfl (ne_tf hc3) F rfl rfl ?_; clear F a; intro a F
         refine wl_skip rfl rfl rfl rfl (ne_tf hc3) F rfl rfl ?_; clear F a; intro a F
         refine wl_skip rfl rfl rfl rfl (ne_tf hc3) F rfl rfl ?_; clear F a; intro a F
         refine wl_skip rfl rfl rfl rfl (ne_tf hc3) F rfl rfl ?_; clear F a; intro a F
         refine wE (ev_pickF rfl hc3 rfl) F S rfl fun a F=>?_
         obtain rfl := sinj hm
         refine wpList_nil (then_n ?_); exact ⟨rfl, F.sub ⟨rfl, rfl, rfl, rfl, rfl, rfl, rfl, rfl, trivial⟩⟩
       clear F; rintro a w' ⟨rfl, F⟩
       refine wE (ev_move rfl) F S rfl fun a F=>?_
       obtain ⟨x4, hx3, hm⟩ := bind_some hm
       refine wl_cut 14 (fun a w' => w = w' ∧ Fr 78 a [(73, .bool x4), (3, .i6 x1), (15, .i6 x1), (14, .i6 (chunks.length : Int)), (13, vchunks1), (2, bp b1 0)]) ?_ ?_
       ·clear hm; obtain ⟨hc4, hm⟩ | ⟨hc4, hm⟩ := ite_or hx3
        ·refine wl_skip rfl rfl rfl rfl (ne_ft hc4) F rfl rfl ?_; clear F a; intro a F
         refine wl_skip rfl rfl rfl rfl (ne_ft hc4) F rfl rfl ?_; clear F a; intro a F
         refine wl_skip rfl rfl rfl rfl (ne_ft hc4) F rfl rfl ?_; clear F a; intro a F
         refine wl_skip rfl rfl rfl rfl (ne_ft hc4) F rfl rfl ?_; clear F a; intro a F
         refine wl_skipu rfl rfl rfl rfl F rfl rfl ?_; clear F a; intro a F
         refine wl_skipu rfl rfl rfl rfl F rfl rfl ?_; clear F a; intro a F
         refine wl_skipu rfl rfl rfl rfl F rfl rfl ?_; clear F a; intro a F
         refine wl_skipu rfl rfl rfl rfl F rfl rfl ?_; clear F a; intro a F
         refine wl_skipu rfl rfl rfl rfl F rfl rfl ?_; clear F a; intro a F
         refine wl_skipu rfl rfl rfl rfl F rfl rfl ?_; clear F a; intro a F
         refine wl_skipu rfl rfl rfl rfl F rfl rfl ?_; clear F a; intro a F
         refine wl_skipu rfl rfl rfl rfl F rfl rfl ?_; clear F a; intro a F
         refine wl_skip rfl rfl rfl rfl (ne_ft hc4) F rfl rfl ?_; clear F a; intro a F
         refine wE (ev_pickT rfl hc4 rfl) F S rfl fun a F=>?_
         obtain rfl := sinj hm
         refine wpList_nil (then_n ?_); exact ⟨rfl, F.sub ⟨rfl, rfl, rfl, rfl, rfl, rfl, trivial⟩⟩
        ·refine wl_ev (wg F rfl rfl rfl rfl hc4) (ev_fieldAddr' tu70 tf70_0 (z := 0) ts4 rfl ⟨_, rfl⟩ rfl) F S rfl rfl ?_; clear F a; intro a F
         refine wl_ev (wg F rfl rfl rfl rfl hc4) (ev_load1 tu4 rfl rfl (box_ptr (cells := [.bool y1.Conflict]) 0 rfl 0 rfl (lb rfl))) F S rfl rfl ?_; clear F a; intro a F
         refine wl_ev (wg F rfl rfl rfl rfl hc4) (ev_not rfl) F S rfl rfl ?_; clear F a; intro a F
         refine wl_ev (wg F rfl rfl rfl rfl hc4) (ev_move rfl) F S rfl rfl ?_; clear F a; intro a F
         obtain ⟨x5, hx4, hm⟩ := bind_some hm
         refine wl_cut 9 (fun a w' => w = w' ∧ Fr 78 a [(72, .bool x5), (63, .bool !y1.Conflict), (62, .bool !y1.Conflict), (61, .bool y1.Conflict), (60, bp b2 0), (59, .bool x3), (3, .i6 x1), (15, .i6 x1), (14, .i6 (chunks.length : Int)), (13, vchunks1), (2, bp b1 0)]) ?_ ?_
         ·clear hm; obtain ⟨hc5, hm⟩ | ⟨hc5, hm⟩ := ite_or hx4
          ·refine wl_ev (wg F rfl rfl rfl rfl hc5) (ev_fieldAddr' tu70 tf70_1 (z := 0) ts22 rfl ⟨_, rfl⟩ rfl) F S rfl rfl ?_; clear F a; intro a F
           refine wl_ev (wg F rfl rfl rfl rfl hc5) (ev_load1 tu22 rfl rfl (box_ptr (cells := [v1]) 0 rfl 1 rfl (lb rfl))) F S rfl rfl ?_; clear F a; intro a F
           refine wl_ev (wg F rfl rfl rfl rfl hc5) (ev_lenSh h1 rfl tu22) F S rfl rfl ?_; clear F a; intro a F
           refine wl_ev (wg F rfl rfl rfl rfl hc5) (ev_int rfl rfl (bo_eql _ _ _ _)) F S rfl rfl ?_; clear F a; intro a F
           refine wl_ev (wg F rfl rfl rfl rfl hc5) (ev_move rfl) F S rfl rfl ?_; clear F a; intro a F
           obtain ⟨x6, hx5, hm⟩ := bind_some hm
           refine wl_cut 3 (fun a w' => w = w' ∧ Fr 78 a [(71, .bool x6), (68, .bool (decide ((y1.Lines.length : Int) = 0))), (67, .bool (decide ((y1.Lines.length : Int) = 0))), (66, .i6 (y1.Lines.length : Int)), (65, v1), (64, bp b2 1), (63, .bool !y1.Conflict), (62, .bool !y1.Conflict), (61, .bool y1.Conflict), (60, bp b2 0), (59, .bool x3), (3, .i6 x1), (15, .i6 x1), (14, .i6 (chunks.length : Int)), (13, vchunks1), (2, bp b1 0)]) ?_ ?_
           ·clear hm; obtain ⟨hc6, hm⟩ | ⟨hc6, hm⟩ := ite_or hx5
            ·refine wl_skip rfl rfl rfl rfl (ne_ft hc6) F rfl rfl ?_; clear F a; intro a F
             refine wl_skip rfl rfl rfl rfl (ne_ft hc6) F rfl rfl ?_; clear F a; intro a F
             refine wl_ev (wg F rfl rfl rfl rfl hc5) (ev_pickT rfl hc6 rfl) F S rfl rfl ?_; clear F a; intro a F
             obtain rfl := sinj hm
             refine wpList_nil (then_n ?_); exact ⟨rfl, F.sub ⟨rfl, rfl, rfl, rfl, rfl, rfl, rfl, rfl, rfl, rfl, rfl, rfl, rfl, rfl, rfl, rfl, trivial⟩⟩
            ·refine wl_ev (wg F rfl rfl rfl rfl hc6) (ev_move rfl) F S rfl rfl ?_; clear F a; intro a F
             refine wl_ev (wg F rfl rfl rfl rfl hc6) (ev_int rfl rfl (bo_gtr _ _ _ _)) F S rfl rfl ?_; clear F a; intro a F
             refine wl_ev (wg F rfl rfl rfl rfl hc5) (ev_pickF rfl hc6 rfl) F S rfl rfl ?_; clear F a; intro a F
             obtain rfl := sinj hm
             refine wpList_nil (then_n ?_); exact ⟨rfl, F.sub ⟨rfl, rfl, rfl, rfl, rfl, rfl, rfl, rfl, rfl, rfl, rfl, rfl, rfl, rfl, rfl, rfl, trivial⟩⟩
           clear F; rintro a w' ⟨rfl, F⟩
           refine wl_ev (wg F rfl rfl rfl rfl hc4) (ev_pickT rfl hc5 rfl) F S rfl rfl ?_; clear F a; intro a F
           obtain rfl := sinj hm
           refine wpList_nil (then_n ?_); exact ⟨rfl, F.sub ⟨rfl, rfl, rfl, rfl, rfl, rfl, rfl, rfl, rfl, rfl, rfl, trivial⟩⟩
          ·refine wl_skip rfl rfl rfl rfl (ne_tf hc5) F rfl rfl ?_; clear F a; intro a F
           refine wl_skip rfl rfl rfl rfl (ne_tf hc5) F rfl rfl ?_; clear F a; intro a F
           refine wl_skip rfl rfl rfl rfl (ne_tf hc5) F rfl rfl ?_; clear F a; intro a F
           refine wl_skip rfl rfl rfl rfl (ne_tf hc5) F rfl rfl ?_; clear F a; intro a F
           refine wl_skip rfl rfl rfl rfl (ne_tf hc5) F rfl rfl ?_; clear F a; intro a F
           refine wl_skipu rfl rfl rfl rfl F rfl rfl ?_; clear F a; intro a F
           refine wl_skipu rfl rfl rfl rfl F rfl rfl ?_; clear F a; intro a F
           refine wl_skip rfl rfl rfl rfl (ne_tf hc5) F rfl rfl ?_; clear F a; intro a F
           refine wl_ev (wg F rfl rfl rfl rfl hc4) (ev_pickF rfl hc5 rfl) F S rfl rfl ?_; clear F a; intro a F
           obtain rfl := sinj hm
           refine wpList_nil (then_n ?_); exact ⟨rfl, F.sub ⟨rfl, rfl, rfl, rfl, rfl, rfl, rfl, rfl, rfl, rfl, rfl, trivial⟩⟩
         clear F; rintro a w' ⟨rfl, F⟩
         refine wE (ev_pickF rfl hc4 rfl) F S rfl fun a F=>?_
         obtain rfl := sinj hm
         refine wpList_nil (then_n ?_); exact ⟨rfl, F.sub ⟨rfl, rfl, rfl, rfl, rfl, rfl, trivial⟩⟩
       clear F; rintro a w' ⟨rfl, F⟩
       refine wpList_nil ?_
       refine then_n ?_
       obtain ⟨hc7, hm⟩ | ⟨hc7, hm⟩ := ite_or hm
       ·refine wp_condT F rfl hc7 ?_
        refine wp_seq ?_
        refine wp_region_lit ?_
        refine wE (ev_move rfl) F S rfl fun a F=>?_
        refine wE (ev_build (parts := [(0, .const (.i6 5)), (1, .tmp 74)]) (vs := [(0, .i6 5), (1, .i6 x1)]) rfl (fun w => tb25_0_1 5 x1 w)) F S rfl fun a F=>?_
        refine wl_storeC (wn rfl) rfl F S rfl rfl (vs := [.i6 5, .i6 x1]) rfl ts25 (one_cons rfl (one_cons rfl one_nil)) (k := 1) rfl (lb rfl) (c' := #[.i6 5, .i6 x1]) rfl rfl ?_; clear S; intro w S
        refine wpList_nil ?_
        refine then_n ?_
        refine wp_ret ?_
        refine inb_r ?_
        refine then_r ?_
        refine then_r ?_
        refine inb_r ?_
        refine then_r ?_
        obtain rfl := sinj hm
        obtain rfl := hfin1 _ rfl
        clear hm
        have hm : (some ({ Code := 5, Index := x1 } : Fault) : Option Fault) = some _ := hmo1
        obtain rfl := sinj hm
        refine post_r _ F rfl (ar_cons (resA rfl tu25 rfl (box_ptr (cells := [.i6 5, .i6 x1]) 1 rfl 0 rfl (lb rfl) w S) ts25) ar_nil) ?_
        replace S : St g4 [] fr w := St.tail [] _ S
        exact ⟨_, rfl, g4, (l2.trans l4), S, rfl⟩
       ·refine wp_condF F rfl hc7 ?_
        refine wp_skip ?_
        refine inb_n ?_
        refine then_n ?_
        replace S : St g4 [[bx b1 #[.i6 0, .i6 0] 25]] fr w := St.tail [[bx b1 #[.i6 0, .i6 0] 25]] _ (S.frontC 1 rfl)
        exact ⟨g4, F.sub ⟨rfl, rfl, rfl, rfl, trivial⟩, l4, S, hm⟩
     ·clear F S hm; rintro a w ⟨g3, F, l3, S, hm⟩
      refine wp_region_lit ?_
      obtain ⟨z1, hz1, hm⟩ := bind_some hm
      refine wE (ev_int rfl rfl (bo_add hz1)) F S rfl fun a F=>?_
      refine wE (ev_move rfl) F S rfl fun a F=>?_
      refine wpList_nil ?_
      refine then_n ?_
      obtain rfl := sinj hm
      refine ⟨_, rfl, ?_⟩
      exact ⟨g3, F.sub ⟨rfl, rfl, rfl, rfl, trivial⟩, (l2.trans l3), S⟩
    ·refine wp_condF F rfl hc2 ?_
     refine wp_exit ?_
     refine then_e ?_
     refine then_e ?_
     refine inb_x ?_
     refine then_n ?_
     obtain rfl := sinj hm
     obtain rfl := hfin1 _ rfl
     clear hm
     have hm : (merge3_check.j1 : Option Fault) = some _ := hmo1
     exact ⟨g2, F.sub ⟨rfl, trivial⟩, l2, S, hm⟩
  ·clear F S hm; rintro a w ⟨g1, F, l1, S, hm⟩
   refine wp_seq ?_
   refine wp_region_lit ?_
   refine wE (ev_build (parts := []) (vs := []) rfl (fun w => tb25_  w)) F S rfl fun a F=>?_
   refine wl_storeC (wn rfl) rfl F S rfl rfl (vs := [.i6 0, .i6 0]) rfl ts25 (one_cons rfl (one_cons rfl one_nil)) (k := 0) rfl (lb rfl) (c' := #[.i6 0, .i6 0]) rfl rfl ?_; clear S; intro w S
   refine wpList_nil ?_
   refine then_n ?_
   refine wp_ret ?_
   obtain rfl := sinj hm
   refine post_r _ F rfl (ar_cons (resA rfl tu25 rfl (box_ptr (cells := [.i6 0, .i6 0]) 0 rfl 0 rfl (lb rfl) w S) ts25) ar_nil) ?_
   replace S : St g1 [] fr w := St.tail [] _ S
   exact ⟨_, rfl, g1, l1, S, rfl⟩

theorem merge3_whole_ok {g : Gh} {fr : Hl} {w : World} {r : (List ByteArray) × Fault} (l_ : (List ByteArray)) (vl_1 : Value) (hl_1 : RepSl g l_ vl_1) (S : St g [] fr w) (hm : merge3_whole l_ = some r) :
  Calls Tryd.prog 26 [vl_1].toArray w (fun en w' => ∃ v, en = .returned v ∧ ∃ (g' : Gh) (v1 : Value), Le g g' ∧ St g' [] fr w' ∧ RepSl g' r.1 v1 ∧ .tuple #[v1, .agg #[.i6 r.2.Code, .i6 r.2.Index]] = v) := by
 unfold merge3_whole at hm
 refine calls_enter (fn := Tryd.f26) Tryd.func26 rfl Tryd.ntmps26 (lb rfl) ?_
 intro a F
 replace F : Fr 10 a [(0, vl_1)] := F
 refine wp_seq ?_
 refine wp_region_lit ?_
 refine wE (ev_assign rfl) F S rfl fun a F=>?_
 refine wl_alloc (wn rfl) rfl tz25 (cs := [.i6 0, .i6 0]) rfl F S rfl rfl ?_; clear F a S; rintro b1 a w F S
 refine wpList_nil ?_
 refine then_n ?_
 refine wp_seq ?_
 refine wp_seq ?_
 refine wp_region_lit ?_
 refine wE (ev_move rfl) F S rfl fun a F=>?_
 refine wE (ev_lenSh hl_1 rfl tu22) F S rfl fun a F=>?_
 refine wE (ev_int rfl rfl (bo_gtr _ _ _ _)) F S rfl fun a F=>?_
 refine wpList_nil ?_
 refine then_n ?_
 obtain ⟨hc1, hm⟩ | ⟨hc1, hm⟩ := ite_or hm
 ·refine wp_condT F rfl hc1 ?_
  refine wp_seq ?_
  refine wp_region_lit ?_
  refine wE (ev_build (parts := [(0, .const (.i6 10)), (1, .const (.i6 (-1)))]) (vs := [(0, .i6 10), (1, .i6 (-1))]) rfl (fun w => tb25_0_1 10 (-1) w)) F S rfl fun a F=>?_
  refine wE (ev_assign rfl) F S rfl fun a F=>?_
  refine wl_storeC (wn rfl) rfl F S rfl rfl (vs := [.i6 10, .i6 (-1)]) rfl ts25 (one_cons rfl (one_cons rfl one_nil)) (k := 0) rfl (lb rfl) (c' := #[.i6 10, .i6 (-1)]) rfl rfl ?_; clear S; intro w S
  refine wpList_nil ?_
  refine then_n ?_
  refine wp_ret ?_
  refine then_r ?_
  obtain rfl := sinj hm
  refine post_r _ F rfl (ar_cons (resT rfl) (ar_cons (resA rfl tu25 rfl (box_ptr (cells := [.i6 10, .i6 (-1)]) 0 rfl 0 rfl (lb rfl) w S) ts25) ar_nil)) ?_
  replace S : St g [] fr w := St.tail [] _ S
  exact ⟨_, rfl, g, (nilS), (Le.refl _), S, (RepSl.nil _), rfl⟩
 ·refine wp_condF F rfl hc1 ?_
  refine wp_skip ?_
  refine then_n ?_
  refine wp_seq ?_
  refine wp_region_lit ?_
  refine wE (ev_move rfl) F S rfl fun a F=>?_
  refine wE (ev_build (parts := []) (vs := []) rfl (fun w => tb25_  w)) F S rfl fun a F=>?_
  refine wE (ev_assign rfl) F S rfl fun a F=>?_
  refine wl_storeC (wn rfl) rfl F S rfl rfl (vs := [.i6 0, .i6 0]) rfl ts25 (one_cons rfl (one_cons rfl one_nil)) (k := 0) rfl (lb rfl) (c' := #[.i6 0, .i6 0]) rfl rfl ?_; clear S; intro w S
  refine wpList_nil ?_
  refine then_n ?_
  refine wp_ret ?_
  obtain rfl := sinj hm
  refine post_r _ F rfl (ar_cons (resT rfl) (ar_cons (resA rfl tu25 rfl (box_ptr (cells := [.i6 0, .i6 0]) 0 rfl 0 rfl (lb rfl) w S) ts25) ar_nil)) ?_
  replace S : St g [] fr w := St.tail [] _ S
  exact ⟨_, rfl, g, vl_1, (Le.refl _), S, hl_1, rfl⟩

theorem merge3_Clean_ok {g : Gh} {fr : Hl} {w : World} {r : (List ByteArray) × Bool × Fault} (chunks : (List Chunk)) (vchunks1 : Value) (hchunks1 : RepSl g chunks vchunks1) (S : St g [] fr w) (hm : merge3_Clean chunks = some r) :
  Calls Tryd.prog 7 [vchunks1].toArray w (fun en w' => ∃ v, en = .returned v ∧ ∃ (g' : Gh) (v1 : Value), Le g g' ∧ St g' [] fr w' ∧ RepSl g' r.1 v1 ∧ .tuple #[v1, .bool r.2.1, .agg #[.i6 r.2.2.Code, .i6 r.2.2.Index]] = v) := by
 unfold merge3_Clean at hm
 refine calls_enter (fn := Tryd.f7) Tryd.func7 rfl Tryd.ntmps7 (lb rfl) ?_
 intro a F
 replace F : Fr 40 a [(0, vchunks1)] := F
 refine wp_seq ?_
 refine wp_region_lit ?_
 refine wE (ev_assign rfl) F S rfl fun a F=>?_
 refine wE (ev_assign rfl) F S rfl fun a F=>?_
 refine wl_alloc (wn rfl) rfl tz25 (cs := [.i6 0, .i6 0]) rfl F S rfl rfl ?_; clear F a S; rintro b1 a w F S
 refine wpList_nil ?_
 refine then_n ?_
 refine wp_seq ?_
 refine wp_seq ?_
 refine wp_region_lit ?_
 refine wE (ev_move rfl) F S rfl fun a F=>?_
 obtain ⟨y1, hy1, hm⟩ := bind_some hm
 refine wl_call0 (wn rfl) rfl F rfl (merge3_check_ok (fr := (fl [[bx b1 #[.i6 0, .i6 0] 25]] fr)) chunks vchunks1 hchunks1 S hy1) rfl tc25 rfl rfl ?_; clear F a S
 rintro _ a w ⟨g1, l1, S, rfl⟩ F; replace S : St g1 [[bx b1 #[.i6 0, .i6 0] 25]] fr w := S
 refine wl_alloc (wn rfl) rfl tz25 (cs := [.i6 0, .i6 0]) rfl F S rfl rfl ?_; clear F a S; rintro b2 a w F S
 refine wl_storeC (wn rfl) rfl F S rfl rfl (vs := [.i6 y1.Code, .i6 y1.Index]) rfl ts25 (one_cons rfl (one_cons rfl one_nil)) (k := 0) rfl (lb rfl) (c' := #[.i6 y1.Code, .i6 y1.Index]) rfl rfl ?_; clear S; intro w S
 refine wpList_nil ?_
 refine then_n ?_
 refine wp_seq ?_
 refine wp_region_lit ?_
 refine wE (ev_loadA tu25 rfl (cs := [.i6 y1.Code, .i6 y1.Index]) ts25 rfl (box_ptr (cells := [.i6 y1.Code, .i6 y1.Index]) 0 rfl 0 rfl (lb rfl))) F S rfl fun a F=>?_
 refine wE (ev_build (parts := []) (vs := []) rfl (fun w => tb25_  w)) F S rfl fun a F=>?_
 refine wE (ev_neS tu25 tqa25 tqb25 tqc25 (xs := [.i6 y1.Code, .i6 y1.Index]) (ys := [.i6 0, .i6 0]) rfl rfl ⟨_, _, rfl, by decide, ⟨_, _, rfl, rfl, leaf_int tu3⟩, ⟨_, _, rfl, by decide, ⟨_, _, rfl, rfl, leaf_int tu3⟩, rfl⟩⟩) F S rfl fun a F=>?_
 refine wpList_nil ?_
 refine then_n ?_
 obtain ⟨hc1, hm⟩ | ⟨hc1, hm⟩ := ite_or hm
 ·refine wp_condT F rfl hc1 ?_
  refine wp_seq ?_
  refine wp_dv [] mo S ?_; clear S; intro ok1 w S
  refine dv_ev ok1 0 rfl (ev_loadA tu25 rfl (cs := [.i6 y1.Code, .i6 y1.Index]) ts25 rfl (box_ptr (cells := [.i6 y1.Code, .i6 y1.Index]) 0 rfl 0 rfl (lb rfl))) F S rfl fun a F=>?_
  refine dv_et ok1 1 rfl (ev_assign rfl) F rfl fun a F=>?_
  refine dv_et ok1 2 rfl (ev_assign rfl) F rfl fun a F=>?_
  refine dv_op ok1 3 rfl [] ?_
  refine wl_storeC (wn rfl) rfl F S rfl rfl (vs := [.i6 y1.Code, .i6 y1.Index]) rfl ts25 (one_cons rfl (one_cons rfl one_nil)) (k := 1) rfl (lb rfl) (c' := #[.i6 y1.Code, .i6 y1.Index]) rfl rfl ?_; clear S; intro w S
  refine dv_nx trivial ?_
  refine dv_fin ok1 ?_
  refine then_n ?_
  refine wp_ret ?_
  refine then_r ?_
  obtain rfl := sinj hm
  refine post_r _ F rfl (ar_cons (resT rfl) (ar_cons (resT rfl) (ar_cons (resA rfl tu25 rfl (box_ptr (cells := [.i6 y1.Code, .i6 y1.Index]) 1 rfl 0 rfl (lb rfl) w S) ts25) ar_nil))) ?_
  replace S : St g1 [] fr w := St.tail [] _ S
  exact ⟨_, rfl, g1, (nilS), l1, S, (RepSl.nil _), rfl⟩
 ·refine wp_condF F rfl hc1 ?_
  refine wp_skip ?_
  refine then_n ?_
  refine wp_seq ?_
  refine wp_region_lit ?_
  refine wE (ev_assign rfl) F S rfl fun a F=>?_
  refine wpList_nil ?_
  refine then_n ?_
  refine wp_cut (fun a w => ∃ (x1 : List ByteArray) (v1 : Value) (c1 : Hl) (g2 : Gh), Fr 40 a [(6, v1), (4, bp b1 0)] ∧ Le g1 g2 ∧ St g2 [c1, [bx b1 #[.i6 0, .i6 0] 25]] fr w ∧ OwnS g2 x1 v1 c1 ∧ merge3_Clean.j1 x1 = some r) ?_ ?_
  ·refine wp_seq ?_
   refine wp_region_lit ?_
   refine wE (ev_move rfl) F S rfl fun a F=>?_
   refine wE (ev_lenSh hchunks1 rfl tu23) F S rfl fun a F=>?_
   refine wE (ev_move rfl) F S rfl fun a F=>?_
   refine wpList_nil ?_
   refine then_n ?_
   refine wp_block ?_
   obtain ⟨r1, hr1, hm⟩ := bind_some hm
   have hmo1 := hm; clear hm
   refine wp_iter (σ := Int × (List ByteArray)) (ρ := ((List ByteArray) × Bool × Fault) ⊕ (List ByteArray)) (m := fun s => merge3_Clean.l1 chunks s.1 s.2) (I := fun s a w => match s with | (x2, x3) => ∃ (v3 : Value) (c2 : Hl) (g5 : Gh), Fr 40 a [(18, .i6 x2), (17, .i6 (chunks.length : Int)), (16, vchunks1), (6, v3), (4, bp b1 0)] ∧ Le g1 g5 ∧ St g5 [c2, [bx b1 #[.i6 0, .i6 0] 25]] fr w ∧ OwnS g5 x3 v3 c2) hr1 ?_ ?_
   ·dsimp only
    replace S : St g1 [[], [bx b2 #[.i6 y1.Code, .i6 y1.Index] 25], [bx b1 #[.i6 0, .i6 0] 25]] fr w := S
    replace S : St g1 [[], [bx b1 #[.i6 0, .i6 0] 25]] fr w := St.tail [[], [bx b1 #[.i6 0, .i6 0] 25]] _ ((S.frontC 2 rfl).frontC 1 rfl)
    exact ⟨(nilS), [], g1, F.sub ⟨rfl, rfl, rfl, rfl, rfl, trivial⟩, (Le.refl _), S, (OwnS.nil _)⟩
   ·clear F S; rintro ⟨x2, x3⟩ a w x4 ⟨v3, c2, g5, F, l5, S, h4⟩ hx1 hfin1
    have hm : merge3_Clean.l1 chunks x2 x3 = some x4 := hx1; clear hx1
    unfold merge3_Clean.l1 at hm
    refine wp_seq ?_
    refine wp_region_lit ?_
    refine wE (ev_int rfl rfl (bo_lss _ _ _ _)) F S rfl fun a F=>?_
    refine wpList_nil ?_
    refine then_n ?_
    refine wp_seq ?_
    obtain ⟨hc2, hm⟩ | ⟨hc2, hm⟩ := ite_or hm
    ·refine wp_condT F rfl hc2 ?_
     refine wp_skip ?_
     refine then_n ?_
     refine wp_seq ?_
     refine wp_block ?_
     refine wp_seq ?_
     refine wp_region_lit ?_
     obtain ⟨y3, hy3, hm⟩ := bind_some hm
     obtain ⟨cs1, hr2, hp1⟩ := elemS (hchunks1.mono (l1.trans l5)) hy3
     obtain ⟨v4, v5, v6, v7, rfl, h5, h6, h7, h8⟩ := rep_Chunk hr2
     refine wE (ev_idxS (hchunks1.mono (l1.trans l5)) hy3 tu23 ts70 rfl rfl) F S rfl fun a F=>?_
     refine wE (ev_loadA tu70 rfl (cs := [.bool y3.Conflict, v4, v5, v6, v7]) ts70 rfl (ptr_mono (cks := [c2, [bx b1 #[.i6 0, .i6 0] 25]]) (fr := fr) hp1 (Le.refl _))) F S rfl fun a F=>?_
     refine wl_alloc (wn rfl) rfl tz70 (cs := [.bool false, nilS, nilS, nilS, nilS]) rfl F S rfl rfl ?_; clear F a S; rintro b4 a w F S
     refine wl_storeC (wn rfl) rfl F S rfl rfl (vs := [.bool y3.Conflict, v4, v5, v6, v7]) rfl ts70 (one_cons rfl (one_cons h5.one (one_cons h6.one (one_cons h7.one (one_cons h8.one one_nil))))) (k := 0) rfl (lb rfl) (c' := #[.bool y3.Conflict, v4, v5, v6, v7]) rfl rfl ?_; clear S; intro w S
     refine wpList_nil ?_
     refine then_n ?_
     refine wp_seq ?_
     refine wp_seq ?_
     refine wp_region_lit ?_
     refine wE (ev_fieldAddr' tu70 tf70_0 (z := 0) ts4 rfl ⟨_, rfl⟩ rfl) F S rfl fun a F=>?_
     refine wE (ev_load1 tu4 rfl rfl (box_ptr (cells := [.bool y3.Conflict]) 0 rfl 0 rfl (lb rfl))) F S rfl fun a F=>?_
     refine wpList_nil ?_
     refine then_n ?_
     obtain ⟨hc3, hm⟩ | ⟨hc3, hm⟩ := ite_or hm
     ·refine wp_condT F rfl hc3 ?_
      refine wp_seq ?_
      refine wp_region_lit ?_
      refine wE (ev_build (parts := []) (vs := []) rfl (fun w => tb25_  w)) F S rfl fun a F=>?_
      refine wE (ev_assign rfl) F S rfl fun a F=>?_
      refine wE (ev_assign rfl) F S rfl fun a F=>?_
      refine wl_storeC (wn rfl) rfl F S rfl rfl (vs := [.i6 0, .i6 0]) rfl ts25 (one_cons rfl (one_cons rfl one_nil)) (k := 2) rfl (lb rfl) (c' := #[.i6 0, .i6 0]) rfl rfl ?_; clear S; intro w S
      refine wpList_nil ?_
      refine then_n ?_
      refine wp_ret ?_
      refine then_r ?_
      refine inb_r ?_
      refine then_r ?_
      refine then_r ?_
      refine inb_r ?_
      refine then_r ?_
      obtain rfl := sinj hm
      obtain rfl := hfin1 _ rfl
      clear hm
      have hm : (some ([], false, ({ Code := 0, Index := 0 } : Fault)) : Option ((List ByteArray) × Bool × Fault)) = some _ := hmo1
      obtain rfl := sinj hm
      refine post_r _ F rfl (ar_cons (resT rfl) (ar_cons (resT rfl) (ar_cons (resA rfl tu25 rfl (box_ptr (cells := [.i6 0, .i6 0]) 2 rfl 0 rfl (lb rfl) w S) ts25) ar_nil))) ?_
      replace S : St g5 [] fr w := St.tail [] _ S
      exact ⟨_, rfl, g5, (nilS), (l1.trans l5), S, (RepSl.nil _), rfl⟩
     ·refine wp_condF F rfl hc3 ?_
      refine wp_skip ?_
      refine then_n ?_
      refine wp_region_lit ?_
      refine wE (ev_move rfl) F S rfl fun a F=>?_
      refine wE (ev_fieldAddr' tu70 tf70_1 (z := 0) ts22 rfl ⟨_, rfl⟩ rfl) F S rfl fun a F=>?_
      refine wE (ev_load1 tu22 rfl rfl (box_ptr (cells := [v4]) 0 rfl 1 rfl (lb rfl))) F S rfl fun a F=>?_
      obtain ⟨cs2, hk1, hr3⟩ := RepSl.reads h5
      obtain ⟨y4, hy4, hm⟩ := bind_some hm
      refine wl_append (wn rfl) rfl tu22 tu22 te9 (by decide) (by decide) F S rfl rfl (k := 1) rfl h4 hk1 rfl (hr3 _ _ S) hy4 rfl rfl ?_; clear F a S
      rintro v8 c3 a w h9 S F; replace S : St g5 [[bx b4 #[.bool y3.Conflict, v4, v5, v6, v7] 70], c3, [bx b1 #[.i6 0, .i6 0] 25]] fr w := S
      refine wE (ev_assign rfl) F S rfl fun a F=>?_
      refine wpList_nil ?_
      refine inb_n ?_
      refine then_n ?_
      refine wp_region_lit ?_
      obtain ⟨z1, hz1, hm⟩ := bind_some hm
      refine wE (ev_int rfl rfl (bo_add hz1)) F S rfl fun a F=>?_
      refine wE (ev_move rfl) F S rfl fun a F=>?_
      refine wpList_nil ?_
      refine then_n ?_
      obtain rfl := sinj hm
      refine ⟨_, rfl, ?_⟩
      dsimp only
      replace S : St g5 [c3, [bx b1 #[.i6 0, .i6 0] 25]] fr w := St.tail [c3, [bx b1 #[.i6 0, .i6 0] 25]] _ ((S.frontC 2 rfl).frontC 2 rfl)
      exact ⟨v8, c3, g5, F.sub ⟨rfl, rfl, rfl, rfl, rfl, trivial⟩, l5, S, h9⟩
    ·refine wp_condF F rfl hc2 ?_
     refine wp_exit ?_
     refine then_e ?_
     refine then_e ?_
     refine inb_x ?_
     refine then_n ?_
     obtain rfl := sinj hm
     obtain rfl := hfin1 _ rfl
     clear hm
     have hm : (merge3_Clean.j1 x3 : Option ((List ByteArray) × Bool × Fault)) = some _ := hmo1
     exact ⟨x3, v3, c2, g5, F.sub ⟨rfl, rfl, trivial⟩, l5, S, h4, hm⟩
  ·clear F S hm; rintro a w ⟨x1, v1, c1, g2, F, l2, S, h1, hm⟩
   refine wp_seq ?_
   refine wp_region_lit ?_
   refine wE (ev_move rfl) F S rfl fun a F=>?_
   obtain ⟨g3, l3, S, h2⟩ : ∃ gz, Le g2 gz ∧ St gz [[bx b1 #[.i6 0, .i6 0] 25]] fr w ∧ RepSl gz x1 v1 := ⟨_, Le.add _ _, S.freeze 0 rfl, OwnS.freeze (S.front 0 rfl) h1⟩
   obtain ⟨y2, hy2, hm⟩ := bind_some hm
   refine wl_call0 (wn rfl) rfl F rfl (merge3_whole_ok (fr := (fl [[bx b1 #[.i6 0, .i6 0] 25]] fr)) x1 v1 h2 S hy2) rfl tc26 rfl rfl ?_; clear F a S
   rintro _ a w ⟨g4, v2, l4, S, h3, rfl⟩ F; replace S : St g4 [[bx b1 #[.i6 0, .i6 0] 25]] fr w := S
   refine wE (ev_move rfl) F S rfl fun a F=>?_
   refine wE (ev_extract rfl rfl) F S rfl fun a F=>?_
   refine wE (ev_extract rfl rfl) F S rfl fun a F=>?_
   refine wl_alloc (wn rfl) rfl tz25 (cs := [.i6 0, .i6 0]) rfl F S rfl rfl ?_; clear F a S; rintro b3 a w F S
   refine wE (ev_assign rfl) F S rfl fun a F=>?_
   refine wl_storeC (wn rfl) rfl F S rfl rfl (vs := [.i6 y2.2.Code, .i6 y2.2.Index]) rfl ts25 (one_cons rfl (one_cons rfl one_nil)) (k := 0) rfl (lb rfl) (c' := #[.i6 y2.2.Code, .i6 y2.2.Index]) rfl rfl ?_; clear S; intro w S
   refine wpList_nil ?_
   refine then_n ?_
   refine wp_seq ?_
   refine wp_dv [] mo S ?_; clear S; intro ok2 w S
   refine dv_et ok2 0 rfl (ev_move rfl) F rfl fun a F=>?_
   refine dv_ev ok2 1 rfl (ev_loadA tu25 rfl (cs := [.i6 y2.2.Code, .i6 y2.2.Index]) ts25 rfl (box_ptr (cells := [.i6 y2.2.Code, .i6 y2.2.Index]) 0 rfl 0 rfl (lb rfl))) F S rfl fun a F=>?_
   refine dv_et ok2 2 rfl (ev_build (parts := []) (vs := []) rfl (fun w => tb25_  w)) F rfl fun a F=>?_
   refine dv_et ok2 3 rfl (ev_eqS tu25 tqa25 tqb25 tqc25 (xs := [.i6 y2.2.Code, .i6 y2.2.Index]) (ys := [.i6 0, .i6 0]) rfl rfl ⟨_, _, rfl, by decide, ⟨_, _, rfl, rfl, leaf_int tu3⟩, ⟨_, _, rfl, by decide, ⟨_, _, rfl, rfl, leaf_int tu3⟩, rfl⟩⟩) F rfl fun a F=>?_
   refine dv_ev ok2 4 rfl (ev_loadA tu25 rfl (cs := [.i6 y2.2.Code, .i6 y2.2.Index]) ts25 rfl (box_ptr (cells := [.i6 y2.2.Code, .i6 y2.2.Index]) 0 rfl 0 rfl (lb rfl))) F S rfl fun a F=>?_
   refine dv_et ok2 5 rfl (ev_assign rfl) F rfl fun a F=>?_
   refine dv_et ok2 6 rfl (ev_assign rfl) F rfl fun a F=>?_
   refine dv_op ok2 7 rfl [] ?_
   refine wl_storeC (wn rfl) rfl F S rfl rfl (vs := [.i6 y2.2.Code, .i6 y2.2.Index]) rfl ts25 (one_cons rfl (one_cons rfl one_nil)) (k := 1) rfl (lb rfl) (c' := #[.i6 y2.2.Code, .i6 y2.2.Index]) rfl rfl ?_; clear S; intro w S
   refine dv_nx trivial ?_
   refine dv_fin ok2 ?_
   refine then_n ?_
   refine wp_ret ?_
   obtain rfl := sinj hm
   refine post_r _ F rfl (ar_cons (resT rfl) (ar_cons (resT rfl) (ar_cons (resA rfl tu25 rfl (box_ptr (cells := [.i6 y2.2.Code, .i6 y2.2.Index]) 1 rfl 0 rfl (lb rfl) w S) ts25) ar_nil))) ?_
   replace S : St g4 [] fr w := St.tail [] _ S
   exact ⟨_, rfl, g4, v2, (((l1.trans l2).trans l3).trans l4), S, h3, rfl⟩
end Go.Dc
