/- Walks: each function comes to what its model says. -/
import Derived.Test.YthknfnjdnclphaaDcTab
import Derived.Test.YthknfnjdnclphaaDcM
import Derived.Test.YthknfnjdnclphaaDcW1
namespace Go.Dc
open Go Go.Proofs
set_option maxRecDepth 100000
set_option maxHeartbeats 4000000
set_option linter.unusedVariables false
theorem slices_Grow_9_ok {g : Gh} {fr : Hl} {w : World} {r : List ByteArray} (n_ : Int) (S : St g [] fr w) (hm : grow0 ByteArray 16 n_ = some r) :
 Calls Try.prog 64 [nilS, .i6 n_].toArray w (fun en w' => ∃ v, en = .returned v ∧ ∃ (g' : Gh) (v1 : Value) (c1 : Hl), Le g g' ∧ St g' [c1] fr w' ∧ OwnS g' r v1 c1 ∧ v1 = v) := by
 obtain ⟨p, rfl, hb, rfl⟩ := grow0_some hm
 refine calls_enter (fn := Try.f64) Try.func64 rfl Try.ntmps64 (lb rfl) ?_
 intro a F
 replace F : Fr 27 a [(0, nilS), (1, .i6 p)] := F
 refine wp_seq ?_
 refine wp_region_lit ?_
 refine wE (ev_assign rfl) F S rfl fun a F=>?_
 refine wpList_nil ?_
 refine then_n ?_
 refine wp_seq ?_
 refine wp_seq ?_
 refine wp_region_lit ?_
 refine wE (ev_move rfl) F S rfl fun a F=>?_
 refine wE (ev_int rfl rfl (bo_lss _ _ _ _)) F S rfl fun a F=>?_
 refine wpList_nil ?_
 refine then_n ?_
 refine wp_condF F rfl (decide_eq_false (by omega)) ?_
 refine wp_skip ?_
 refine then_n ?_
 refine wp_seq ?_
 refine wp_seq ?_
 refine wp_region_lit ?_
 refine wE (ev_move rfl) F S rfl fun a F=>?_
 refine wE (ev_move rfl) F S rfl fun a F=>?_
 refine wE (ev_capR rfl tu22) F S rfl fun a F=>?_
 refine wE (ev_move rfl) F S rfl fun a F=>?_
 refine wE (ev_len rfl tu22) F S rfl fun a F=>?_
 refine wE (ev_int rfl rfl (bo_sub (ckI (by decide) (by decide)))) F S rfl fun a F=>?_
 refine wE (ev_int rfl rfl (bo_sub (ckI (by omega) (by omega)))) F S rfl fun a F=>?_
 refine wE (ev_assign rfl) F S rfl fun a F=>?_
 refine wpList_nil ?_
 refine then_n ?_
 refine wp_seq ?_
 refine wp_region_lit ?_
 refine wE (ev_move rfl) F S rfl fun a F=>?_
 refine wE (ev_int rfl rfl (bo_gtr _ _ _ _)) F S rfl fun a F=>?_
 refine wpList_nil ?_
 refine then_n ?_
 by_cases hc1 : (p : Int) - ((0 : Nat) - (0 : Nat)) > 0
 ·refine wp_condT F rfl (decide_eq_true hc1) ?_
  refine wp_region_lit ?_
  refine wE (ev_move rfl) F S rfl fun a F=>?_
  refine wE (ev_move rfl) F S rfl fun a F=>?_
  refine wE (ev_capR rfl tu22) F S rfl fun a F=>?_
  refine wE (ev_slice0 tu22 ts9 rfl rfl ⟨_, rfl⟩) F S rfl fun a F=>?_
  refine wE (ev_move rfl) F S rfl fun a F=>?_
  have hap : app? 16 ([] : List ByteArray) (List.replicate ((p : Int) - ((0 : Nat) - (0 : Nat))).toNat (ByteArray.empty : ByteArray)) = some (List.replicate p (ByteArray.empty : ByteArray)) := by
   unfold app?; rw [if_pos ?_]
   ·rw [List.nil_append, show ((p : Int) - ((0 : Nat) - (0 : Nat))).toNat = p by omega]
   ·rw [List.length_nil, List.length_replicate, show 0 + ((p : Int) - ((0 : Nat) - (0 : Nat))).toNat = p by omega]; exact hb
  refine wl_appendZ (wn rfl) rfl tu22 tu3 te9 zr9 (by decide) (by decide) F S rfl (base := Option.none) (cap := 0) (l := []) rfl rfl (Cat.nil _) (.inl ⟨rfl, _, _, rfl⟩) (by omega) (by simp only [List.length_nil]; omega) hap rfl rfl ?_; clear F a S
  intro v4 c4 a w h4 S F
  have hp0 : p ≠ 0 := by omega
  obtain ⟨b4, cap4, arr4, t4, rfl, rfl, hcap4, hsz4, ha4⟩ := h4.open (by intro h; have := congrArg List.length h; simp at this; omega)
  refine wE (ev_move rfl) F S rfl fun a F=>?_
  refine wE (ev_len rfl tu22) F S rfl fun a F=>?_
  refine wE (ev_sliceR0 (q := (0 : Nat)) tu22 ts9 rfl rfl ⟨_, rfl⟩ (by omega) (by omega)) F S rfl fun a F=>?_
  refine wE (ev_assign rfl) F S rfl fun a F=>?_
  refine wpList_nil ?_
  refine then_n ?_
  refine wp_seq ?_
  refine wp_region_lit ?_
  refine wE (ev_move rfl) F S rfl fun a F=>?_
  refine wE (ev_assign rfl) F S rfl fun a F=>?_
  refine wpList_nil ?_
  refine then_n ?_
  refine wp_ret ?_
  refine post_r _ F rfl (ar_cons (resT rfl) ar_nil) ?_
  exact ⟨_, rfl, g, _, _, Le.refl _, S, (CatA.pre (a := []) ha4).shut rfl (Nat.zero_le _) hsz4, rfl⟩
 ·refine wp_condF F rfl (decide_eq_false hc1) ?_
  refine wp_skip ?_
  refine then_n ?_
  refine wp_seq ?_
  refine wp_region_lit ?_
  refine wE (ev_move rfl) F S rfl fun a F=>?_
  refine wE (ev_assign rfl) F S rfl fun a F=>?_
  refine wpList_nil ?_
  refine then_n ?_
  refine wp_ret ?_
  refine post_r _ F rfl (ar_cons (resT rfl) ar_nil) ?_
  exact ⟨_, rfl, g, _, [], Le.refl _, S, .nil _, rfl⟩


theorem slices_Concat_ok {g : Gh} {fr : Hl} {w : World} {r : (List ByteArray)} (slices : (List (List ByteArray))) (vslices1 : Value) (hslices1 : RepSl g slices vslices1) (S : St g [] fr w) (hm : slices_Concat slices = some r) :
  Calls Try.prog 51 [vslices1].toArray w (fun en w' => ∃ v, en = .returned v ∧ ∃ (g' : Gh) (v1 : Value) (c1 : Hl), Le g g' ∧ St g' [c1] fr w' ∧ OwnS g' r v1 c1 ∧ v1 = v) := by
 unfold slices_Concat at hm
 refine calls_enter (fn := Try.f51) Try.func51 rfl Try.ntmps51 (lb rfl) ?_
 intro a F
 replace F : Fr 36 a [(0, vslices1)] := F
 refine wp_seq ?_
 refine wp_region_lit ?_
 refine wE (ev_assign rfl) F S rfl fun a F=>?_
 refine wpList_nil ?_
 refine then_n ?_
 refine wp_seq ?_
 refine wp_region_lit ?_
 refine wE (ev_assign rfl) F S rfl fun a F=>?_
 refine wpList_nil ?_
 refine then_n ?_
 refine wp_cut (fun a w => ∃ (x1 : Int) (g1 : Gh), Fr 36 a [(3, .i6 x1), (0, vslices1)] ∧ Le g g1 ∧ St g1 [] fr w ∧ slices_Concat.j1 slices x1 = some r) ?_ ?_
 ·refine wp_seq ?_
  refine wp_region_lit ?_
  refine wE (ev_move rfl) F S rfl fun a F=>?_
  refine wE (ev_lenSh hslices1 rfl tu88) F S rfl fun a F=>?_
  refine wE (ev_move rfl) F S rfl fun a F=>?_
  refine wpList_nil ?_
  refine then_n ?_
  refine wp_block ?_
  obtain ⟨r2, hr4, hm⟩ := bind_some hm
  have hmo2 := hm; clear hm
  refine wp_iter (σ := Int × Int) (ρ := Int) (m := fun s => slices_Concat.l2 slices s.1 s.2) (I := fun s a w => match s with | (x6, x7) => ∃ (g5 : Gh), Fr 36 a [(11, .i6 x6), (10, .i6 (slices.length : Int)), (9, vslices1), (3, .i6 x7), (0, vslices1)] ∧ Le g g5 ∧ St g5 [] fr w) hr4 ?_ ?_
  ·dsimp only
   exact ⟨g, F.sub ⟨rfl, rfl, rfl, rfl, rfl, trivial⟩, (Le.refl _), S⟩
  ·clear F S; rintro ⟨x6, x7⟩ a w x8 ⟨g5, F, l5, S⟩ hx2 hfin2
   have hm : slices_Concat.l2 slices x6 x7 = some x8 := hx2; clear hx2
   unfold slices_Concat.l2 at hm
   refine wp_seq ?_
   refine wp_region_lit ?_
   refine wE (ev_int rfl rfl (bo_lss _ _ _ _)) F S rfl fun a F=>?_
   refine wpList_nil ?_
   refine then_n ?_
   refine wp_seq ?_
   obtain ⟨hc2, hm⟩ | ⟨hc2, hm⟩ := ite_or hm
   ·refine wp_condT F rfl hc2 ?_
    refine wp_skip ?_
    refine then_n ?_
    refine wp_cut (fun a w => ∃ (x9 : Int) (g6 : Gh), Fr 36 a [(3, .i6 x9), (11, .i6 x6), (10, .i6 (slices.length : Int)), (9, vslices1), (0, vslices1)] ∧ Le g5 g6 ∧ St g6 [] fr w ∧ slices_Concat.j3 x6 x9 = some x8) ?_ ?_
    ·refine wp_block ?_
     refine wp_seq ?_
     refine wp_region_lit ?_
     obtain ⟨y4, hy4, hm⟩ := bind_some hm
     obtain ⟨cs3, hr5, hp2⟩ := elemS (hslices1.mono l5) hy4
     obtain ⟨v6, rfl, h6⟩ := rep_list hr5
     refine wE (ev_idxS (hslices1.mono l5) hy4 tu88 ts22 rfl rfl) F S rfl fun a F=>?_
     refine wE (ev_load1 tu22 rfl rfl (ptr_mono (cks := []) (fr := fr) hp2 (Le.refl _))) F S rfl fun a F=>?_
     refine wE (ev_assign rfl) F S rfl fun a F=>?_
     refine wpList_nil ?_
     refine then_n ?_
     refine wp_seq ?_
     refine wp_region_lit ?_
     refine wE (ev_move rfl) F S rfl fun a F=>?_
     refine wE (ev_move rfl) F S rfl fun a F=>?_
     refine wE (ev_lenSh h6 rfl tu22) F S rfl fun a F=>?_
     obtain ⟨z3, hz3, hm⟩ := bind_some hm
     refine wE (ev_int rfl rfl (bo_add hz3)) F S rfl fun a F=>?_
     refine wE (ev_assign rfl) F S rfl fun a F=>?_
     refine wpList_nil ?_
     refine then_n ?_
     refine wp_seq ?_
     refine wp_region_lit ?_
     refine wE (ev_move rfl) F S rfl fun a F=>?_
     refine wE (ev_int rfl rfl (bo_lss _ _ _ _)) F S rfl fun a F=>?_
     refine wpList_nil ?_
     refine then_n ?_
     obtain ⟨hc3, hm⟩ | ⟨hc3, hm⟩ := ite_or hm
     ·refine wp_condT F rfl hc3 ?_
      cases hm
     ·refine wp_condF F rfl hc3 ?_
      refine wp_skip ?_
      refine inb_n ?_
      refine then_n ?_
      exact ⟨z3, g5, F.sub ⟨rfl, rfl, rfl, rfl, rfl, trivial⟩, (Le.refl _), S, hm⟩
    ·clear F S hm; rintro a w ⟨x9, g6, F, l6, S, hm⟩
     refine wp_region_lit ?_
     obtain ⟨z2, hz2, hm⟩ := bind_some hm
     refine wE (ev_int rfl rfl (bo_add hz2)) F S rfl fun a F=>?_
     refine wE (ev_move rfl) F S rfl fun a F=>?_
     refine wpList_nil ?_
     refine then_n ?_
     obtain rfl := sinj hm
     refine ⟨_, rfl, ?_⟩
     dsimp only
     exact ⟨g6, F.sub ⟨rfl, rfl, rfl, rfl, rfl, trivial⟩, (l5.trans l6), S⟩
   ·refine wp_condF F rfl hc2 ?_
    refine wp_exit ?_
    refine then_e ?_
    refine then_e ?_
    refine inb_x ?_
    refine then_n ?_
    obtain rfl := sinj hm
    obtain rfl := hfin2 _ rfl
    clear hm
    have hm : (slices_Concat.j1 slices x7 : Option (List ByteArray)) = some _ := hmo2
    exact ⟨x7, g5, F.sub ⟨rfl, rfl, trivial⟩, l5, S, hm⟩
 ·clear F S hm; rintro a w ⟨x1, g1, F, l1, S, hm⟩
  refine wp_seq ?_
  refine wp_region_lit ?_
  refine wE (ev_move rfl) F S rfl fun a F=>?_
  obtain ⟨y1, hy1, hm⟩ := bind_some hm
  refine wl_call0 (wn rfl) rfl F rfl (slices_Grow_9_ok x1 S hy1) rfl tc64 rfl rfl ?_; clear F a S
  rintro _ a w ⟨g2, v1, c1, l2, S, h1, rfl⟩ F; replace S : St g2 [c1] fr w := S
  refine wE (ev_assign rfl) F S rfl fun a F=>?_
  refine wpList_nil ?_
  refine then_n ?_
  refine wp_cut (fun a w => ∃ (x2 : List ByteArray) (v2 : Value) (c2 : Hl) (g3 : Gh), Fr 36 a [(6, v2)] ∧ Le g2 g3 ∧ St g3 [c2] fr w ∧ OwnS g3 x2 v2 c2 ∧ slices_Concat.j2 x2 = some r) ?_ ?_
  ·refine wp_seq ?_
   refine wp_region_lit ?_
   refine wE (ev_move rfl) F S rfl fun a F=>?_
   refine wE (ev_lenSh hslices1 rfl tu88) F S rfl fun a F=>?_
   refine wE (ev_move rfl) F S rfl fun a F=>?_
   refine wpList_nil ?_
   refine then_n ?_
   refine wp_block ?_
   obtain ⟨r1, hr1, hm⟩ := bind_some hm
   have hmo1 := hm; clear hm
   refine wp_iter (σ := Int × (List ByteArray)) (ρ := (List ByteArray)) (m := fun s => slices_Concat.l1 slices s.1 s.2) (I := fun s a w => match s with | (x3, x4) => ∃ (v3 : Value) (c3 : Hl) (g4 : Gh), Fr 36 a [(27, .i6 x3), (26, .i6 (slices.length : Int)), (25, vslices1), (6, v3)] ∧ Le g2 g4 ∧ St g4 [c3] fr w ∧ OwnS g4 x4 v3 c3) hr1 ?_ ?_
   ·dsimp only
    exact ⟨v1, c1, g2, F.sub ⟨rfl, rfl, rfl, rfl, trivial⟩, (Le.refl _), S, h1⟩
   ·clear F S; rintro ⟨x3, x4⟩ a w x5 ⟨v3, c3, g4, F, l4, S, h3⟩ hx1 hfin1
    have hm : slices_Concat.l1 slices x3 x4 = some x5 := hx1; clear hx1
    unfold slices_Concat.l1 at hm
    refine wp_seq ?_
    refine wp_region_lit ?_
    refine wE (ev_int rfl rfl (bo_lss _ _ _ _)) F S rfl fun a F=>?_
    refine wpList_nil ?_
    refine then_n ?_
    refine wp_seq ?_
    obtain ⟨hc1, hm⟩ | ⟨hc1, hm⟩ := ite_or hm
    ·refine wp_condT F rfl hc1 ?_
     refine wp_skip ?_
     refine then_n ?_
     refine wp_seq ?_
     refine wp_block ?_
     refine wp_seq ?_
     refine wp_region_lit ?_
     obtain ⟨y2, hy2, hm⟩ := bind_some hm
     obtain ⟨cs1, hr2, hp1⟩ := elemS (hslices1.mono ((l1.trans l2).trans l4)) hy2
     obtain ⟨v4, rfl, h4⟩ := rep_list hr2
     refine wE (ev_idxS (hslices1.mono ((l1.trans l2).trans l4)) hy2 tu88 ts22 rfl rfl) F S rfl fun a F=>?_
     refine wE (ev_load1 tu22 rfl rfl (ptr_mono (cks := [c3]) (fr := fr) hp1 (Le.refl _))) F S rfl fun a F=>?_
     refine wE (ev_assign rfl) F S rfl fun a F=>?_
     refine wpList_nil ?_
     refine then_n ?_
     refine wp_region_lit ?_
     refine wE (ev_move rfl) F S rfl fun a F=>?_
     refine wE (ev_move rfl) F S rfl fun a F=>?_
     obtain ⟨cs2, hk1, hr3⟩ := RepSl.reads h4
     obtain ⟨y3, hy3, hm⟩ := bind_some hm
     refine wl_append (wn rfl) rfl tu22 tu22 te9 (by decide) (by decide) F S rfl rfl (k := 0) rfl h3 hk1 rfl (hr3 _ _ S) hy3 rfl rfl ?_; clear F a S
     rintro v5 c4 a w h5 S F; replace S : St g4 [c4] fr w := S
     refine wE (ev_assign rfl) F S rfl fun a F=>?_
     refine wpList_nil ?_
     refine inb_n ?_
     refine then_n ?_
     refine wp_region_lit ?_
     obtain ⟨z1, hz1, hm⟩ := bind_some hm
     refine wE (ev_int rfl rfl (bo_add hz1)) F S rfl fun a F=>?_
     refine wE (ev_move rfl) F S rfl fun a F=>?_
     refine wpList_nil ?_
     refine then_n ?_
     obtain rfl := sinj hm
     refine ⟨_, rfl, ?_⟩
     dsimp only
     exact ⟨v5, c4, g4, F.sub ⟨rfl, rfl, rfl, rfl, trivial⟩, l4, S, h5⟩
    ·refine wp_condF F rfl hc1 ?_
     refine wp_exit ?_
     refine then_e ?_
     refine then_e ?_
     refine inb_x ?_
     refine then_n ?_
     obtain rfl := sinj hm
     obtain rfl := hfin1 _ rfl
     clear hm
     have hm : (slices_Concat.j2 x4 : Option (List ByteArray)) = some _ := hmo1
     exact ⟨x4, v3, c3, g4, F.sub ⟨rfl, trivial⟩, l4, S, h3, hm⟩
  ·clear F S hm; rintro a w ⟨x2, v2, c2, g3, F, l3, S, h2, hm⟩
   refine wp_seq ?_
   refine wp_region_lit ?_
   refine wE (ev_move rfl) F S rfl fun a F=>?_
   refine wE (ev_assign rfl) F S rfl fun a F=>?_
   refine wpList_nil ?_
   refine then_n ?_
   refine wp_ret ?_
   obtain rfl := sinj hm
   refine post_r _ F rfl (ar_cons (resT rfl) ar_nil) ?_
   exact ⟨_, rfl, g3, v2, c2, ((l1.trans l2).trans l3), S, h2, rfl⟩

theorem tablepatch_check_ok {g : Gh} {fr : Hl} {w : World} {r : Int} (c_ : CellChange) (vc_1 : Value) (hc_1 : RepSl g c_.Old vc_1) (vc_2 : Value) (hc_2 : RepSl g c_.New vc_2) (columns : Int) (S : St g [] fr w) (hm : tablepatch_check c_ columns = some r) :
  Calls Try.prog 38 [.agg #[.string c_.Key, .i6 c_.Column, vc_1, vc_2], .i6 columns].toArray w (fun en w' => ∃ v, en = .returned v ∧ ∃ (g' : Gh), Le g g' ∧ St g' [] fr w' ∧ .i6 r = v) := by
 unfold tablepatch_check at hm
 refine calls_enter (fn := Try.f38) Try.func38 rfl Try.ntmps38 (lb rfl) ?_
 intro a F
 replace F : Fr 85 a [(0, .agg #[.string c_.Key, .i6 c_.Column, vc_1, vc_2]), (1, .i6 columns)] := F
 refine wp_seq ?_
 refine wp_region_lit ?_
 refine wl_boxC (wn rfl) rfl rfl rfl F S rfl rfl ?_; clear F a S; rintro b1 a w F S
 refine wE (ev_assign rfl) F S rfl fun a F=>?_
 refine wpList_nil ?_
 refine then_n ?_
 refine wp_seq ?_
 refine wp_seq ?_
 refine wp_region_lit ?_
 refine wE (ev_fieldAddr' tu36 tf36_0 (z := 0) ts9 rfl ⟨_, rfl⟩ rfl) F S rfl fun a F=>?_
 refine wE (ev_load1 tu9 rfl rfl (box_ptr (cells := [.string c_.Key]) 0 rfl 0 rfl (lb rfl))) F S rfl fun a F=>?_
 refine wE (ev_str rfl rfl (bs_eql _ _ _)) F S rfl fun a F=>?_
 refine wpList_nil ?_
 refine then_n ?_
 obtain ⟨hc1, hm⟩ | ⟨hc1, hm⟩ := ite_or hm
 ·refine wp_condT F rfl hc1 ?_
  refine wp_seq ?_
  refine wp_region_lit ?_
  refine wE (ev_assign rfl) F S rfl fun a F=>?_
  refine wpList_nil ?_
  refine then_n ?_
  refine wp_ret ?_
  refine then_r ?_
  obtain rfl := sinj hm
  refine post_r _ F rfl (ar_cons (resT rfl) ar_nil) ?_
  replace S : St g [] fr w := St.tail [] _ S
  exact ⟨_, rfl, g, (Le.refl _), S, rfl⟩
 ·refine wp_condF F rfl hc1 ?_
  refine wp_skip ?_
  refine then_n ?_
  refine wp_seq ?_
  refine wp_seq ?_
  refine wp_region_lit ?_
  refine wE (ev_fieldAddr' tu36 tf36_0 (z := 0) ts9 rfl ⟨_, rfl⟩ rfl) F S rfl fun a F=>?_
  refine wE (ev_load1 tu9 rfl rfl (box_ptr (cells := [.string c_.Key]) 0 rfl 0 rfl (lb rfl))) F S rfl fun a F=>?_
  refine wl_lit (l := ([c_.Key] : List ByteArray)) (vs := [.string c_.Key]) (parts := [(0, .tmp 13)]) (wn rfl) rfl rfl rfl tu22 te9 (sz_cons rfl sz_nil) rfl (Cat.cons (show Rep.rep _ c_.Key _ from rfl) (Cat.nil _)) (coa_cons rfl coa_nil) rfl F S rfl rfl ?_; clear F a S
  rintro v1 c1 a w h1 F S
  obtain ⟨g1, l1, S, h2⟩ : ∃ gz, Le g gz ∧ St gz [[bx b1 #[.string c_.Key, .i6 c_.Column, vc_1, vc_2] 36]] fr w ∧ RepSl gz ([c_.Key] : List ByteArray) v1 := ⟨_, Le.add _ _, S.freeze 0 rfl, OwnS.freeze (S.front 0 rfl) h1⟩
  obtain ⟨y1, hy1, hm⟩ := bind_some hm
  refine wl_call0 (wn rfl) rfl F rfl (tablepatch_text_ok (fr := (fl [[bx b1 #[.string c_.Key, .i6 c_.Column, vc_1, vc_2] 36]] fr)) ([c_.Key] : List ByteArray) v1 h2 S hy1) rfl tc49 rfl rfl ?_; clear F a S
  rintro _ a w ⟨g2, l2, S, rfl⟩ F; replace S : St g2 [[bx b1 #[.string c_.Key, .i6 c_.Column, vc_1, vc_2] 36]] fr w := S
  refine wE (ev_assign rfl) F S rfl fun a F=>?_
  refine wpList_nil ?_
  refine then_n ?_
  refine wp_seq ?_
  refine wp_region_lit ?_
  refine wE (ev_move rfl) F S rfl fun a F=>?_
  refine wE (ev_int rfl rfl (bo_neq _ _ _ _)) F S rfl fun a F=>?_
  refine wpList_nil ?_
  refine then_n ?_
  obtain ⟨hc2, hm⟩ | ⟨hc2, hm⟩ := ite_or hm
  ·refine wp_condT F rfl hc2 ?_
   refine wp_seq ?_
   refine wp_region_lit ?_
   refine wE (ev_move rfl) F S rfl fun a F=>?_
   refine wE (ev_assign rfl) F S rfl fun a F=>?_
   refine wpList_nil ?_
   refine then_n ?_
   refine wp_ret ?_
   refine then_r ?_
   obtain rfl := sinj hm
   refine post_r _ F rfl (ar_cons (resT rfl) ar_nil) ?_
   replace S : St g2 [] fr w := St.tail [] _ S
   exact ⟨_, rfl, g2, (l1.trans l2), S, rfl⟩
  ·refine wp_condF F rfl hc2 ?_
   refine wp_skip ?_
   refine then_n ?_
   refine wp_seq ?_
   refine wp_seq ?_
   refine wp_region_lit ?_
   refine wE (ev_fieldAddr' tu36 tf36_1 (z := 0) ts3 rfl ⟨_, rfl⟩ rfl) F S rfl fun a F=>?_
   refine wE (ev_load1 tu3 rfl rfl (box_ptr (cells := [.i6 c_.Column]) 0 rfl 1 rfl (lb rfl))) F S rfl fun a F=>?_
   refine wE (ev_int rfl rfl (bo_lss _ _ _ _)) F S rfl fun a F=>?_
   refine wE (ev_move rfl) F S rfl fun a F=>?_
   obtain ⟨x1, hx1, hm⟩ := bind_some hm
   refine wl_cut 5 (fun a w' => w = w' ∧ Fr 85 a [(27, .bool x1), (2, bp b1 0), (1, .i6 columns)]) ?_ ?_
   ·clear hm; obtain ⟨hc3, hm⟩ | ⟨hc3, hm⟩ := ite_or hx1
    ·refine wl_skip rfl rfl rfl rfl (ne_ft hc3) F rfl rfl ?_; clear F a; intro a F
     refine wl_skip rfl rfl rfl rfl (ne_ft hc3) F rfl rfl ?_; clear F a; intro a F
     refine wl_skip rfl rfl rfl rfl (ne_ft hc3) F rfl rfl ?_; clear F a; intro a F
     refine wl_skip rfl rfl rfl rfl (ne_ft hc3) F rfl rfl ?_; clear F a; intro a F
     refine wE (ev_pickT rfl hc3 rfl) F S rfl fun a F=>?_
     obtain rfl := sinj hm
     refine wpList_nil (then_n ?_); exact ⟨rfl, F.sub ⟨rfl, rfl, rfl, trivial⟩⟩
    ·refine wl_ev (wg F rfl rfl rfl rfl hc3) (ev_fieldAddr' tu36 tf36_1 (z := 0) ts3 rfl ⟨_, rfl⟩ rfl) F S rfl rfl ?_; clear F a; intro a F
     refine wl_ev (wg F rfl rfl rfl rfl hc3) (ev_load1 tu3 rfl rfl (box_ptr (cells := [.i6 c_.Column]) 0 rfl 1 rfl (lb rfl))) F S rfl rfl ?_; clear F a; intro a F
     refine wl_ev (wg F rfl rfl rfl rfl hc3) (ev_move rfl) F S rfl rfl ?_; clear F a; intro a F
     refine wl_ev (wg F rfl rfl rfl rfl hc3) (ev_int rfl rfl (bo_geq _ _ _ _)) F S rfl rfl ?_; clear F a; intro a F
     refine wE (ev_pickF rfl hc3 rfl) F S rfl fun a F=>?_
     obtain rfl := sinj hm
     refine wpList_nil (then_n ?_); exact ⟨rfl, F.sub ⟨rfl, rfl, rfl, trivial⟩⟩
   clear F; rintro a w' ⟨rfl, F⟩
   refine wpList_nil ?_
   refine then_n ?_
   obtain ⟨hc4, hm⟩ | ⟨hc4, hm⟩ := ite_or hm
   ·refine wp_condT F rfl hc4 ?_
    refine wp_seq ?_
    refine wp_region_lit ?_
    refine wE (ev_assign rfl) F S rfl fun a F=>?_
    refine wpList_nil ?_
    refine then_n ?_
    refine wp_ret ?_
    refine then_r ?_
    obtain rfl := sinj hm
    refine post_r _ F rfl (ar_cons (resT rfl) ar_nil) ?_
    replace S : St g2 [] fr w := St.tail [] _ S
    exact ⟨_, rfl, g2, (l1.trans l2), S, rfl⟩
   ·refine wp_condF F rfl hc4 ?_
    refine wp_skip ?_
    refine then_n ?_
    refine wp_seq ?_
    refine wp_region_lit ?_
    refine wE (ev_assign rfl) F S rfl fun a F=>?_
    refine wpList_nil ?_
    refine then_n ?_
    refine wp_cut (fun a w => ∃ (x2 : Int) (g3 : Gh), Fr 85 a [(6, .i6 x2), (2, bp b1 0)] ∧ Le g2 g3 ∧ St g3 [[bx b1 #[.string c_.Key, .i6 c_.Column, vc_1, vc_2] 36]] fr w ∧ tablepatch_check.j1 c_ x2 = some r) ?_ ?_
    ·refine wp_seq ?_
     refine wp_region_lit ?_
     refine wE (ev_fieldAddr' tu36 tf36_1 (z := 0) ts3 rfl ⟨_, rfl⟩ rfl) F S rfl fun a F=>?_
     refine wE (ev_load1 tu3 rfl rfl (box_ptr (cells := [.i6 c_.Column]) 0 rfl 1 rfl (lb rfl))) F S rfl fun a F=>?_
     refine wE (ev_int rfl rfl (bo_eql _ _ _ _)) F S rfl fun a F=>?_
     refine wpList_nil ?_
     refine then_n ?_
     obtain ⟨hc14, hm⟩ | ⟨hc14, hm⟩ := ite_or hm
     ·refine wp_condT F rfl hc14 ?_
      refine wp_region_lit ?_
      refine wE (ev_move rfl) F S rfl fun a F=>?_
      refine wE (ev_assign rfl) F S rfl fun a F=>?_
      refine wpList_nil ?_
      refine then_n ?_
      exact ⟨columns, g2, F.sub ⟨rfl, rfl, trivial⟩, (Le.refl _), S, hm⟩
     ·refine wp_condF F rfl hc14 ?_
      refine wp_skip ?_
      refine then_n ?_
      exact ⟨1, g2, F.sub ⟨rfl, rfl, trivial⟩, (Le.refl _), S, hm⟩
    ·clear F S hm; rintro a w ⟨x2, g3, F, l3, S, hm⟩
     refine wp_seq ?_
     refine wp_quiet mo (by kernel_rfl) S ?_
     refine wq_ev (wn rfl) (ev_fieldAddr' tu36 tf36_2 (z := 0) ts22 rfl ⟨_, rfl⟩ rfl) F rfl rfl ?_; clear F a; intro a F
     refine wq_ev (wn rfl) (ev_load1 tu22 rfl rfl (box_ptr (cells := [vc_1]) 0 rfl 2 rfl (lb rfl))) F rfl rfl ?_; clear F a; intro a F
     refine wq_ev (wn rfl) (ev_lenSh hc_1 rfl tu22) F rfl rfl ?_; clear F a; intro a F
     refine wq_ev (wn rfl) (ev_fieldAddr' tu36 tf36_3 (z := 0) ts22 rfl ⟨_, rfl⟩ rfl) F rfl rfl ?_; clear F a; intro a F
     refine wq_ev (wn rfl) (ev_load1 tu22 rfl rfl (box_ptr (cells := [vc_2]) 0 rfl 3 rfl (lb rfl))) F rfl rfl ?_; clear F a; intro a F
     refine wq_ev (wn rfl) (ev_lenSh hc_2 rfl tu22) F rfl rfl ?_; clear F a; intro a F
     refine wq_ev (wn rfl) (ev_assign rfl) F rfl rfl ?_; clear F a; intro a F
     refine wq_ev (wn rfl) (ev_assign rfl) F rfl rfl ?_; clear F a; intro a F
     refine wq_nil ?_; clear S; intro w S
     refine then_n ?_
     refine wp_seq ?_
     refine wp_block ?_
     refine wp_seq ?_
     refine wp_region_lit ?_
     refine wE (ev_fieldAddr' tu36 tf36_1 (z := 0) ts3 rfl ⟨_, rfl⟩ rfl) F S rfl fun a F=>?_
     refine wE (ev_load1 tu3 rfl rfl (box_ptr (cells := [.i6 c_.Column]) 0 rfl 1 rfl (lb rfl))) F S rfl fun a F=>?_
     refine wE (ev_int rfl rfl (bo_eql _ _ _ _)) F S rfl fun a F=>?_
     refine wE (ev_move rfl) F S rfl fun a F=>?_
     obtain ⟨x3, hx2, hm⟩ := bind_some hm
     refine wl_cut 6 (fun a w' => w = w' ∧ Fr 85 a [(48, .bool x3), (8, .i6 (c_.New.length : Int)), (7, .i6 (c_.Old.length : Int)), (6, .i6 x2), (2, bp b1 0)]) ?_ ?_
     ·clear hm; obtain ⟨hc5, hm⟩ | ⟨hc5, hm⟩ := ite_or hx2
      ·refine wl_ev (wg F rfl rfl rfl rfl hc5) (ev_move rfl) F S rfl rfl ?_; clear F a; intro a F
       refine wl_ev (wg F rfl rfl rfl rfl hc5) (ev_int rfl rfl (bo_eql _ _ _ _)) F S rfl rfl ?_; clear F a; intro a F
       refine wl_ev (wg F rfl rfl rfl rfl hc5) (ev_move rfl) F S rfl rfl ?_; clear F a; intro a F
       refine wl_ev (wg F rfl rfl rfl rfl hc5) (ev_int rfl rfl (bo_eql _ _ _ _)) F S rfl rfl ?_; clear F a; intro a F
       refine wl_ev (wg F rfl rfl rfl rfl hc5) (ev_eqB tu4 rfl rfl) F S rfl rfl ?_; clear F a; intro a F
       refine wE (ev_pickT rfl hc5 rfl) F S rfl fun a F=>?_
       obtain rfl := sinj hm
       refine wpList_nil (then_n ?_); exact ⟨rfl, F.sub ⟨rfl, rfl, rfl, rfl, rfl, trivial⟩⟩
      ·refine wl_skip rfl rfl rfl rfl (ne_tf hc5) F rfl rfl ?_; clear F a; intro a F
       refine wl_skip rfl rfl rfl rfl (ne_tf hc5) F rfl rfl ?_; clear F a; intro a F
       refine wl_skip rfl rfl rfl rfl (ne_tf hc5) F rfl rfl ?_; clear F a; intro a F
       refine wl_skip rfl rfl rfl rfl (ne_tf hc5) F rfl rfl ?_; clear F a; intro a F
       refine wl_skip rfl rfl rfl rfl (ne_tf hc5) F rfl rfl ?_; clear F a; intro a F
       refine wE (ev_pickF rfl hc5 rfl) F S rfl fun a F=>?_
       obtain rfl := sinj hm
       refine wpList_nil (then_n ?_); exact ⟨rfl, F.sub ⟨rfl, rfl, rfl, rfl, rfl, trivial⟩⟩
     clear F; rintro a w' ⟨rfl, F⟩
     refine wE (ev_assign rfl) F S rfl fun a F=>?_
     refine wpList_nil ?_
     refine then_n ?_
     obtain ⟨hc6, hm⟩ | ⟨hc6, hm⟩ := ite_or hm
     ·refine wp_condT F rfl hc6 ?_
      refine wp_seq ?_
      refine wp_region_lit ?_
      refine wE (ev_assign rfl) F S rfl fun a F=>?_
      refine wpList_nil ?_
      refine then_n ?_
      refine wp_ret ?_
      refine inb_r ?_
      refine then_r ?_
      obtain rfl := sinj hm
      refine post_r _ F rfl (ar_cons (resT rfl) ar_nil) ?_
      replace S : St g3 [] fr w := St.tail [] _ S
      exact ⟨_, rfl, g3, ((l1.trans l2).trans l3), S, rfl⟩
     ·refine wp_condF F rfl hc6 ?_
      refine wp_seq ?_
      refine wp_region_lit ?_
      refine wE (ev_fieldAddr' tu36 tf36_1 (z := 0) ts3 rfl ⟨_, rfl⟩ rfl) F S rfl fun a F=>?_
      refine wE (ev_load1 tu3 rfl rfl (box_ptr (cells := [.i6 c_.Column]) 0 rfl 1 rfl (lb rfl))) F S rfl fun a F=>?_
      refine wE (ev_int rfl rfl (bo_geq _ _ _ _)) F S rfl fun a F=>?_
      refine wE (ev_move rfl) F S rfl fun a F=>?_
      obtain ⟨x4, hx3, hm⟩ := bind_some hm
      refine wl_cut 7 (fun a w' => w = w' ∧ Fr 85 a [(60, .bool x4), (8, .i6 (c_.New.length : Int)), (7, .i6 (c_.Old.length : Int)), (6, .i6 x2), (2, bp b1 0)]) ?_ ?_
      ·clear hm; obtain ⟨hc7, hm⟩ | ⟨hc7, hm⟩ := ite_or hx3
       ·refine wl_ev (wg F rfl rfl rfl rfl hc7) (ev_move rfl) F S rfl rfl ?_; clear F a; intro a F
        refine wl_ev (wg F rfl rfl rfl rfl hc7) (ev_int rfl rfl (bo_eql _ _ _ _)) F S rfl rfl ?_; clear F a; intro a F
        refine wl_ev (wg F rfl rfl rfl rfl hc7) (ev_move rfl) F S rfl rfl ?_; clear F a; intro a F
        obtain ⟨x5, hx4, hm⟩ := bind_some hm
        refine wl_cut 3 (fun a w' => w = w' ∧ Fr 85 a [(59, .bool x5), (53, .bool (decide (c_.Column ≥ 0))), (8, .i6 (c_.New.length : Int)), (7, .i6 (c_.Old.length : Int)), (6, .i6 x2), (2, bp b1 0)]) ?_ ?_
        ·clear hm; obtain ⟨hc8, hm⟩ | ⟨hc8, hm⟩ := ite_or hx4
         ·refine wl_skip rfl rfl rfl rfl (ne_ft hc8) F rfl rfl ?_; clear F a; intro a F
          refine wl_skip rfl rfl rfl rfl (ne_ft hc8) F rfl rfl ?_; clear F a; intro a F
          refine wl_ev (wg F rfl rfl rfl rfl hc7) (ev_pickT rfl hc8 rfl) F S rfl rfl ?_; clear F a; intro a F
          obtain rfl := sinj hm
          refine wpList_nil (then_n ?_); exact ⟨rfl, F.sub ⟨rfl, rfl, rfl, rfl, rfl, rfl, trivial⟩⟩
         ·refine wl_ev (wg F rfl rfl rfl rfl hc8) (ev_move rfl) F S rfl rfl ?_; clear F a; intro a F
          refine wl_ev (wg F rfl rfl rfl rfl hc8) (ev_int rfl rfl (bo_eql _ _ _ _)) F S rfl rfl ?_; clear F a; intro a F
          refine wl_ev (wg F rfl rfl rfl rfl hc7) (ev_pickF rfl hc8 rfl) F S rfl rfl ?_; clear F a; intro a F
          obtain rfl := sinj hm
          refine wpList_nil (then_n ?_); exact ⟨rfl, F.sub ⟨rfl, rfl, rfl, rfl, rfl, rfl, trivial⟩⟩
        clear F; rintro a w' ⟨rfl, F⟩
        refine wE (ev_pickT rfl hc7 rfl) F S rfl fun a F=>?_
        obtain rfl := sinj hm
        refine wpList_nil (then_n ?_); exact ⟨rfl, F.sub ⟨rfl, rfl, rfl, rfl, rfl, trivial⟩⟩
       ·refine wl_skip rfl rfl rfl rfl (ne_tf hc7) F rfl rfl ?_; clear F a; intro a F
        refine wl_skip rfl rfl rfl rfl (ne_tf hc7) F rfl rfl ?_; clear F a; intro a F
        refine wl_skip rfl rfl rfl rfl (ne_tf hc7) F rfl rfl ?_; clear F a; intro a F
        refine wl_skipu rfl rfl rfl rfl F rfl rfl ?_; clear F a; intro a F
        refine wl_skipu rfl rfl rfl rfl F rfl rfl ?_; clear F a; intro a F
        refine wl_skip rfl rfl rfl rfl (ne_tf hc7) F rfl rfl ?_; clear F a; intro a F
        refine wE (ev_pickF rfl hc7 rfl) F S rfl fun a F=>?_
        obtain rfl := sinj hm
        refine wpList_nil (then_n ?_); exact ⟨rfl, F.sub ⟨rfl, rfl, rfl, rfl, rfl, trivial⟩⟩
      clear F; rintro a w' ⟨rfl, F⟩
      refine wE (ev_assign rfl) F S rfl fun a F=>?_
      refine wpList_nil ?_
      refine then_n ?_
      obtain ⟨hc9, hm⟩ | ⟨hc9, hm⟩ := ite_or hm
      ·refine wp_condT F rfl hc9 ?_
       refine wp_seq ?_
       refine wp_region_lit ?_
       refine wE (ev_assign rfl) F S rfl fun a F=>?_
       refine wpList_nil ?_
       refine then_n ?_
       refine wp_ret ?_
       refine inb_r ?_
       refine then_r ?_
       obtain rfl := sinj hm
       refine post_r _ F rfl (ar_cons (resT rfl) ar_nil) ?_
       replace S : St g3 [] fr w := St.tail [] _ S
       exact ⟨_, rfl, g3, ((l1.trans l2).trans l3), S, rfl⟩
      ·refine wp_condF F rfl hc9 ?_
       refine wp_seq ?_
       refine wp_region_lit ?_
       refine wE (ev_move rfl) F S rfl fun a F=>?_
       refine wE (ev_int rfl rfl (bo_neq _ _ _ _)) F S rfl fun a F=>?_
       refine wE (ev_move rfl) F S rfl fun a F=>?_
       obtain ⟨x6, hx5, hm⟩ := bind_some hm
       refine wl_cut 4 (fun a w' => w = w' ∧ Fr 85 a [(68, .bool x6), (8, .i6 (c_.New.length : Int)), (6, .i6 x2), (2, bp b1 0)]) ?_ ?_
       ·clear hm; obtain ⟨hc10, hm⟩ | ⟨hc10, hm⟩ := ite_or hx5
        ·refine wl_ev (wg F rfl rfl rfl rfl hc10) (ev_move rfl) F S rfl rfl ?_; clear F a; intro a F
         refine wl_ev (wg F rfl rfl rfl rfl hc10) (ev_move rfl) F S rfl rfl ?_; clear F a; intro a F
         refine wl_ev (wg F rfl rfl rfl rfl hc10) (ev_int rfl rfl (bo_neq _ _ _ _)) F S rfl rfl ?_; clear F a; intro a F
         refine wE (ev_pickT rfl hc10 rfl) F S rfl fun a F=>?_
         obtain rfl := sinj hm
         refine wpList_nil (then_n ?_); exact ⟨rfl, F.sub ⟨rfl, rfl, rfl, rfl, trivial⟩⟩
        ·refine wl_skip rfl rfl rfl rfl (ne_tf hc10) F rfl rfl ?_; clear F a; intro a F
         refine wl_skip rfl rfl rfl rfl (ne_tf hc10) F rfl rfl ?_; clear F a; intro a F
         refine wl_skip rfl rfl rfl rfl (ne_tf hc10) F rfl rfl ?_; clear F a; intro a F
         refine wE (ev_pickF rfl hc10 rfl) F S rfl fun a F=>?_
         obtain rfl := sinj hm
         refine wpList_nil (then_n ?_); exact ⟨rfl, F.sub ⟨rfl, rfl, rfl, rfl, trivial⟩⟩
       clear F; rintro a w' ⟨rfl, F⟩
       refine wE (ev_move rfl) F S rfl fun a F=>?_
       obtain ⟨x7, hx6, hm⟩ := bind_some hm
       refine wl_cut 8 (fun a w' => w = w' ∧ Fr 85 a [(77, .bool x7), (2, bp b1 0)]) ?_ ?_
       ·clear hm; obtain ⟨hc11, hm⟩ | ⟨hc11, hm⟩ := ite_or hx6
        ·refine wl_skip rfl rfl rfl rfl (ne_ft hc11) F rfl rfl ?_; clear F a; intro a F
         refine wl_skip rfl rfl rfl rfl (ne_ft hc11) F rfl rfl ?_; clear F a; intro a F
         refine wl_skip rfl rfl rfl rfl (ne_ft hc11) F rfl rfl ?_; clear F a; intro a F
         refine wl_skipu rfl rfl rfl rfl F rfl rfl ?_; clear F a; intro a F
         refine wl_skipu rfl rfl rfl rfl F rfl rfl ?_; clear F a; intro a F
         refine wl_skipu rfl rfl rfl rfl F rfl rfl ?_; clear F a; intro a F
         refine wl_skip rfl rfl rfl rfl (ne_ft hc11) F rfl rfl ?_; clear F a; intro a F
         refine wE (ev_pickT rfl hc11 rfl) F S rfl fun a F=>?_
         obtain rfl := sinj hm
         refine wpList_nil (then_n ?_); exact ⟨rfl, F.sub ⟨rfl, rfl, trivial⟩⟩
        ·refine wl_ev (wg F rfl rfl rfl rfl hc11) (ev_move rfl) F S rfl rfl ?_; clear F a; intro a F
         refine wl_ev (wg F rfl rfl rfl rfl hc11) (ev_int rfl rfl (bo_neq _ _ _ _)) F S rfl rfl ?_; clear F a; intro a F
         refine wl_ev (wg F rfl rfl rfl rfl hc11) (ev_move rfl) F S rfl rfl ?_; clear F a; intro a F
         obtain ⟨x8, hx7, hm⟩ := bind_some hm
         refine wl_cut 4 (fun a w' => w = w' ∧ Fr 85 a [(76, .bool x8), (69, .bool x6), (2, bp b1 0)]) ?_ ?_
         ·clear hm; obtain ⟨hc12, hm⟩ | ⟨hc12, hm⟩ := ite_or hx7
          ·refine wl_ev (wg F rfl rfl rfl rfl hc12) (ev_move rfl) F S rfl rfl ?_; clear F a; intro a F
           refine wl_ev (wg F rfl rfl rfl rfl hc12) (ev_move rfl) F S rfl rfl ?_; clear F a; intro a F
           refine wl_ev (wg F rfl rfl rfl rfl hc12) (ev_int rfl rfl (bo_neq _ _ _ _)) F S rfl rfl ?_; clear F a; intro a F
           refine wl_ev (wg F rfl rfl rfl rfl hc11) (ev_pickT rfl hc12 rfl) F S rfl rfl ?_; clear F a; intro a F
           obtain rfl := sinj hm
           refine wpList_nil (then_n ?_); exact ⟨rfl, F.sub ⟨rfl, rfl, rfl, trivial⟩⟩
          ·refine wl_skip rfl rfl rfl rfl (ne_tf hc12) F rfl rfl ?_; clear F a; intro a F
           refine wl_skip rfl rfl rfl rfl (ne_tf hc12) F rfl rfl ?_; clear F a; intro a F
           refine wl_skip rfl rfl rfl rfl (ne_tf hc12) F rfl rfl ?_; clear F a; intro a F
           refine wl_ev (wg F rfl rfl rfl rfl hc11) (ev_pickF rfl hc12 rfl) F S rfl rfl ?_; clear F a; intro a F
           obtain rfl := sinj hm
           refine wpList_nil (then_n ?_); exact ⟨rfl, F.sub ⟨rfl, rfl, rfl, trivial⟩⟩
         clear F; rintro a w' ⟨rfl, F⟩
         refine wE (ev_pickF rfl hc11 rfl) F S rfl fun a F=>?_
         obtain rfl := sinj hm
         refine wpList_nil (then_n ?_); exact ⟨rfl, F.sub ⟨rfl, rfl, trivial⟩⟩
       clear F; rintro a w' ⟨rfl, F⟩
       refine wE (ev_assign rfl) F S rfl fun a F=>?_
       refine wpList_nil ?_
       refine then_n ?_
       obtain ⟨hc13, hm⟩ | ⟨hc13, hm⟩ := ite_or hm
       ·refine wp_condT F rfl hc13 ?_
        refine wp_seq ?_
        refine wp_region_lit ?_
        refine wE (ev_assign rfl) F S rfl fun a F=>?_
        refine wpList_nil ?_
        refine then_n ?_
        refine wp_ret ?_
        refine inb_r ?_
        refine then_r ?_
        obtain rfl := sinj hm
        refine post_r _ F rfl (ar_cons (resT rfl) ar_nil) ?_
        replace S : St g3 [] fr w := St.tail [] _ S
        exact ⟨_, rfl, g3, ((l1.trans l2).trans l3), S, rfl⟩
       ·refine wp_condF F rfl hc13 ?_
        refine wp_skip ?_
        refine inb_n ?_
        refine then_n ?_
        refine wp_seq ?_
        refine wp_region_lit ?_
        refine wE (ev_fieldAddr' tu36 tf36_2 (z := 0) ts22 rfl ⟨_, rfl⟩ rfl) F S rfl fun a F=>?_
        refine wE (ev_load1 tu22 rfl rfl (box_ptr (cells := [vc_1]) 0 rfl 2 rfl (lb rfl))) F S rfl fun a F=>?_
        refine wE (ev_fieldAddr' tu36 tf36_3 (z := 0) ts22 rfl ⟨_, rfl⟩ rfl) F S rfl fun a F=>?_
        refine wE (ev_load1 tu22 rfl rfl (box_ptr (cells := [vc_2]) 0 rfl 3 rfl (lb rfl))) F S rfl fun a F=>?_
        refine wl_lit (l := ([c_.Old, c_.New] : List (List ByteArray))) (vs := [vc_1, vc_2]) (parts := [(0, .tmp 79), (1, .tmp 81)]) (wn rfl) rfl rfl rfl tu88 te22 (sz_cons hc_1.csz (sz_cons hc_2.csz sz_nil)) rfl (Cat.cons ⟨_, rfl, (hc_1.mono ((l1.trans l2).trans l3))⟩ (Cat.cons ⟨_, rfl, (hc_2.mono ((l1.trans l2).trans l3))⟩ (Cat.nil _))) (coa_cons hc_1.cl (coa_cons hc_2.cl coa_nil)) rfl F S rfl rfl ?_; clear F a S
        rintro v2 c2 a w h3 F S
        obtain ⟨g4, l4, S, h4⟩ : ∃ gz, Le g3 gz ∧ St gz [[bx b1 #[.string c_.Key, .i6 c_.Column, vc_1, vc_2] 36]] fr w ∧ RepSl gz ([c_.Old, c_.New] : List (List ByteArray)) v2 := ⟨_, Le.add _ _, S.freeze 0 rfl, OwnS.freeze (S.front 0 rfl) h3⟩
        obtain ⟨y2, hy2, hm⟩ := bind_some hm
        refine wl_call0 (wn rfl) rfl F rfl (slices_Concat_ok (fr := (fl [[bx b1 #[.string c_.Key, .i6 c_.Column, vc_1, vc_2] 36]] fr)) ([c_.Old, c_.New] : List (List ByteArray)) v2 h4 S hy2) rfl tc51 rfl rfl ?_; clear F a S
        rintro _ a w ⟨g5, v3, c3, l5, S, h5, rfl⟩ F; replace S : St g5 [c3, [bx b1 #[.string c_.Key, .i6 c_.Column, vc_1, vc_2] 36]] fr w := S
        obtain ⟨g6, l6, S, h6⟩ : ∃ gz, Le g5 gz ∧ St gz [[bx b1 #[.string c_.Key, .i6 c_.Column, vc_1, vc_2] 36]] fr w ∧ RepSl gz y2 v3 := ⟨_, Le.add _ _, S.freeze 0 rfl, OwnS.freeze (S.front 0 rfl) h5⟩
        obtain ⟨y3, hy3, hm⟩ := bind_some hm
        refine wl_call0 (wn rfl) rfl F rfl (tablepatch_text_ok (fr := (fl [[bx b1 #[.string c_.Key, .i6 c_.Column, vc_1, vc_2] 36]] fr)) y2 v3 h6 S hy3) rfl tc49 rfl rfl ?_; clear F a S
        rintro _ a w ⟨g7, l7, S, rfl⟩ F; replace S : St g7 [[bx b1 #[.string c_.Key, .i6 c_.Column, vc_1, vc_2] 36]] fr w := S
        refine wE (ev_assign rfl) F S rfl fun a F=>?_
        refine wpList_nil ?_
        refine then_n ?_
        refine wp_ret ?_
        obtain rfl := sinj hm
        refine post_r _ F rfl (ar_cons (resT rfl) ar_nil) ?_
        replace S : St g7 [] fr w := St.tail [] _ S
        exact ⟨_, rfl, g7, ((((((l1.trans l2).trans l3).trans l4).trans l5).trans l6).trans l7), S, rfl⟩

theorem tablepatch_clone_ok {g : Gh} {fr : Hl} {w : World} {r : Table} (t_ : Table) (vt_1 : Value) (ht_1 : RepSl g t_.Columns vt_1) (vt_2 : Value) (ht_2 : RepSl g t_.Rows vt_2) (S : St g [] fr w) (hm : tablepatch_clone t_ = some r) :
  Calls Try.prog 39 [.agg #[vt_1, vt_2]].toArray w (fun en w' => ∃ v, en = .returned v ∧ ∃ (g' : Gh) (v1 v2 : Value) (c1 c2 : Hl), Le g g' ∧ St g' [c1, c2] fr w' ∧ OwnS g' r.Columns v1 c1 ∧ OwnN g' r.Rows v2 c2 ∧ .agg #[v1, v2] = v) := by
 unfold tablepatch_clone at hm
 refine calls_enter (fn := Try.f39) Try.func39 rfl Try.ntmps39 (lb rfl) ?_
 intro a F
 replace F : Fr 30 a [(0, .agg #[vt_1, vt_2])] := F
 refine wp_seq ?_
 refine wp_region_lit ?_
 refine wl_boxC (wn rfl) rfl rfl rfl F S rfl rfl ?_; clear F a S; rintro b1 a w F S
 refine wl_alloc (wn rfl) rfl tz25 (cs := [nilS, nilS]) rfl F S rfl rfl ?_; clear F a S; rintro b2 a w F S
 refine wpList_nil ?_
 refine then_n ?_
 refine wp_seq ?_
 refine wp_region_lit ?_
 refine wE (ev_fieldAddr' tu25 tf25_0 (z := 0) ts22 rfl ⟨_, rfl⟩ rfl) F S rfl fun a F=>?_
 refine wE (ev_load1 tu22 rfl rfl (box_ptr (cells := [vt_1]) 1 rfl 0 rfl (lb rfl))) F S rfl fun a F=>?_
 obtain ⟨y1, hy1, hm⟩ := bind_some hm
 refine wl_call0 (wn rfl) rfl F rfl (slices_Clone_ok (fr := (fl [[bx b2 #[nilS, nilS] 25], [bx b1 #[vt_1, vt_2] 25]] fr)) t_.Columns vt_1 ht_1 S hy1) rfl tc24 rfl rfl ?_; clear F a S
 rintro _ a w ⟨g1, v1, c1, l1, S, h1, rfl⟩ F; replace S : St g1 [c1, [bx b2 #[nilS, nilS] 25], [bx b1 #[vt_1, vt_2] 25]] fr w := S
 refine wE (ev_build (parts := [(0, .tmp 8)]) (vs := [(0, v1)]) rfl (fun w => tb25_0 v1 (OwnS.isSl h1) w)) F S rfl fun a F=>?_
 refine wl_alloc (wn rfl) rfl tz25 (cs := [nilS, nilS]) rfl F S rfl rfl ?_; clear F a S; rintro b3 a w F S
 refine wl_storeC (wn rfl) rfl F S rfl rfl (vs := [v1, nilS]) rfl ts25 (one_cons (OwnS.one h1) (one_cons rfl one_nil)) (k := 0) rfl (lb rfl) (c' := #[v1, nilS]) rfl rfl ?_; clear S; intro w S
 refine wpList_nil ?_
 refine then_n ?_
 refine wp_cut (fun a w => ∃ (x1 : List Row) (v2 : Value) (c2 : Hl) (g2 : Gh), Fr 30 a [(3, bp b3 0), (2, bp b2 0)] ∧ Le g1 g2 ∧ St g2 [[bx b3 #[v1, v2] 25], [bx b2 #[nilS, nilS] 25], c1, c2] fr w ∧ OwnN g2 x1 v2 c2 ∧ tablepatch_clone.j1 y1 x1 = some r) ?_ ?_
 ·refine wp_seq ?_
  refine wp_region_lit ?_
  refine wE (ev_fieldAddr' tu25 tf25_1 (z := 0) ts23 rfl ⟨_, rfl⟩ rfl) F S rfl fun a F=>?_
  refine wE (ev_load1 tu23 rfl rfl (box_ptr (cells := [vt_2]) 3 rfl 1 rfl (lb rfl))) F S rfl fun a F=>?_
  refine wE (ev_lenSh ht_2 rfl tu23) F S rfl fun a F=>?_
  refine wE (ev_move rfl) F S rfl fun a F=>?_
  refine wpList_nil ?_
  refine then_n ?_
  refine wp_block ?_
  obtain ⟨r1, hr1, hm⟩ := bind_some hm
  have hmo1 := hm; clear hm
  refine wp_iter (σ := Int × (List Row)) (ρ := (List Row)) (m := fun s => tablepatch_clone.l1 t_ s.1 s.2) (I := fun s a w => match s with | (x2, x3) => ∃ (v3 : Value) (c3 : Hl) (g3 : Gh), Fr 30 a [(13, .i6 x2), (12, .i6 (t_.Rows.length : Int)), (11, vt_2), (3, bp b3 0), (2, bp b2 0)] ∧ Le g1 g3 ∧ St g3 [[bx b3 #[v1, v3] 25], [bx b2 #[nilS, nilS] 25], c1, c3] fr w ∧ OwnN g3 x3 v3 c3) hr1 ?_ ?_
  ·dsimp only
   replace S : St g1 [[], [bx b3 #[v1, nilS] 25], c1, [bx b2 #[nilS, nilS] 25], [bx b1 #[vt_1, vt_2] 25]] fr w := S
   replace S : St g1 [[bx b3 #[v1, nilS] 25], [bx b2 #[nilS, nilS] 25], c1, []] fr w := St.tail [[bx b3 #[v1, nilS] 25], [bx b2 #[nilS, nilS] 25], c1, []] _ ((((S.frontC 0 rfl).frontC 3 rfl).frontC 5 rfl).frontC 4 rfl)
   exact ⟨(nilS), [], g1, F.sub ⟨rfl, rfl, rfl, rfl, rfl, trivial⟩, (Le.refl _), S, (OwnN.nil _)⟩
  ·clear F S; rintro ⟨x2, x3⟩ a w x4 ⟨v3, c3, g3, F, l3, S, h3⟩ hx1 hfin1
   have hm : tablepatch_clone.l1 t_ x2 x3 = some x4 := hx1; clear hx1
   unfold tablepatch_clone.l1 at hm
   refine wp_seq ?_
   refine wp_region_lit ?_
   refine wE (ev_int rfl rfl (bo_lss _ _ _ _)) F S rfl fun a F=>?_
   refine wpList_nil ?_
   refine then_n ?_
   refine wp_seq ?_
   obtain ⟨hc1, hm⟩ | ⟨hc1, hm⟩ := ite_or hm
   ·refine wp_condT F rfl hc1 ?_
    refine wp_skip ?_
    refine then_n ?_
    refine wp_seq ?_
    refine wp_block ?_
    refine wp_seq ?_
    refine wp_region_lit ?_
    obtain ⟨y2, hy2, hm⟩ := bind_some hm
    obtain ⟨cs1, hr2, hp1⟩ := elemS (ht_2.mono (l1.trans l3)) hy2
    obtain ⟨v4, rfl, h4⟩ := rep_Row hr2
    refine wE (ev_idxS (ht_2.mono (l1.trans l3)) hy2 tu23 ts54 rfl rfl) F S rfl fun a F=>?_
    refine wE (ev_loadA tu54 rfl (cs := [.string y2.Key, v4]) ts54 rfl (ptr_mono (cks := [[bx b3 #[v1, v3] 25], [bx b2 #[nilS, nilS] 25], c1, c3]) (fr := fr) hp1 (Le.refl _))) F S rfl fun a F=>?_
    refine wl_alloc (wn rfl) rfl tz54 (cs := [.string ByteArray.empty, nilS]) rfl F S rfl rfl ?_; clear F a S; rintro b4 a w F S
    refine wl_storeC (wn rfl) rfl F S rfl rfl (vs := [.string y2.Key, v4]) rfl ts54 (one_cons rfl (one_cons h4.one one_nil)) (k := 0) rfl (lb rfl) (c' := #[.string y2.Key, v4]) rfl rfl ?_; clear S; intro w S
    refine wpList_nil ?_
    refine then_n ?_
    refine wp_dv [] mo S ?_; clear S; intro ok1 w S
    refine dv_et ok1 0 rfl (ev_fieldAddr' tu25 tf25_1 (z := 0) ts23 rfl ⟨_, rfl⟩ rfl) F rfl fun a F=>?_
    refine dv_ev ok1 1 rfl (ev_load1 tu23 rfl rfl (box_ptr (cells := [v3]) 1 rfl 1 rfl (lb rfl))) F S rfl fun a F=>?_
    refine dv_et ok1 2 rfl (ev_fieldAddr' tu54 tf54_0 (z := 0) ts9 rfl ⟨_, rfl⟩ rfl) F rfl fun a F=>?_
    refine dv_ev ok1 3 rfl (ev_load1 tu9 rfl rfl (box_ptr (cells := [.string y2.Key]) 0 rfl 0 rfl (lb rfl))) F S rfl fun a F=>?_
    refine dv_et ok1 4 rfl (ev_fieldAddr' tu54 tf54_1 (z := 0) ts22 rfl ⟨_, rfl⟩ rfl) F rfl fun a F=>?_
    refine dv_ev ok1 5 rfl (ev_load1 tu22 rfl rfl (box_ptr (cells := [v4]) 0 rfl 1 rfl (lb rfl))) F S rfl fun a F=>?_
    refine dv_op ok1 6 rfl [(3, .string y2.Key), (1, v3)] ?_
    obtain ⟨y3, hy3, hm⟩ := bind_some hm
    refine wl_call0 (wn rfl) rfl F rfl (slices_Clone_ok (fr := (fl [[bx b4 #[.string y2.Key, v4] 54], [bx b3 #[v1, v3] 25], [bx b2 #[nilS, nilS] 25], c1, c3] fr)) y2.Cells v4 h4 S hy3) rfl tc24 rfl rfl ?_; clear F a S
    rintro _ a w ⟨g4, v5, c4, l4, S, h5, rfl⟩ F; replace S : St g4 [c4, [bx b4 #[.string y2.Key, v4] 54], [bx b3 #[v1, v3] 25], [bx b2 #[nilS, nilS] 25], c1, c3] fr w := S
    refine dv_nx ⟨yl_ev rfl rfl (ev_load1 tu9 rfl rfl (box_ptr (cells := [.string y2.Key]) 1 rfl 0 rfl (lb rfl))) F S, yl_ev rfl rfl (ev_load1 tu23 rfl rfl (box_ptr (cells := [v3]) 2 rfl 1 rfl (lb rfl))) F S, trivial⟩ ?_
    refine dv_et ok1 7 rfl (ev_build (parts := [(0, .tmp 20), (1, .tmp 23)]) (vs := [(0, .string y2.Key), (1, v5)]) rfl (fun w => tb54_0_1 y2.Key v5 (OwnS.isSl h5) w)) F rfl fun a F=>?_
    refine dv_op ok1 8 rfl [(1, v3)] ?_
    replace S : St g4 [(c4 ++ []), [bx b4 #[.string y2.Key, v4] 54], [bx b3 #[v1, v3] 25], [bx b2 #[nilS, nilS] 25], c1, c3] fr w := S.of_eq (by simp only [fl, List.append_assoc, List.append_nil, List.nil_append])
    refine wl_lit1N (p := ({ Key := y2.Key, Cells := y3 } : Row)) (wn rfl) rfl rfl tu23 te54 rfl rfl rfl (orep_Row_mk (x := ({ Key := y2.Key, Cells := y3 } : Row)) h5) F S rfl rfl ?_; clear F a S
    rintro v6 c5 a w h6 F S
    refine dv_nx ⟨yl_ev rfl rfl (ev_load1 tu23 rfl rfl (box_ptr (cells := [v3]) 2 rfl 1 rfl (lb rfl))) F S, trivial⟩ ?_
    refine dv_op ok1 9 rfl [] ?_
    replace S : St g4 [c3, c5, [bx b4 #[.string y2.Key, v4] 54], [bx b3 #[v1, v3] 25], [bx b2 #[nilS, nilS] 25], c1] fr w := ((((((S.frontC 4 rfl).frontC 4 rfl).frontC 4 rfl).frontC 4 rfl).frontC 4 rfl).frontC 10 rfl)
    obtain ⟨y4, hy4, hm⟩ := bind_some hm
    refine wl_appendN (wn rfl) rfl tu23 tu23 te54 (by decide) (by decide) F S rfl rfl (h3.mono l4) h6 hy4 rfl rfl ?_; clear F a S
    rintro v7 c6 a w h7 S F; replace S : St g4 [c6, [bx b4 #[.string y2.Key, v4] 54], [bx b3 #[v1, v3] 25], [bx b2 #[nilS, nilS] 25], c1] fr w := S
    refine dv_nx trivial ?_
    refine dv_et ok1 10 rfl (ev_fieldAddr' tu25 tf25_1 (z := 0) ts23 rfl ⟨_, rfl⟩ rfl) F rfl fun a F=>?_
    refine dv_op ok1 11 rfl [] ?_
    refine wl_storeC (wn rfl) rfl F S rfl rfl (vs := [v7]) (OwnN.cl h7) ts23 (one_cons (OwnN.one h7) one_nil) (k := 2) rfl (lb rfl) (c' := #[v1, v7]) rfl rfl ?_; clear S; intro w S
    refine dv_nx trivial ?_
    refine dv_fin ok1 ?_
    refine inb_n ?_
    refine then_n ?_
    refine wp_region_lit ?_
    obtain ⟨z1, hz1, hm⟩ := bind_some hm
    refine wE (ev_int rfl rfl (bo_add hz1)) F S rfl fun a F=>?_
    refine wE (ev_move rfl) F S rfl fun a F=>?_
    refine wpList_nil ?_
    refine then_n ?_
    obtain rfl := sinj hm
    refine ⟨_, rfl, ?_⟩
    dsimp only
    replace S : St g4 [[bx b3 #[v1, v7] 25], [bx b2 #[nilS, nilS] 25], c1, c6] fr w := St.tail [[bx b3 #[v1, v7] 25], [bx b2 #[nilS, nilS] 25], c1, c6] _ ((((S.frontC 0 rfl).frontC 5 rfl).frontC 5 rfl).frontC 5 rfl)
    exact ⟨v7, c6, g4, F.sub ⟨rfl, rfl, rfl, rfl, rfl, trivial⟩, (l3.trans l4), S, h7⟩
   ·refine wp_condF F rfl hc1 ?_
    refine wp_exit ?_
    refine then_e ?_
    refine then_e ?_
    refine inb_x ?_
    refine then_n ?_
    obtain rfl := sinj hm
    obtain rfl := hfin1 _ rfl
    clear hm
    have hm : (tablepatch_clone.j1 y1 x3 : Option Table) = some _ := hmo1
    exact ⟨x3, v3, c3, g3, F.sub ⟨rfl, rfl, trivial⟩, l3, S, h3, hm⟩
 ·clear F S hm; rintro a w ⟨x1, v2, c2, g2, F, l2, S, h2, hm⟩
  refine wp_seq ?_
  refine wp_region_lit ?_
  refine wE (ev_loadA tu25 rfl (cs := [v1, v2]) ts25 rfl (box_ptr (cells := [v1, v2]) 0 rfl 0 rfl (lb rfl))) F S rfl fun a F=>?_
  refine wl_storeC (wn rfl) rfl F S rfl rfl (vs := [v1, v2]) rfl ts25 (one_cons (OwnS.one h1) (one_cons (OwnN.one h2) one_nil)) (k := 1) rfl (lb rfl) (c' := #[v1, v2]) rfl rfl ?_; clear S; intro w S
  refine wpList_nil ?_
  refine then_n ?_
  refine wp_ret ?_
  obtain rfl := sinj hm
  refine post_r _ F rfl (ar_cons (resA rfl tu25 rfl (box_ptr (cells := [v1, v2]) 1 rfl 0 rfl (lb rfl) w S) ts25) ar_nil) ?_
  replace S : St g2 [c1, c2] fr w := St.tail [c1, c2] _ ((S.frontC 3 rfl).frontC 3 rfl)
  exact ⟨_, rfl, g2, v1, v2, c1, c2, (l1.trans l2), S, (h1.mono l2), h2, rfl⟩

theorem slices_Insert_54_ok {g : Gh} {fr : Hl} {w : World} {r : List Row} (s_ : List Row) (vs_1 : Value) (c_1 : Hl) (os_1 : OwnS g s_ vs_1 c_1) (i_ : Int) (v_ : List Row) (vv_1 : Value) (c_2 : Hl) (ov_1 : OwnS g v_ vv_1 c_2) (S : St g [c_1, c_2] fr w) (hm : ins? 40 s_ i_ v_ = some r) :
 Calls Try.prog 52 [vs_1, .i6 i_, vv_1].toArray w (fun en w' => ∃ v, en = .returned v ∧ ∃ (g' : Gh) (v1 : Value) (c1 : Hl), Le g g' ∧ St g' [c1] fr w' ∧ OwnS g' r v1 c1 ∧ v1 = v) := by
 obtain ⟨p, rfl, hp, hv1, hb, rfl⟩ := ins?_some hm
 obtain ⟨b2, cap2, arr2, t2, rfl, rfl, hcap2, hsz2, ha2⟩ := ov_1.open (by intro h; subst h; simp at hv1)
 refine calls_enter (fn := Try.f52) Try.func52 rfl Try.ntmps52 (lb rfl) ?_
 intro a F
 replace F : Fr 95 a [(0, vs_1), (1, .i6 p), (2, rs b2 0 v_.length cap2)] := F
 refine wp_seq ?_
 refine wp_region_lit ?_
 refine wE (ev_assign rfl) F S rfl fun a F=>?_
 refine wpList_nil ?_
 refine then_n ?_
 refine wp_seq ?_
 refine wp_region_lit ?_
 refine wE (ev_move rfl) F S rfl fun a F=>?_
 refine wE (ev_move rfl) F S rfl fun a F=>?_
 obtain ⟨a0, cap0, hv0, hc0⟩ := os_1.len
 obtain ⟨v3, ev3⟩ := ev_sliceAny F (P := Try.prog) (C := St g [c_1, [(b2, .cells arr2 t2 (0, 0))]] fr) (x := .tmp 10) (lo := some (.tmp 11)) (hi := Option.none) (p := (p : Int)) (q := (s_.length : Int)) tu23 ts54 rfl hv0 ⟨_, rfl⟩ rfl (by omega) (by omega) (by omega)
 refine wE ev3 F S rfl fun a F=>?_
 refine wpList_nil ?_
 refine then_n ?_
 refine wp_seq ?_
 refine wp_region_lit ?_
 refine wE (ev_move rfl) F S rfl fun a F=>?_
 refine wE (ev_len rfl tu23) F S rfl fun a F=>?_
 refine wE (ev_assign rfl) F S rfl fun a F=>?_
 refine wpList_nil ?_
 refine then_n ?_
 refine wp_seq ?_
 refine wp_seq ?_
 refine wp_region_lit ?_
 refine wE (ev_move rfl) F S rfl fun a F=>?_
 refine wE (ev_int rfl rfl (bo_eql _ _ _ _)) F S rfl fun a F=>?_
 refine wpList_nil ?_
 refine then_n ?_
 refine wp_condF F rfl (decide_eq_false (by omega)) ?_
 refine wp_skip ?_
 refine then_n ?_
 refine wp_seq ?_
 refine wp_region_lit ?_
 refine wE (ev_move rfl) F S rfl fun a F=>?_
 refine wE (ev_lenOw os_1 rfl tu23) F S rfl fun a F=>?_
 refine wE (ev_assign rfl) F S rfl fun a F=>?_
 refine wpList_nil ?_
 refine then_n ?_
 refine wp_seq ?_
 refine wp_seq ?_
 refine wp_region_lit ?_
 refine wE (ev_move rfl) F S rfl fun a F=>?_
 refine wE (ev_move rfl) F S rfl fun a F=>?_
 refine wE (ev_int rfl rfl (bo_eql _ _ _ _)) F S rfl fun a F=>?_
 refine wpList_nil ?_
 refine then_n ?_
 by_cases hc1 : (p : Int) = (s_.length : Nat)
 ·refine wp_condT F rfl (decide_eq_true hc1) ?_
  refine wp_seq ?_
  refine wp_region_lit ?_
  refine wE (ev_move rfl) F S rfl fun a F=>?_
  refine wE (ev_move rfl) F S rfl fun a F=>?_
  obtain ⟨cs1, hk1, hr1⟩ := ov_1.reads
  have happ : app? 40 s_ v_ = some (s_ ++ v_) := by unfold app?; rw [if_pos (by rw [hv1]; exact hb)]
  refine wl_append (wn rfl) rfl tu23 tu23 te54 (by decide) (by decide) F S rfl rfl (k := 0) rfl os_1 hk1 rfl (hr1 _ _ _ 1 rfl S) happ rfl rfl ?_; clear F a S
  rintro v2 c2 a w h2 S F
  replace S : St g [c2, [(b2, .cells arr2 t2 (0, 0))]] fr w := S
  refine wE (ev_assign rfl) F S rfl fun a F=>?_
  refine wpList_nil ?_
  refine then_n ?_
  refine wp_ret ?_
  refine then_r ?_
  replace S : St g [c2] fr w := St.tail [c2] _ S
  refine post_r _ F rfl (ar_cons (resT rfl) ar_nil) ?_
  have hpl : p = s_.length := by omega
  exact ⟨_, rfl, g, v2, c2, Le.refl _, S, by rw [hpl, List.take_length, List.drop_length, List.append_nil]; exact h2, rfl⟩
 refine wp_condF F rfl (decide_eq_false hc1) ?_
 refine wp_skip ?_
 refine then_n ?_
 have hlt : p < s_.length := by omega
 obtain ⟨b, cap, arr, t, rfl, rfl, hcap, hsz, ha⟩ := os_1.open (by intro h; subst h; simp at hlt)
 refine wp_seq ?_
 refine wp_seq ?_
 refine wp_region_lit ?_
 refine wE (ev_move rfl) F S rfl fun a F=>?_
 refine wE (ev_move rfl) F S rfl fun a F=>?_
 refine wE (ev_int rfl rfl (bo_add (ckI (by omega) (by omega)))) F S rfl fun a F=>?_
 refine wE (ev_move rfl) F S rfl fun a F=>?_
 refine wE (ev_capR rfl tu23) F S rfl fun a F=>?_
 refine wE (ev_int rfl rfl (bo_gtr _ _ _ _)) F S rfl fun a F=>?_
 refine wpList_nil ?_
 refine then_n ?_
 by_cases hc2 : ((s_.length : Nat) : Int) + (v_.length : Nat) > (cap : Int)
 ·refine wp_condT F rfl (decide_eq_true hc2) ?_
  refine wp_seq ?_
  refine wp_region_lit ?_
  refine wE (ev_move rfl) F S rfl fun a F=>?_
  refine wE (ev_move rfl) F S rfl fun a F=>?_
  refine wE (ev_sliceR0 (q := p) tu23 ts54 rfl rfl ⟨_, rfl⟩ (by omega) (by omega)) F S rfl fun a F=>?_
  refine wE (ev_move rfl) F S rfl fun a F=>?_
  refine wE (ev_move rfl) F S rfl fun a F=>?_
  refine wE (ev_int rfl rfl (bo_add (ckI (by omega) (by omega)))) F S rfl fun a F=>?_
  refine wE (ev_move rfl) F S rfl fun a F=>?_
  refine wE (ev_int rfl rfl (bo_sub (ckI (by omega) (by omega)))) F S rfl fun a F=>?_
  obtain ⟨cs1, hcs1, hsrc1⟩ := ha.srcP S (k := 0) rfl p cap hp
  have htl : (s_.take p).length = p := by simp; omega
  have hap : app? 40 (s_.take p) (List.replicate (((s_.length : Nat) : Int) + (v_.length : Nat) - p).toNat (({ Key := ByteArray.empty, Cells := [] } : Row) : Row)) = some (s_.take p ++ List.replicate (((s_.length : Nat) : Int) + (v_.length : Nat) - p).toNat (({ Key := ByteArray.empty, Cells := [] } : Row) : Row)) := by
   unfold app?; rw [if_pos ?_]
   rw [htl, List.length_replicate, show p + (((s_.length : Nat) : Int) + (v_.length : Nat) - p).toNat = s_.length + 1 by omega]; exact hb
  refine wl_appendZ (wn rfl) rfl tu23 tu3 te54 zr54 (by decide) (by decide) F S rfl (base := some ⟨b, 0, Option.none⟩) (cap := cap) (l := s_.take p) (by rw [htl]; rfl) rfl hcs1 hsrc1 (by omega) (by rw [htl]; omega) hap rfl rfl ?_; clear F a S hsrc1
  intro v4 c4 a w h4 S F
  refine wE (ev_assign rfl) F S rfl fun a F=>?_
  refine wpList_nil ?_
  refine then_n ?_
  have hj : (((s_.length : Nat) : Int) + (v_.length : Nat) - p).toNat = s_.length + 1 - p := by omega
  rw [hj] at h4
  have hl4 : (s_.take p ++ List.replicate (s_.length + 1 - p) (({ Key := ByteArray.empty, Cells := [] } : Row) : Row)).length = s_.length + 1 := by simp; omega
  obtain ⟨b4, cap4, arr4, t4, rfl, rfl, hcap4, hsz4, ha4⟩ := h4.open (by intro h; rw [h] at hl4; simp at hl4)
  rw [hl4] at hcap4
  refine wp_seq ?_
  refine wp_region_lit ?_
  refine wE (ev_move rfl) F S rfl fun a F=>?_
  refine wE (ev_move rfl) F S rfl fun a F=>?_
  refine wE (ev_sliceRb (p := (p : Nat)) tu23 ts54 rfl ⟨_, rfl⟩ rfl (by omega) (by omega) (by omega) (by omega)) F S rfl fun a F=>?_
  refine wE (ev_move rfl) F S rfl fun a F=>?_
  obtain ⟨cs2, hcs2, hsrc2⟩ := ov_1.srcOf S (k := 2) rfl
  refine wl_copyR (wn rfl) rfl tu23 ts54 F S (p := p) (b := b4) rfl rfl (k := 0) rfl ha4 (by omega) hcs2 hsrc2 (by omega) (by rw [hsz4]; exact Nat.mul_le_mul_right _ (by omega)) rfl rfl ?_; clear F S hsrc2 ha4
  intro arr5 a w hs5 ha5 S F
  refine wpList_nil ?_
  refine then_n ?_
  have hl5 : ((s_.take p ++ List.replicate (s_.length + 1 - p) (({ Key := ByteArray.empty, Cells := [] } : Row) : Row)).take p ++ v_ ++ (s_.take p ++ List.replicate (s_.length + 1 - p) (({ Key := ByteArray.empty, Cells := [] } : Row) : Row)).drop (p + v_.length)).length = s_.length + 1 := by simp; omega
  refine wp_seq ?_
  refine wp_dv [] mo S ?_; clear S; intro ok1 w S
  refine dv_et ok1 0 rfl (ev_move rfl) F rfl fun a F=>?_
  refine dv_et ok1 1 rfl (ev_move rfl) F rfl fun a F=>?_
  refine dv_et ok1 2 rfl (ev_move rfl) F rfl fun a F=>?_
  refine dv_et ok1 3 rfl (ev_int rfl rfl (bo_add (ckI (by omega) (by omega)))) F rfl fun a F=>?_
  refine dv_et ok1 4 rfl (ev_sliceRb (p := (p + v_.length : Nat)) tu23 ts54 rfl ⟨_, rfl⟩ rfl (by omega) (by omega) (by omega) (by omega)) F rfl fun a F=>?_
  refine dv_et ok1 5 rfl (ev_move rfl) F rfl fun a F=>?_
  refine dv_et ok1 6 rfl (ev_move rfl) F rfl fun a F=>?_
  refine dv_et ok1 7 rfl (ev_sliceRb (p := (p : Nat)) tu23 ts54 rfl ⟨_, rfl⟩ rfl (by omega) (by omega) (by omega) (by omega)) F rfl fun a F=>?_
  obtain ⟨cs3, hcs3, hsrc3⟩ := ha.srcD S (k := 1) rfl p (s_.length - p) (cap - p) hp
  have hdl : (s_.drop p).length = s_.length - p := List.length_drop
  refine dv_op ok1 8 rfl [] ?_
  refine wl_copyR (wn rfl) rfl tu23 ts54 F S (p := p + v_.length) (b := b4) rfl rfl (k := 0) rfl ha5 (by omega) hcs3 hsrc3 (by omega) (by rw [hs5, hsz4]; exact Nat.mul_le_mul_right _ (by omega)) rfl rfl ?_; clear F S hsrc3 ha5
  intro arr6 a w hs6 ha6 S F
  refine dv_nx trivial ?_
  refine dv_fin ok1 ?_
  refine then_n ?_
  refine wp_seq ?_
  refine wp_region_lit ?_
  refine wE (ev_move rfl) F S rfl fun a F=>?_
  refine wE (ev_assign rfl) F S rfl fun a F=>?_
  refine wpList_nil ?_
  refine then_n ?_
  refine wp_ret ?_
  refine then_r ?_
  rw [insL1 s_ v_ p hp hv1 _ _ rfl] at ha6
  refine post_r _ F rfl (ar_cons (resT rfl) ar_nil) ?_
  exact ⟨_, rfl, g, _, _, Le.refl _, St.tail [_] _ S, ha6.shut (by simp; omega) (by omega) (by rw [hs6, hs5, hsz4]), rfl⟩
 refine wp_condF F rfl (decide_eq_false hc2) ?_
 refine wp_skip ?_
 refine then_n ?_
 refine wp_seq ?_
 refine wp_region_lit ?_
 refine wE (ev_move rfl) F S rfl fun a F=>?_
 refine wE (ev_move rfl) F S rfl fun a F=>?_
 refine wE (ev_move rfl) F S rfl fun a F=>?_
 refine wE (ev_int rfl rfl (bo_add (ckI (by omega) (by omega)))) F S rfl fun a F=>?_
 refine wE (ev_sliceR0 (q := (s_.length + v_.length : Nat)) tu23 ts54 rfl rfl ⟨_, rfl⟩ (by omega) (by omega)) F S rfl fun a F=>?_
 refine wE (ev_assign rfl) F S rfl fun a F=>?_
 refine wpList_nil ?_
 refine then_n ?_
 refine wp_seq ?_
 refine wp_seq ?_
 refine wp_region_lit ?_
 refine wE (ev_move rfl) F S rfl fun a F=>?_
 refine wE (ev_move rfl) F S rfl fun a F=>?_
 refine wE (ev_move rfl) F S rfl fun a F=>?_
 refine wE (ev_move rfl) F S rfl fun a F=>?_
 refine wE (ev_int rfl rfl (bo_add (ckI (by omega) (by omega)))) F S rfl fun a F=>?_
 refine wE (ev_sliceRb (p := (p + v_.length : Nat)) tu23 ts54 rfl ⟨_, rfl⟩ rfl (by omega) (by omega) (by omega) (by omega)) F S rfl fun a F=>?_
 refine wE (ev_callxC (xs := [.tmp 61, .tmp 66]) (vs := [rs b2 0 v_.length cap2, rs b ((p + v_.length : Nat) * 2) (s_.length + v_.length - (p + v_.length)) (cap - (p + v_.length))]) rfl rfl (fun w S => run_ovl (tS := 23) (tR := 4) Try.func65 (by kernel_rfl) (by kernel_rfl) (by kernel_rfl) (by kernel_rfl) tu23 ts54 S (k1 := 1) (k2 := 0) rfl rfl (fun h => blocks_ne S h.symm) (by rw [hsz]; exact Nat.ne_of_gt (Nat.mul_pos (by omega) (by decide))))) F S rfl fun a F=>?_
 refine wE (ev_not rfl) F S rfl fun a F=>?_
 refine wpList_nil ?_
 refine then_n ?_
 refine wp_condT F rfl rfl ?_
 refine wp_seq ?_
 refine wp_dv [] mo S ?_; clear S; intro ok1 w S
 refine dv_et ok1 0 rfl (ev_move rfl) F rfl fun a F=>?_
 refine dv_et ok1 1 rfl (ev_move rfl) F rfl fun a F=>?_
 refine dv_et ok1 2 rfl (ev_move rfl) F rfl fun a F=>?_
 refine dv_et ok1 3 rfl (ev_int rfl rfl (bo_add (ckI (by omega) (by omega)))) F rfl fun a F=>?_
 refine dv_et ok1 4 rfl (ev_sliceRb (p := (p + v_.length : Nat)) tu23 ts54 rfl ⟨_, rfl⟩ rfl (by omega) (by omega) (by omega) (by omega)) F rfl fun a F=>?_
 refine dv_et ok1 5 rfl (ev_move rfl) F rfl fun a F=>?_
 refine dv_et ok1 6 rfl (ev_move rfl) F rfl fun a F=>?_
 refine dv_et ok1 7 rfl (ev_sliceRb (p := (p : Nat)) tu23 ts54 rfl ⟨_, rfl⟩ rfl (by omega) (by omega) (by omega) (by omega)) F rfl fun a F=>?_
 obtain ⟨cs3, hcs3, hsrc3⟩ := ha.srcD S (k := 0) rfl p (s_.length + v_.length - p) (cap - p) hp
 have hdl : (s_.drop p).length = s_.length - p := List.length_drop
 refine dv_op ok1 8 rfl [] ?_
 refine wl_copyR (wn rfl) rfl tu23 ts54 F S (p := p + v_.length) (b := b) rfl rfl (k := 0) rfl ha (by omega) hcs3 hsrc3 (by omega) (by rw [hsz]; exact Nat.mul_le_mul_right _ (by omega)) rfl rfl ?_; clear F S hsrc3 ha
 intro arr6 a w hs6 ha6 S F
 refine dv_nx trivial ?_
 refine dv_fin ok1 ?_
 refine then_n ?_
 refine wp_seq ?_
 refine wp_region_lit ?_
 refine wE (ev_move rfl) F S rfl fun a F=>?_
 refine wE (ev_move rfl) F S rfl fun a F=>?_
 refine wE (ev_sliceRb (p := (p : Nat)) tu23 ts54 rfl ⟨_, rfl⟩ rfl (by omega) (by omega) (by omega) (by omega)) F S rfl fun a F=>?_
 refine wE (ev_move rfl) F S rfl fun a F=>?_
 obtain ⟨cs2, hcs2, hsrc2⟩ := ov_1.srcOf S (k := 1) rfl
 refine wl_copyR (wn rfl) rfl tu23 ts54 F S (p := p) (b := b) rfl rfl (k := 0) rfl ha6 (by simp; omega) hcs2 hsrc2 (by omega) (by rw [hs6, hsz]; exact Nat.mul_le_mul_right _ (by omega)) rfl rfl ?_; clear F S hsrc2 ha6
 intro arr7 a w hs7 ha7 S F
 refine wpList_nil ?_
 refine then_n ?_
 refine wp_seq ?_
 refine wp_region_lit ?_
 refine wE (ev_move rfl) F S rfl fun a F=>?_
 refine wE (ev_assign rfl) F S rfl fun a F=>?_
 refine wpList_nil ?_
 refine then_n ?_
 refine wp_ret ?_
 refine then_r ?_
 rw [insL2 s_ v_ p hlt hv1] at ha7
 refine post_r _ F rfl (ar_cons (resT rfl) ar_nil) ?_
 exact ⟨_, rfl, g, _, _, Le.refl _, St.tail [_] _ S, ha7.shut (by simp; omega) (by omega) (by rw [hs7, hs6, hsz]), rfl⟩


theorem slices_Insert_54R_ok {g : Gh} {fr : Hl} {w : World} {r : List (Raw 2)} (s_ : List (Raw 2)) (vs_1 : Value) (c_1 : Hl) (os_1 : OwnS g s_ vs_1 c_1) (i_ : Int) (v_ : List (Raw 2)) (vv_1 : Value) (c_2 : Hl) (ov_1 : OwnS g v_ vv_1 c_2) (S : St g [c_1, c_2] fr w) (hm : ins? 40 s_ i_ v_ = some r) :
 Calls Try.prog 52 [vs_1, .i6 i_, vv_1].toArray w (fun en w' => ∃ v, en = .returned v ∧ ∃ (g' : Gh) (v1 : Value) (c1 : Hl), Le g g' ∧ St g' [c1] fr w' ∧ OwnS g' r v1 c1 ∧ v1 = v) := by
 obtain ⟨p, rfl, hp, hv1, hb, rfl⟩ := ins?_some hm
 obtain ⟨b2, cap2, arr2, t2, rfl, rfl, hcap2, hsz2, ha2⟩ := ov_1.open (by intro h; subst h; simp at hv1)
 refine calls_enter (fn := Try.f52) Try.func52 rfl Try.ntmps52 (lb rfl) ?_
 intro a F
 replace F : Fr 95 a [(0, vs_1), (1, .i6 p), (2, rs b2 0 v_.length cap2)] := F
 refine wp_seq ?_
 refine wp_region_lit ?_
 refine wE (ev_assign rfl) F S rfl fun a F=>?_
 refine wpList_nil ?_
 refine then_n ?_
 refine wp_seq ?_
 refine wp_region_lit ?_
 refine wE (ev_move rfl) F S rfl fun a F=>?_
 refine wE (ev_move rfl) F S rfl fun a F=>?_
 obtain ⟨a0, cap0, hv0, hc0⟩ := os_1.len
 obtain ⟨v3, ev3⟩ := ev_sliceAny F (P := Try.prog) (C := St g [c_1, [(b2, .cells arr2 t2 (0, 0))]] fr) (x := .tmp 10) (lo := some (.tmp 11)) (hi := Option.none) (p := (p : Int)) (q := (s_.length : Int)) tu23 ts54 rfl hv0 ⟨_, rfl⟩ rfl (by omega) (by omega) (by omega)
 refine wE ev3 F S rfl fun a F=>?_
 refine wpList_nil ?_
 refine then_n ?_
 refine wp_seq ?_
 refine wp_region_lit ?_
 refine wE (ev_move rfl) F S rfl fun a F=>?_
 refine wE (ev_len rfl tu23) F S rfl fun a F=>?_
 refine wE (ev_assign rfl) F S rfl fun a F=>?_
 refine wpList_nil ?_
 refine then_n ?_
 refine wp_seq ?_
 refine wp_seq ?_
 refine wp_region_lit ?_
 refine wE (ev_move rfl) F S rfl fun a F=>?_
 refine wE (ev_int rfl rfl (bo_eql _ _ _ _)) F S rfl fun a F=>?_
 refine wpList_nil ?_
 refine then_n ?_
 refine wp_condF F rfl (decide_eq_false (by omega)) ?_
 refine wp_skip ?_
 refine then_n ?_
 refine wp_seq ?_
 refine wp_region_lit ?_
 refine wE (ev_move rfl) F S rfl fun a F=>?_
 refine wE (ev_lenOw os_1 rfl tu23) F S rfl fun a F=>?_
 refine wE (ev_assign rfl) F S rfl fun a F=>?_
 refine wpList_nil ?_
 refine then_n ?_
 refine wp_seq ?_
 refine wp_seq ?_
 refine wp_region_lit ?_
 refine wE (ev_move rfl) F S rfl fun a F=>?_
 refine wE (ev_move rfl) F S rfl fun a F=>?_
 refine wE (ev_int rfl rfl (bo_eql _ _ _ _)) F S rfl fun a F=>?_
 refine wpList_nil ?_
 refine then_n ?_
 by_cases hc1 : (p : Int) = (s_.length : Nat)
 ·refine wp_condT F rfl (decide_eq_true hc1) ?_
  refine wp_seq ?_
  refine wp_region_lit ?_
  refine wE (ev_move rfl) F S rfl fun a F=>?_
  refine wE (ev_move rfl) F S rfl fun a F=>?_
  obtain ⟨cs1, hk1, hr1⟩ := ov_1.reads
  have happ : app? 40 s_ v_ = some (s_ ++ v_) := by unfold app?; rw [if_pos (by rw [hv1]; exact hb)]
  refine wl_append (wn rfl) rfl tu23 tu23 te54 (by decide) (by decide) F S rfl rfl (k := 0) rfl os_1 hk1 rfl (hr1 _ _ _ 1 rfl S) happ rfl rfl ?_; clear F a S
  rintro v2 c2 a w h2 S F
  replace S : St g [c2, [(b2, .cells arr2 t2 (0, 0))]] fr w := S
  refine wE (ev_assign rfl) F S rfl fun a F=>?_
  refine wpList_nil ?_
  refine then_n ?_
  refine wp_ret ?_
  refine then_r ?_
  replace S : St g [c2] fr w := St.tail [c2] _ S
  refine post_r _ F rfl (ar_cons (resT rfl) ar_nil) ?_
  have hpl : p = s_.length := by omega
  exact ⟨_, rfl, g, v2, c2, Le.refl _, S, by rw [hpl, List.take_length, List.drop_length, List.append_nil]; exact h2, rfl⟩
 refine wp_condF F rfl (decide_eq_false hc1) ?_
 refine wp_skip ?_
 refine then_n ?_
 have hlt : p < s_.length := by omega
 obtain ⟨b, cap, arr, t, rfl, rfl, hcap, hsz, ha⟩ := os_1.open (by intro h; subst h; simp at hlt)
 refine wp_seq ?_
 refine wp_seq ?_
 refine wp_region_lit ?_
 refine wE (ev_move rfl) F S rfl fun a F=>?_
 refine wE (ev_move rfl) F S rfl fun a F=>?_
 refine wE (ev_int rfl rfl (bo_add (ckI (by omega) (by omega)))) F S rfl fun a F=>?_
 refine wE (ev_move rfl) F S rfl fun a F=>?_
 refine wE (ev_capR rfl tu23) F S rfl fun a F=>?_
 refine wE (ev_int rfl rfl (bo_gtr _ _ _ _)) F S rfl fun a F=>?_
 refine wpList_nil ?_
 refine then_n ?_
 by_cases hc2 : ((s_.length : Nat) : Int) + (v_.length : Nat) > (cap : Int)
 ·refine wp_condT F rfl (decide_eq_true hc2) ?_
  refine wp_seq ?_
  refine wp_region_lit ?_
  refine wE (ev_move rfl) F S rfl fun a F=>?_
  refine wE (ev_move rfl) F S rfl fun a F=>?_
  refine wE (ev_sliceR0 (q := p) tu23 ts54 rfl rfl ⟨_, rfl⟩ (by omega) (by omega)) F S rfl fun a F=>?_
  refine wE (ev_move rfl) F S rfl fun a F=>?_
  refine wE (ev_move rfl) F S rfl fun a F=>?_
  refine wE (ev_int rfl rfl (bo_add (ckI (by omega) (by omega)))) F S rfl fun a F=>?_
  refine wE (ev_move rfl) F S rfl fun a F=>?_
  refine wE (ev_int rfl rfl (bo_sub (ckI (by omega) (by omega)))) F S rfl fun a F=>?_
  obtain ⟨cs1, hcs1, hsrc1⟩ := ha.srcP S (k := 0) rfl p cap hp
  have htl : (s_.take p).length = p := by simp; omega
  have hap : app? 40 (s_.take p) (List.replicate (((s_.length : Nat) : Int) + (v_.length : Nat) - p).toNat (zraw54 : Raw 2)) = some (s_.take p ++ List.replicate (((s_.length : Nat) : Int) + (v_.length : Nat) - p).toNat (zraw54 : Raw 2)) := by
   unfold app?; rw [if_pos ?_]
   rw [htl, List.length_replicate, show p + (((s_.length : Nat) : Int) + (v_.length : Nat) - p).toNat = s_.length + 1 by omega]; exact hb
  refine wl_appendZ (wn rfl) rfl tu23 tu3 te54 zrr54 (by decide) (by decide) F S rfl (base := some ⟨b, 0, Option.none⟩) (cap := cap) (l := s_.take p) (by rw [htl]; rfl) rfl hcs1 hsrc1 (by omega) (by rw [htl]; omega) hap rfl rfl ?_; clear F a S hsrc1
  intro v4 c4 a w h4 S F
  refine wE (ev_assign rfl) F S rfl fun a F=>?_
  refine wpList_nil ?_
  refine then_n ?_
  have hj : (((s_.length : Nat) : Int) + (v_.length : Nat) - p).toNat = s_.length + 1 - p := by omega
  rw [hj] at h4
  have hl4 : (s_.take p ++ List.replicate (s_.length + 1 - p) (zraw54 : Raw 2)).length = s_.length + 1 := by simp; omega
  obtain ⟨b4, cap4, arr4, t4, rfl, rfl, hcap4, hsz4, ha4⟩ := h4.open (by intro h; rw [h] at hl4; simp at hl4)
  rw [hl4] at hcap4
  refine wp_seq ?_
  refine wp_region_lit ?_
  refine wE (ev_move rfl) F S rfl fun a F=>?_
  refine wE (ev_move rfl) F S rfl fun a F=>?_
  refine wE (ev_sliceRb (p := (p : Nat)) tu23 ts54 rfl ⟨_, rfl⟩ rfl (by omega) (by omega) (by omega) (by omega)) F S rfl fun a F=>?_
  refine wE (ev_move rfl) F S rfl fun a F=>?_
  obtain ⟨cs2, hcs2, hsrc2⟩ := ov_1.srcOf S (k := 2) rfl
  refine wl_copyR (wn rfl) rfl tu23 ts54 F S (p := p) (b := b4) rfl rfl (k := 0) rfl ha4 (by omega) hcs2 hsrc2 (by omega) (by rw [hsz4]; exact Nat.mul_le_mul_right _ (by omega)) rfl rfl ?_; clear F S hsrc2 ha4
  intro arr5 a w hs5 ha5 S F
  refine wpList_nil ?_
  refine then_n ?_
  have hl5 : ((s_.take p ++ List.replicate (s_.length + 1 - p) (zraw54 : Raw 2)).take p ++ v_ ++ (s_.take p ++ List.replicate (s_.length + 1 - p) (zraw54 : Raw 2)).drop (p + v_.length)).length = s_.length + 1 := by simp; omega
  refine wp_seq ?_
  refine wp_dv [] mo S ?_; clear S; intro ok1 w S
  refine dv_et ok1 0 rfl (ev_move rfl) F rfl fun a F=>?_
  refine dv_et ok1 1 rfl (ev_move rfl) F rfl fun a F=>?_
  refine dv_et ok1 2 rfl (ev_move rfl) F rfl fun a F=>?_
  refine dv_et ok1 3 rfl (ev_int rfl rfl (bo_add (ckI (by omega) (by omega)))) F rfl fun a F=>?_
  refine dv_et ok1 4 rfl (ev_sliceRb (p := (p + v_.length : Nat)) tu23 ts54 rfl ⟨_, rfl⟩ rfl (by omega) (by omega) (by omega) (by omega)) F rfl fun a F=>?_
  refine dv_et ok1 5 rfl (ev_move rfl) F rfl fun a F=>?_
  refine dv_et ok1 6 rfl (ev_move rfl) F rfl fun a F=>?_
  refine dv_et ok1 7 rfl (ev_sliceRb (p := (p : Nat)) tu23 ts54 rfl ⟨_, rfl⟩ rfl (by omega) (by omega) (by omega) (by omega)) F rfl fun a F=>?_
  obtain ⟨cs3, hcs3, hsrc3⟩ := ha.srcD S (k := 1) rfl p (s_.length - p) (cap - p) hp
  have hdl : (s_.drop p).length = s_.length - p := List.length_drop
  refine dv_op ok1 8 rfl [] ?_
  refine wl_copyR (wn rfl) rfl tu23 ts54 F S (p := p + v_.length) (b := b4) rfl rfl (k := 0) rfl ha5 (by omega) hcs3 hsrc3 (by omega) (by rw [hs5, hsz4]; exact Nat.mul_le_mul_right _ (by omega)) rfl rfl ?_; clear F S hsrc3 ha5
  intro arr6 a w hs6 ha6 S F
  refine dv_nx trivial ?_
  refine dv_fin ok1 ?_
  refine then_n ?_
  refine wp_seq ?_
  refine wp_region_lit ?_
  refine wE (ev_move rfl) F S rfl fun a F=>?_
  refine wE (ev_assign rfl) F S rfl fun a F=>?_
  refine wpList_nil ?_
  refine then_n ?_
  refine wp_ret ?_
  refine then_r ?_
  rw [insL1 s_ v_ p hp hv1 _ _ rfl] at ha6
  refine post_r _ F rfl (ar_cons (resT rfl) ar_nil) ?_
  exact ⟨_, rfl, g, _, _, Le.refl _, St.tail [_] _ S, ha6.shut (by simp; omega) (by omega) (by rw [hs6, hs5, hsz4]), rfl⟩
 refine wp_condF F rfl (decide_eq_false hc2) ?_
 refine wp_skip ?_
 refine then_n ?_
 refine wp_seq ?_
 refine wp_region_lit ?_
 refine wE (ev_move rfl) F S rfl fun a F=>?_
 refine wE (ev_move rfl) F S rfl fun a F=>?_
 refine wE (ev_move rfl) F S rfl fun a F=>?_
 refine wE (ev_int rfl rfl (bo_add (ckI (by omega) (by omega)))) F S rfl fun a F=>?_
 refine wE (ev_sliceR0 (q := (s_.length + v_.length : Nat)) tu23 ts54 rfl rfl ⟨_, rfl⟩ (by omega) (by omega)) F S rfl fun a F=>?_
 refine wE (ev_assign rfl) F S rfl fun a F=>?_
 refine wpList_nil ?_
 refine then_n ?_
 refine wp_seq ?_
 refine wp_seq ?_
 refine wp_region_lit ?_
 refine wE (ev_move rfl) F S rfl fun a F=>?_
 refine wE (ev_move rfl) F S rfl fun a F=>?_
 refine wE (ev_move rfl) F S rfl fun a F=>?_
 refine wE (ev_move rfl) F S rfl fun a F=>?_
 refine wE (ev_int rfl rfl (bo_add (ckI (by omega) (by omega)))) F S rfl fun a F=>?_
 refine wE (ev_sliceRb (p := (p + v_.length : Nat)) tu23 ts54 rfl ⟨_, rfl⟩ rfl (by omega) (by omega) (by omega) (by omega)) F S rfl fun a F=>?_
 refine wE (ev_callxC (xs := [.tmp 61, .tmp 66]) (vs := [rs b2 0 v_.length cap2, rs b ((p + v_.length : Nat) * 2) (s_.length + v_.length - (p + v_.length)) (cap - (p + v_.length))]) rfl rfl (fun w S => run_ovl (tS := 23) (tR := 4) Try.func65 (by kernel_rfl) (by kernel_rfl) (by kernel_rfl) (by kernel_rfl) tu23 ts54 S (k1 := 1) (k2 := 0) rfl rfl (fun h => blocks_ne S h.symm) (by rw [hsz]; exact Nat.ne_of_gt (Nat.mul_pos (by omega) (by decide))))) F S rfl fun a F=>?_
 refine wE (ev_not rfl) F S rfl fun a F=>?_
 refine wpList_nil ?_
 refine then_n ?_
 refine wp_condT F rfl rfl ?_
 refine wp_seq ?_
 refine wp_dv [] mo S ?_; clear S; intro ok1 w S
 refine dv_et ok1 0 rfl (ev_move rfl) F rfl fun a F=>?_
 refine dv_et ok1 1 rfl (ev_move rfl) F rfl fun a F=>?_
 refine dv_et ok1 2 rfl (ev_move rfl) F rfl fun a F=>?_
 refine dv_et ok1 3 rfl (ev_int rfl rfl (bo_add (ckI (by omega) (by omega)))) F rfl fun a F=>?_
 refine dv_et ok1 4 rfl (ev_sliceRb (p := (p + v_.length : Nat)) tu23 ts54 rfl ⟨_, rfl⟩ rfl (by omega) (by omega) (by omega) (by omega)) F rfl fun a F=>?_
 refine dv_et ok1 5 rfl (ev_move rfl) F rfl fun a F=>?_
 refine dv_et ok1 6 rfl (ev_move rfl) F rfl fun a F=>?_
 refine dv_et ok1 7 rfl (ev_sliceRb (p := (p : Nat)) tu23 ts54 rfl ⟨_, rfl⟩ rfl (by omega) (by omega) (by omega) (by omega)) F rfl fun a F=>?_
 obtain ⟨cs3, hcs3, hsrc3⟩ := ha.srcD S (k := 0) rfl p (s_.length + v_.length - p) (cap - p) hp
 have hdl : (s_.drop p).length = s_.length - p := List.length_drop
 refine dv_op ok1 8 rfl [] ?_
 refine wl_copyR (wn rfl) rfl tu23 ts54 F S (p := p + v_.length) (b := b) rfl rfl (k := 0) rfl ha (by omega) hcs3 hsrc3 (by omega) (by rw [hsz]; exact Nat.mul_le_mul_right _ (by omega)) rfl rfl ?_; clear F S hsrc3 ha
 intro arr6 a w hs6 ha6 S F
 refine dv_nx trivial ?_
 refine dv_fin ok1 ?_
 refine then_n ?_
 refine wp_seq ?_
 refine wp_region_lit ?_
 refine wE (ev_move rfl) F S rfl fun a F=>?_
 refine wE (ev_move rfl) F S rfl fun a F=>?_
 refine wE (ev_sliceRb (p := (p : Nat)) tu23 ts54 rfl ⟨_, rfl⟩ rfl (by omega) (by omega) (by omega) (by omega)) F S rfl fun a F=>?_
 refine wE (ev_move rfl) F S rfl fun a F=>?_
 obtain ⟨cs2, hcs2, hsrc2⟩ := ov_1.srcOf S (k := 1) rfl
 refine wl_copyR (wn rfl) rfl tu23 ts54 F S (p := p) (b := b) rfl rfl (k := 0) rfl ha6 (by simp; omega) hcs2 hsrc2 (by omega) (by rw [hs6, hsz]; exact Nat.mul_le_mul_right _ (by omega)) rfl rfl ?_; clear F S hsrc2 ha6
 intro arr7 a w hs7 ha7 S F
 refine wpList_nil ?_
 refine then_n ?_
 refine wp_seq ?_
 refine wp_region_lit ?_
 refine wE (ev_move rfl) F S rfl fun a F=>?_
 refine wE (ev_assign rfl) F S rfl fun a F=>?_
 refine wpList_nil ?_
 refine then_n ?_
 refine wp_ret ?_
 refine then_r ?_
 rw [insL2 s_ v_ p hlt hv1] at ha7
 refine post_r _ F rfl (ar_cons (resT rfl) ar_nil) ?_
 exact ⟨_, rfl, g, _, _, Le.refl _, St.tail [_] _ S, ha7.shut (by simp; omega) (by omega) (by rw [hs7, hs6, hsz]), rfl⟩


theorem slices_Insert_54N_ok {g : Gh} {fr : Hl} {w : World} {r : List Row} (s_ : List Row) (vs_1 : Value) (c_1 : Hl) (os_1 : OwnN g s_ vs_1 c_1) (i_ : Int) (v_ : List Row) (vv_1 : Value) (c_2 : Hl) (ov_1 : OwnN g v_ vv_1 c_2) (S : St g [c_1, c_2] fr w) (hm : ins? 40 s_ i_ v_ = some r) :
 Calls Try.prog 52 [vs_1, .i6 i_, vv_1].toArray w (fun en w' => ∃ v, en = .returned v ∧ ∃ (g' : Gh) (v1 : Value) (c1 : Hl), Le g g' ∧ St g' [c1] fr w' ∧ OwnN g' r v1 c1 ∧ v1 = v) := insN_ok (α := Row) (fun {g fr w r} => slices_Insert_54R_ok (g := g) (fr := fr) (w := w) (r := r)) s_ vs_1 c_1 os_1 i_ v_ vv_1 c_2 ov_1 S hm

theorem slices_Delete_54_ok {g : Gh} {fr : Hl} {w : World} {r : List Row} (s_ : List Row) (vs_1 : Value) (c_1 : Hl) (os_1 : OwnS g s_ vs_1 c_1) (i_ j_ : Int) (S : St g [c_1] fr w) (hm : del? s_ i_ j_ = some r) :
 Calls Try.prog 53 [vs_1, .i6 i_, .i6 j_].toArray w (fun en w' => ∃ v, en = .returned v ∧ ∃ (g' : Gh) (v1 : Value) (c1 : Hl), Le g g' ∧ St g' [c1] fr w' ∧ OwnS g' r v1 c1 ∧ v1 = v) := by
 obtain ⟨p, q, rfl, rfl, hpq, hq, rfl⟩ := del?_some hm
 refine calls_enter (fn := Try.f53) Try.func53 rfl Try.ntmps53 (lb rfl) ?_
 intro a F
 replace F : Fr 33 a [(0, vs_1), (1, .i6 p), (2, .i6 q)] := F
 refine wp_seq ?_
 refine wp_region_lit ?_
 refine wE (ev_assign rfl) F S rfl fun a F=>?_
 refine wpList_nil ?_
 refine then_n ?_
 refine wp_seq ?_
 refine wp_region_lit ?_
 refine wE (ev_move rfl) F S rfl fun a F=>?_
 refine wE (ev_move rfl) F S rfl fun a F=>?_
 refine wE (ev_move rfl) F S rfl fun a F=>?_
 refine wE (ev_move rfl) F S rfl fun a F=>?_
 refine wE (ev_lenOw os_1 rfl tu23) F S rfl fun a F=>?_
 obtain ⟨a0, cap0, hv0, hc0⟩ := os_1.len
 obtain ⟨v3, ev3⟩ := ev_slice3 F (P := Try.prog) (C := St g [c_1] fr) (x := .tmp 8) (lo := .tmp 9) (hi := .tmp 10) (mx := .tmp 12) tu23 ts54 rfl hv0 rfl rfl rfl (by omega) (by omega) (by omega) (by omega)
 refine wE ev3 F S rfl fun a F=>?_
 refine wpList_nil ?_
 refine then_n ?_
 refine wp_seq ?_
 refine wp_seq ?_
 refine wp_region_lit ?_
 refine wE (ev_move rfl) F S rfl fun a F=>?_
 refine wE (ev_move rfl) F S rfl fun a F=>?_
 refine wE (ev_int rfl rfl (bo_eql _ _ _ _)) F S rfl fun a F=>?_
 refine wpList_nil ?_
 refine then_n ?_
 by_cases hc1 : (p : Int) = q
 ·refine wp_condT F rfl (decide_eq_true hc1) ?_
  refine wp_seq ?_
  refine wp_region_lit ?_
  refine wE (ev_move rfl) F S rfl fun a F=>?_
  refine wE (ev_assign rfl) F S rfl fun a F=>?_
  refine wpList_nil ?_
  refine then_n ?_
  refine wp_ret ?_
  refine then_r ?_
  refine post_r _ F rfl (ar_cons (resT rfl) ar_nil) ?_
  have hpq' : p = q := by omega
  subst hpq'
  exact ⟨_, rfl, g, vs_1, c_1, Le.refl _, S, by rw [List.take_append_drop]; exact os_1, rfl⟩
 ·refine wp_condF F rfl (decide_eq_false hc1) ?_
  refine wp_skip ?_
  refine then_n ?_
  have hlt : p < q := by omega
  obtain ⟨b, cap, arr, t, rfl, rfl, hcap, hsz, ha⟩ := os_1.open (by intro h; subst h; simp at hq; omega)
  refine wp_seq ?_
  refine wp_region_lit ?_
  refine wE (ev_move rfl) F S rfl fun a F=>?_
  refine wE (ev_len rfl tu23) F S rfl fun a F=>?_
  refine wE (ev_assign rfl) F S rfl fun a F=>?_
  refine wpList_nil ?_
  refine then_n ?_
  refine wp_seq ?_
  refine wp_dv [7] mo S ?_; clear S; intro ok1 w S
  refine dv_et ok1 0 rfl (ev_move rfl) F rfl fun a F=>?_
  refine dv_et ok1 1 rfl (ev_move rfl) F rfl fun a F=>?_
  refine dv_et ok1 2 rfl (ev_sliceR0 (q := p) tu23 ts54 rfl rfl ⟨_, rfl⟩ (by omega) (by omega)) F rfl fun a F=>?_
  refine dv_et ok1 3 rfl (ev_move rfl) F rfl fun a F=>?_
  refine dv_et ok1 4 rfl (ev_move rfl) F rfl fun a F=>?_
  obtain ⟨o1, ho1, ev1⟩ := ev_sliceT F (P := Try.prog) (C := fun _ => True) (x := .tmp 23) (lo := some (.tmp 24)) (hi := Option.none) tu23 ts54 rfl ⟨_, rfl⟩ rfl hq hcap
  refine dv_et ok1 5 rfl ev1 F rfl fun a F=>?_
  obtain ⟨cs, hcs, hsrc⟩ := ha.srcT S (k := 0) rfl q o1 (s_.length - q) cap (cap - q) hq hcap ho1 rfl
  refine dv_op ok1 6 rfl [] ?_
  have hdl : (s_.drop q).length = s_.length - q := List.length_drop
  refine wl_appendR (wn rfl) rfl tu23 tu23 ts54 F S rfl rfl (k := 0) (b := b) (p := p) (cap := cap) rfl ha (by omega) hcs hsrc hdl.symm (by omega) hsz rfl rfl ?_; clear F S hsrc ha; intro arr1 a w hs1 ha S F
  refine dv_nx trivial ?_
  refine dv_op ok1 7 rfl [] ?_
  refine wE (ev_assign rfl) F S rfl fun a F=>?_
  refine dv_nx trivial ?_
  refine dv_fin ok1 ?_
  refine then_n ?_
  refine wp_seq ?_
  refine wp_region_lit ?_
  refine wE (ev_move rfl) F S rfl fun a F=>?_
  refine wE (ev_move rfl) F S rfl fun a F=>?_
  refine wE (ev_len rfl tu23) F S rfl fun a F=>?_
  refine wE (ev_move rfl) F S rfl fun a F=>?_
  have hrl : (s_.take p ++ s_.drop q).length = p + (s_.drop q).length := by simp; omega
  refine wE (ev_sliceRb (p := (p + (s_.drop q).length : Nat)) (q := (s_.length : Nat)) tu23 ts54 rfl ⟨_, rfl⟩ ⟨_, rfl⟩ (by omega) (by omega) (by omega) (by omega)) F S rfl fun a F=>?_
  refine wl_clearR (wn rfl) rfl tu23 te54 zr54 F S rfl (k := 0) (b := b) (p := p + (s_.drop q).length) (m := s_.length - (p + (s_.drop q).length)) rfl ha hrl.symm ?_ rfl ?_
  ·rw [hs1, hsz]; exact Nat.mul_le_mul_right _ (by omega)
  clear S ha; intro arr2 w hs2 ha S
  refine wpList_nil ?_
  refine then_n ?_
  refine wp_seq ?_
  refine wp_region_lit ?_
  refine wE (ev_move rfl) F S rfl fun a F=>?_
  refine wE (ev_assign rfl) F S rfl fun a F=>?_
  refine wpList_nil ?_
  refine then_n ?_
  refine wp_ret ?_
  refine post_r _ F rfl (ar_cons (resT rfl) ar_nil) ?_
  exact ⟨_, rfl, g, _, _, Le.refl _, S, ha.shut hrl.symm (by omega) (by rw [hs2, hs1, hsz]), rfl⟩


theorem slices_Delete_54R_ok {g : Gh} {fr : Hl} {w : World} {r : List (Raw 2)} (s_ : List (Raw 2)) (vs_1 : Value) (c_1 : Hl) (os_1 : OwnS g s_ vs_1 c_1) (i_ j_ : Int) (S : St g [c_1] fr w) (hm : del? s_ i_ j_ = some r) :
 Calls Try.prog 53 [vs_1, .i6 i_, .i6 j_].toArray w (fun en w' => ∃ v, en = .returned v ∧ ∃ (g' : Gh) (v1 : Value) (c1 : Hl), Le g g' ∧ St g' [c1] fr w' ∧ OwnS g' r v1 c1 ∧ v1 = v) := by
 obtain ⟨p, q, rfl, rfl, hpq, hq, rfl⟩ := del?_some hm
 refine calls_enter (fn := Try.f53) Try.func53 rfl Try.ntmps53 (lb rfl) ?_
 intro a F
 replace F : Fr 33 a [(0, vs_1), (1, .i6 p), (2, .i6 q)] := F
 refine wp_seq ?_
 refine wp_region_lit ?_
 refine wE (ev_assign rfl) F S rfl fun a F=>?_
 refine wpList_nil ?_
 refine then_n ?_
 refine wp_seq ?_
 refine wp_region_lit ?_
 refine wE (ev_move rfl) F S rfl fun a F=>?_
 refine wE (ev_move rfl) F S rfl fun a F=>?_
 refine wE (ev_move rfl) F S rfl fun a F=>?_
 refine wE (ev_move rfl) F S rfl fun a F=>?_
 refine wE (ev_lenOw os_1 rfl tu23) F S rfl fun a F=>?_
 obtain ⟨a0, cap0, hv0, hc0⟩ := os_1.len
 obtain ⟨v3, ev3⟩ := ev_slice3 F (P := Try.prog) (C := St g [c_1] fr) (x := .tmp 8) (lo := .tmp 9) (hi := .tmp 10) (mx := .tmp 12) tu23 ts54 rfl hv0 rfl rfl rfl (by omega) (by omega) (by omega) (by omega)
 refine wE ev3 F S rfl fun a F=>?_
 refine wpList_nil ?_
 refine then_n ?_
 refine wp_seq ?_
 refine wp_seq ?_
 refine wp_region_lit ?_
 refine wE (ev_move rfl) F S rfl fun a F=>?_
 refine wE (ev_move rfl) F S rfl fun a F=>?_
 refine wE (ev_int rfl rfl (bo_eql _ _ _ _)) F S rfl fun a F=>?_
 refine wpList_nil ?_
 refine then_n ?_
 by_cases hc1 : (p : Int) = q
 ·refine wp_condT F rfl (decide_eq_true hc1) ?_
  refine wp_seq ?_
  refine wp_region_lit ?_
  refine wE (ev_move rfl) F S rfl fun a F=>?_
  refine wE (ev_assign rfl) F S rfl fun a F=>?_
  refine wpList_nil ?_
  refine then_n ?_
  refine wp_ret ?_
  refine then_r ?_
  refine post_r _ F rfl (ar_cons (resT rfl) ar_nil) ?_
  have hpq' : p = q := by omega
  subst hpq'
  exact ⟨_, rfl, g, vs_1, c_1, Le.refl _, S, by rw [List.take_append_drop]; exact os_1, rfl⟩
 ·refine wp_condF F rfl (decide_eq_false hc1) ?_
  refine wp_skip ?_
  refine then_n ?_
  have hlt : p < q := by omega
  obtain ⟨b, cap, arr, t, rfl, rfl, hcap, hsz, ha⟩ := os_1.open (by intro h; subst h; simp at hq; omega)
  refine wp_seq ?_
  refine wp_region_lit ?_
  refine wE (ev_move rfl) F S rfl fun a F=>?_
  refine wE (ev_len rfl tu23) F S rfl fun a F=>?_
  refine wE (ev_assign rfl) F S rfl fun a F=>?_
  refine wpList_nil ?_
  refine then_n ?_
  refine wp_seq ?_
  refine wp_dv [7] mo S ?_; clear S; intro ok1 w S
  refine dv_et ok1 0 rfl (ev_move rfl) F rfl fun a F=>?_
  refine dv_et ok1 1 rfl (ev_move rfl) F rfl fun a F=>?_
  refine dv_et ok1 2 rfl (ev_sliceR0 (q := p) tu23 ts54 rfl rfl ⟨_, rfl⟩ (by omega) (by omega)) F rfl fun a F=>?_
  refine dv_et ok1 3 rfl (ev_move rfl) F rfl fun a F=>?_
  refine dv_et ok1 4 rfl (ev_move rfl) F rfl fun a F=>?_
  obtain ⟨o1, ho1, ev1⟩ := ev_sliceT F (P := Try.prog) (C := fun _ => True) (x := .tmp 23) (lo := some (.tmp 24)) (hi := Option.none) tu23 ts54 rfl ⟨_, rfl⟩ rfl hq hcap
  refine dv_et ok1 5 rfl ev1 F rfl fun a F=>?_
  obtain ⟨cs, hcs, hsrc⟩ := ha.srcT S (k := 0) rfl q o1 (s_.length - q) cap (cap - q) hq hcap ho1 rfl
  refine dv_op ok1 6 rfl [] ?_
  have hdl : (s_.drop q).length = s_.length - q := List.length_drop
  refine wl_appendR (wn rfl) rfl tu23 tu23 ts54 F S rfl rfl (k := 0) (b := b) (p := p) (cap := cap) rfl ha (by omega) hcs hsrc hdl.symm (by omega) hsz rfl rfl ?_; clear F S hsrc ha; intro arr1 a w hs1 ha S F
  refine dv_nx trivial ?_
  refine dv_op ok1 7 rfl [] ?_
  refine wE (ev_assign rfl) F S rfl fun a F=>?_
  refine dv_nx trivial ?_
  refine dv_fin ok1 ?_
  refine then_n ?_
  refine wp_seq ?_
  refine wp_region_lit ?_
  refine wE (ev_move rfl) F S rfl fun a F=>?_
  refine wE (ev_move rfl) F S rfl fun a F=>?_
  refine wE (ev_len rfl tu23) F S rfl fun a F=>?_
  refine wE (ev_move rfl) F S rfl fun a F=>?_
  have hrl : (s_.take p ++ s_.drop q).length = p + (s_.drop q).length := by simp; omega
  refine wE (ev_sliceRb (p := (p + (s_.drop q).length : Nat)) (q := (s_.length : Nat)) tu23 ts54 rfl ⟨_, rfl⟩ ⟨_, rfl⟩ (by omega) (by omega) (by omega) (by omega)) F S rfl fun a F=>?_
  refine wl_clearR (wn rfl) rfl tu23 te54 zrr54 F S rfl (k := 0) (b := b) (p := p + (s_.drop q).length) (m := s_.length - (p + (s_.drop q).length)) rfl ha hrl.symm ?_ rfl ?_
  ·rw [hs1, hsz]; exact Nat.mul_le_mul_right _ (by omega)
  clear S ha; intro arr2 w hs2 ha S
  refine wpList_nil ?_
  refine then_n ?_
  refine wp_seq ?_
  refine wp_region_lit ?_
  refine wE (ev_move rfl) F S rfl fun a F=>?_
  refine wE (ev_assign rfl) F S rfl fun a F=>?_
  refine wpList_nil ?_
  refine then_n ?_
  refine wp_ret ?_
  refine post_r _ F rfl (ar_cons (resT rfl) ar_nil) ?_
  exact ⟨_, rfl, g, _, _, Le.refl _, S, ha.shut hrl.symm (by omega) (by rw [hs2, hs1, hsz]), rfl⟩


theorem slices_Delete_54N_ok {g : Gh} {fr : Hl} {w : World} {r : List Row} (s_ : List Row) (vs_1 : Value) (c_1 : Hl) (os_1 : OwnN g s_ vs_1 c_1) (i_ j_ : Int) (S : St g [c_1] fr w) (hm : del? s_ i_ j_ = some r) :
 Calls Try.prog 53 [vs_1, .i6 i_, .i6 j_].toArray w (fun en w' => ∃ v, en = .returned v ∧ ∃ (g' : Gh) (v1 : Value) (c1 : Hl), Le g g' ∧ St g' [c1] fr w' ∧ OwnN g' r v1 c1 ∧ v1 = v) := delN_ok (α := Row) (fun {g fr w r} => slices_Delete_54R_ok (g := g) (fr := fr) (w := w) (r := r)) s_ vs_1 c_1 os_1 i_ j_ S hm
end Go.Dc
