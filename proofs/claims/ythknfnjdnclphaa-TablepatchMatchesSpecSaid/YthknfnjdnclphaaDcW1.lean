/- Walks: each function comes to what its model says. -/
import Derived.Test.YthknfnjdnclphaaDcTab
import Derived.Test.YthknfnjdnclphaaDcM
namespace Go.Dc
open Go Go.Proofs
set_option maxRecDepth 100000
set_option maxHeartbeats 4000000
set_option linter.unusedVariables false
theorem stringslite_IndexByte_ok {g : Gh} {fr : Hl} {w : World} {r : Int} (s_ : ByteArray) (c_ : Int) (S : St g [] fr w) (hm : stringslite_IndexByte s_ c_ = some r) :
  Calls Try.prog 88 [.string s_, .int .u8 c_].toArray w (fun en w' => ∃ v, en = .returned v ∧ ∃ (g' : Gh), Le g g' ∧ St g' [] fr w' ∧ .i6 r = v) := by
 unfold stringslite_IndexByte at hm
 refine calls_enter (fn := Try.f88) Try.func88 rfl Try.ntmps88 (lb rfl) ?_
 intro a F
 replace F : Fr 8 a [(0, .string s_), (1, .int .u8 c_)] := F
 refine wp_seq ?_
 refine wp_region_lit ?_
 refine wE (ev_assign rfl) F S rfl fun a F=>?_
 refine wpList_nil ?_
 refine then_n ?_
 refine wp_seq ?_
 refine wp_region_lit ?_
 refine wE (ev_move rfl) F S rfl fun a F=>?_
 refine wE (ev_move rfl) F S rfl fun a F=>?_
 refine wE (ev_callx (xs := [.tmp 5, .tmp 6]) (vs := [.string s_, .int .u8 c_]) rfl rfl (fun w => tx91 s_ c_ w)) F S rfl fun a F=>?_
 refine wE (ev_assign rfl) F S rfl fun a F=>?_
 refine wpList_nil ?_
 refine then_n ?_
 refine wp_ret ?_
 obtain rfl := sinj hm
 refine post_r _ F rfl (ar_cons (resT rfl) ar_nil) ?_
 exact ⟨_, rfl, g, (Le.refl _), S, rfl⟩

theorem strings_IndexByte_ok {g : Gh} {fr : Hl} {w : World} {r : Int} (s_ : ByteArray) (c_ : Int) (S : St g [] fr w) (hm : strings_IndexByte s_ c_ = some r) :
  Calls Try.prog 79 [.string s_, .int .u8 c_].toArray w (fun en w' => ∃ v, en = .returned v ∧ ∃ (g' : Gh), Le g g' ∧ St g' [] fr w' ∧ .i6 r = v) := by
 unfold strings_IndexByte at hm
 refine calls_enter (fn := Try.f79) Try.func79 rfl Try.ntmps79 (lb rfl) ?_
 intro a F
 replace F : Fr 8 a [(0, .string s_), (1, .int .u8 c_)] := F
 refine wp_seq ?_
 refine wp_region_lit ?_
 refine wE (ev_assign rfl) F S rfl fun a F=>?_
 refine wpList_nil ?_
 refine then_n ?_
 refine wp_seq ?_
 refine wp_region_lit ?_
 refine wE (ev_move rfl) F S rfl fun a F=>?_
 refine wE (ev_move rfl) F S rfl fun a F=>?_
 obtain ⟨y1, hy1, hm⟩ := bind_some hm
 refine wl_call0 (wn rfl) rfl F rfl (stringslite_IndexByte_ok s_ c_ S hy1) rfl tc88 rfl rfl ?_; clear F a S
 rintro _ a w ⟨g1, l1, S, rfl⟩ F; replace S : St g1 [] fr w := S
 refine wE (ev_assign rfl) F S rfl fun a F=>?_
 refine wpList_nil ?_
 refine then_n ?_
 refine wp_ret ?_
 obtain rfl := sinj hm
 refine post_r _ F rfl (ar_cons (resT rfl) ar_nil) ?_
 exact ⟨_, rfl, g1, l1, S, rfl⟩

theorem lines_Validate_ok {g : Gh} {fr : Hl} {w : World} {r : Fault} (lines : (List ByteArray)) (vlines1 : Value) (hlines1 : RepSl g lines vlines1) (S : St g [] fr w) (hm : lines_Validate lines = some r) :
  Calls Try.prog 62 [vlines1].toArray w (fun en w' => ∃ v, en = .returned v ∧ ∃ (g' : Gh), Le g g' ∧ St g' [] fr w' ∧ .agg #[.i6 r.Code, .i6 r.Index] = v) := by
 unfold lines_Validate at hm
 refine calls_enter (fn := Try.f62) Try.func62 rfl Try.ntmps62 (lb rfl) ?_
 intro a F
 replace F : Fr 28 a [(0, vlines1)] := F
 refine wp_seq ?_
 refine wp_region_lit ?_
 refine wl_alloc (wn rfl) rfl tz28 (cs := [.i6 0, .i6 0]) rfl F S rfl rfl ?_; clear F a S; rintro b1 a w F S
 refine wpList_nil ?_
 refine then_n ?_
 refine wp_seq ?_
 refine wp_seq ?_
 refine wp_region_lit ?_
 refine wE (ev_move rfl) F S rfl fun a F=>?_
 refine wE (ev_lenSh hlines1 rfl tu22) F S rfl fun a F=>?_
 refine wE (ev_int rfl rfl (bo_gtr _ _ _ _)) F S rfl fun a F=>?_
 refine wpList_nil ?_
 refine then_n ?_
 obtain ⟨hc1, hm⟩ | ⟨hc1, hm⟩ := ite_or hm
 ·refine wp_condT F rfl hc1 ?_
  refine wp_seq ?_
  refine wp_region_lit ?_
  refine wE (ev_build (parts := [(0, .const (.i6 2)), (1, .const (.i6 (-1)))]) (vs := [(0, .i6 2), (1, .i6 (-1))]) rfl (fun w => tb28_0_1 2 (-1) w)) F S rfl fun a F=>?_
  refine wl_storeC (wn rfl) rfl F S rfl rfl (vs := [.i6 2, .i6 (-1)]) rfl ts28 (one_cons rfl (one_cons rfl one_nil)) (k := 0) rfl (lb rfl) (c' := #[.i6 2, .i6 (-1)]) rfl rfl ?_; clear S; intro w S
  refine wpList_nil ?_
  refine then_n ?_
  refine wp_ret ?_
  refine then_r ?_
  obtain rfl := sinj hm
  refine post_r _ F rfl (ar_cons (resA rfl tu28 rfl (box_ptr (cells := [.i6 2, .i6 (-1)]) 0 rfl 0 rfl (lb rfl) w S) ts28) ar_nil) ?_
  replace S : St g [] fr w := St.tail [] _ S
  exact ⟨_, rfl, g, (Le.refl _), S, rfl⟩
 ·refine wp_condF F rfl hc1 ?_
  refine wp_skip ?_
  refine then_n ?_
  refine wp_cut (fun a w => ∃ (g1 : Gh), Fr 28 a [(2, bp b1 0)] ∧ Le g g1 ∧ St g1 [[bx b1 #[.i6 0, .i6 0] 28]] fr w ∧ lines_Validate.j1 = some r) ?_ ?_
  ·refine wp_seq ?_
   refine wp_region_lit ?_
   refine wE (ev_move rfl) F S rfl fun a F=>?_
   refine wE (ev_lenSh hlines1 rfl tu22) F S rfl fun a F=>?_
   refine wE (ev_move rfl) F S rfl fun a F=>?_
   refine wpList_nil ?_
   refine then_n ?_
   refine wp_block ?_
   obtain ⟨r1, hr1, hm⟩ := bind_some hm
   have hmo1 := hm; clear hm
   refine wp_iter (σ := Int) (ρ := Fault ⊕ Unit) (m := fun s => lines_Validate.l1 lines s) (I := fun x1 a w => ∃ (g2 : Gh), Fr 28 a [(11, .i6 x1), (10, .i6 (lines.length : Int)), (9, vlines1), (2, bp b1 0)] ∧ Le g g2 ∧ St g2 [[bx b1 #[.i6 0, .i6 0] 28]] fr w) hr1 ?_ ?_
   ·exact ⟨g, F.sub ⟨rfl, rfl, rfl, rfl, trivial⟩, (Le.refl _), S⟩
   ·clear F S; rintro x1 a w x2 ⟨g2, F, l2, S⟩ hx1 hfin1
    have hm : lines_Validate.l1 lines x1 = some x2 := hx1; clear hx1
    unfold lines_Validate.l1 at hm
    refine wp_seq ?_
    refine wp_region_lit ?_
    refine wE (ev_int rfl rfl (bo_lss _ _ _ _)) F S rfl fun a F=>?_
    refine wpList_nil ?_
    refine then_n ?_
    refine wp_seq ?_
    obtain ⟨hc2, hm⟩ | ⟨hc2, hm⟩ := ite_or hm
    ·refine wp_condT F rfl hc2 ?_
     refine wp_skip ?_
     refine then_n ?_
     refine wp_seq ?_
     refine wp_block ?_
     refine wp_seq ?_
     refine wp_region_lit ?_
     refine wE (ev_move rfl) F S rfl fun a F=>?_
     obtain ⟨y1, hy1, hm⟩ := bind_some hm
     obtain ⟨cs1, hr2, hp1⟩ := elemS (hlines1.mono l2) hy1
     obtain rfl := rep_str hr2
     refine wE (ev_idxS (hlines1.mono l2) hy1 tu22 ts9 rfl rfl) F S rfl fun a F=>?_
     refine wE (ev_load1 tu9 rfl rfl (ptr_mono (cks := [[bx b1 #[.i6 0, .i6 0] 28]]) (fr := fr) hp1 (Le.refl _))) F S rfl fun a F=>?_
     refine wE (ev_assign rfl) F S rfl fun a F=>?_
     refine wE (ev_assign rfl) F S rfl fun a F=>?_
     refine wpList_nil ?_
     refine then_n ?_
     refine wp_seq ?_
     refine wp_seq ?_
     refine wp_region_lit ?_
     refine wE (ev_move rfl) F S rfl fun a F=>?_
     refine wE (ev_lenS rfl tu9) F S rfl fun a F=>?_
     refine wE (ev_int rfl rfl (bo_gtr _ _ _ _)) F S rfl fun a F=>?_
     refine wpList_nil ?_
     refine then_n ?_
     obtain ⟨hc3, hm⟩ | ⟨hc3, hm⟩ := ite_or hm
     ·refine wp_condT F rfl hc3 ?_
      refine wp_seq ?_
      refine wp_region_lit ?_
      refine wE (ev_move rfl) F S rfl fun a F=>?_
      refine wE (ev_build (parts := [(0, .const (.i6 2)), (1, .tmp 19)]) (vs := [(0, .i6 2), (1, .i6 x1)]) rfl (fun w => tb28_0_1 2 x1 w)) F S rfl fun a F=>?_
      refine wl_storeC (wn rfl) rfl F S rfl rfl (vs := [.i6 2, .i6 x1]) rfl ts28 (one_cons rfl (one_cons rfl one_nil)) (k := 0) rfl (lb rfl) (c' := #[.i6 2, .i6 x1]) rfl rfl ?_; clear S; intro w S
      refine wpList_nil ?_
      refine then_n ?_
      refine wp_ret ?_
      refine then_r ?_
      refine inb_r ?_
      refine then_r ?_
      refine then_r ?_
      refine inb_r ?_
      refine then_r ?_
      obtain rfl := sinj hm
      obtain rfl := hfin1 _ rfl
      clear hm
      have hm : (some ({ Code := 2, Index := x1 } : Fault) : Option Fault) = some _ := hmo1
      obtain rfl := sinj hm
      refine post_r _ F rfl (ar_cons (resA rfl tu28 rfl (box_ptr (cells := [.i6 2, .i6 x1]) 0 rfl 0 rfl (lb rfl) w S) ts28) ar_nil) ?_
      replace S : St g2 [] fr w := St.tail [] _ S
      exact ⟨_, rfl, g2, l2, S, rfl⟩
     ·refine wp_condF F rfl hc3 ?_
      refine wp_skip ?_
      refine then_n ?_
      refine wp_seq ?_
      refine wp_region_lit ?_
      refine wE (ev_move rfl) F S rfl fun a F=>?_
      obtain ⟨y2, hy2, hm⟩ := bind_some hm
      refine wl_call0 (wn rfl) rfl F rfl (strings_IndexByte_ok (fr := (fl [[bx b1 #[.i6 0, .i6 0] 28]] fr)) y1 10 S hy2) rfl tc79 rfl rfl ?_; clear F a S
      rintro _ a w ⟨g3, l3, S, rfl⟩ F; replace S : St g3 [[bx b1 #[.i6 0, .i6 0] 28]] fr w := S
      refine wE (ev_int rfl rfl (bo_geq _ _ _ _)) F S rfl fun a F=>?_
      refine wpList_nil ?_
      refine then_n ?_
      obtain ⟨hc4, hm⟩ | ⟨hc4, hm⟩ := ite_or hm
      ·refine wp_condT F rfl hc4 ?_
       refine wp_seq ?_
       refine wp_region_lit ?_
       refine wE (ev_move rfl) F S rfl fun a F=>?_
       refine wE (ev_build (parts := [(0, .const (.i6 5)), (1, .tmp 24)]) (vs := [(0, .i6 5), (1, .i6 x1)]) rfl (fun w => tb28_0_1 5 x1 w)) F S rfl fun a F=>?_
       refine wl_storeC (wn rfl) rfl F S rfl rfl (vs := [.i6 5, .i6 x1]) rfl ts28 (one_cons rfl (one_cons rfl one_nil)) (k := 0) rfl (lb rfl) (c' := #[.i6 5, .i6 x1]) rfl rfl ?_; clear S; intro w S
       refine wpList_nil ?_
       refine then_n ?_
       refine wp_ret ?_
       refine inb_r ?_
       refine then_r ?_
       refine then_r ?_
       refine inb_r ?_
       refine then_r ?_
       obtain rfl := sinj hm
       obtain rfl := hfin1 _ rfl
       clear hm
       have hm : (some ({ Code := 5, Index := x1 } : Fault) : Option Fault) = some _ := hmo1
       obtain rfl := sinj hm
       refine post_r _ F rfl (ar_cons (resA rfl tu28 rfl (box_ptr (cells := [.i6 5, .i6 x1]) 0 rfl 0 rfl (lb rfl) w S) ts28) ar_nil) ?_
       replace S : St g3 [] fr w := St.tail [] _ S
       exact ⟨_, rfl, g3, (l2.trans l3), S, rfl⟩
      ·refine wp_condF F rfl hc4 ?_
       refine wp_skip ?_
       refine inb_n ?_
       refine then_n ?_
       refine wp_region_lit ?_
       obtain ⟨z1, hz1, hm⟩ := bind_some hm
       refine wE (ev_int rfl rfl (bo_add hz1)) F S rfl fun a F=>?_
       refine wE (ev_move rfl) F S rfl fun a F=>?_
       refine wpList_nil ?_
       refine then_n ?_
       obtain rfl := sinj hm
       refine ⟨_, rfl, ?_⟩
       exact ⟨g3, F.sub ⟨rfl, rfl, rfl, rfl, trivial⟩, (l2.trans l3), S⟩
    ·refine wp_condF F rfl hc2 ?_
     refine wp_exit ?_
     refine then_e ?_
     refine then_e ?_
     refine inb_x ?_
     refine then_n ?_
     obtain rfl := sinj hm
     obtain rfl := hfin1 _ rfl
     clear hm
     have hm : (lines_Validate.j1 : Option Fault) = some _ := hmo1
     exact ⟨g2, F.sub ⟨rfl, trivial⟩, l2, S, hm⟩
  ·clear F S hm; rintro a w ⟨g1, F, l1, S, hm⟩
   refine wp_seq ?_
   refine wp_region_lit ?_
   refine wE (ev_build (parts := []) (vs := []) rfl (fun w => tb28_  w)) F S rfl fun a F=>?_
   refine wl_storeC (wn rfl) rfl F S rfl rfl (vs := [.i6 0, .i6 0]) rfl ts28 (one_cons rfl (one_cons rfl one_nil)) (k := 0) rfl (lb rfl) (c' := #[.i6 0, .i6 0]) rfl rfl ?_; clear S; intro w S
   refine wpList_nil ?_
   refine then_n ?_
   refine wp_ret ?_
   obtain rfl := sinj hm
   refine post_r _ F rfl (ar_cons (resA rfl tu28 rfl (box_ptr (cells := [.i6 0, .i6 0]) 0 rfl 0 rfl (lb rfl) w S) ts28) ar_nil) ?_
   replace S : St g1 [] fr w := St.tail [] _ S
   exact ⟨_, rfl, g1, l1, S, rfl⟩

theorem tablepatch_text_ok {g : Gh} {fr : Hl} {w : World} {r : Int} (l_ : (List ByteArray)) (vl_1 : Value) (hl_1 : RepSl g l_ vl_1) (S : St g [] fr w) (hm : tablepatch_text l_ = some r) :
  Calls Try.prog 49 [vl_1].toArray w (fun en w' => ∃ v, en = .returned v ∧ ∃ (g' : Gh), Le g g' ∧ St g' [] fr w' ∧ .i6 r = v) := by
 unfold tablepatch_text at hm
 refine calls_enter (fn := Try.f49) Try.func49 rfl Try.ntmps49 (lb rfl) ?_
 intro a F
 replace F : Fr 6 a [(0, vl_1)] := F
 refine wp_seq ?_
 refine wp_region_lit ?_
 refine wE (ev_assign rfl) F S rfl fun a F=>?_
 refine wpList_nil ?_
 refine then_n ?_
 refine wp_seq ?_
 refine wp_region_lit ?_
 refine wE (ev_move rfl) F S rfl fun a F=>?_
 obtain ⟨y1, hy1, hm⟩ := bind_some hm
 refine wl_call0 (wn rfl) rfl F rfl (lines_Validate_ok l_ vl_1 hl_1 S hy1) rfl tc62 rfl rfl ?_; clear F a S
 rintro _ a w ⟨g1, l1, S, rfl⟩ F; replace S : St g1 [] fr w := S
 refine wE (ev_field1 tu28 tf28_0 tu3 rfl (cs := [.i6 y1.Code, .i6 y1.Index]) rfl rfl) F S rfl fun a F=>?_
 refine wE (ev_assign rfl) F S rfl fun a F=>?_
 refine wpList_nil ?_
 refine then_n ?_
 refine wp_ret ?_
 obtain rfl := sinj hm
 refine post_r _ F rfl (ar_cons (resT rfl) ar_nil) ?_
 exact ⟨_, rfl, g1, l1, S, rfl⟩

theorem slices_Index_ok {g : Gh} {fr : Hl} {w : World} {r : Int} (s_ : (List ByteArray)) (vs_1 : Value) (hs_1 : RepSl g s_ vs_1) (v_ : ByteArray) (S : St g [] fr w) (hm : slices_Index s_ v_ = some r) :
  Calls Try.prog 63 [vs_1, .string v_].toArray w (fun en w' => ∃ v, en = .returned v ∧ ∃ (g' : Gh), Le g g' ∧ St g' [] fr w' ∧ .i6 r = v) := by
 unfold slices_Index at hm
 refine calls_enter (fn := Try.f63) Try.func63 rfl Try.ntmps63 (lb rfl) ?_
 intro a F
 replace F : Fr 19 a [(0, vs_1), (1, .string v_)] := F
 refine wp_seq ?_
 refine wp_region_lit ?_
 refine wE (ev_assign rfl) F S rfl fun a F=>?_
 refine wpList_nil ?_
 refine then_n ?_
 refine wp_cut (fun a w => ∃ (g1 : Gh), Fr 19 a [] ∧ Le g g1 ∧ St g1 [] fr w ∧ slices_Index.j1 = some r) ?_ ?_
 ·refine wp_seq ?_
  refine wp_region_lit ?_
  refine wE (ev_move rfl) F S rfl fun a F=>?_
  refine wE (ev_lenSh hs_1 rfl tu22) F S rfl fun a F=>?_
  refine wE (ev_move rfl) F S rfl fun a F=>?_
  refine wpList_nil ?_
  refine then_n ?_
  refine wp_block ?_
  obtain ⟨r1, hr1, hm⟩ := bind_some hm
  have hmo1 := hm; clear hm
  refine wp_iter (σ := Int) (ρ := Int ⊕ Unit) (m := fun s => slices_Index.l1 s_ v_ s) (I := fun x1 a w => ∃ (g2 : Gh), Fr 19 a [(8, .i6 x1), (7, .i6 (s_.length : Int)), (0, vs_1), (1, .string v_)] ∧ Le g g2 ∧ St g2 [] fr w) hr1 ?_ ?_
  ·exact ⟨g, F.sub ⟨rfl, rfl, rfl, rfl, trivial⟩, (Le.refl _), S⟩
  ·clear F S; rintro x1 a w x2 ⟨g2, F, l2, S⟩ hx1 hfin1
   have hm : slices_Index.l1 s_ v_ x1 = some x2 := hx1; clear hx1
   unfold slices_Index.l1 at hm
   refine wp_seq ?_
   refine wp_region_lit ?_
   refine wE (ev_int rfl rfl (bo_lss _ _ _ _)) F S rfl fun a F=>?_
   refine wpList_nil ?_
   refine then_n ?_
   refine wp_seq ?_
   obtain ⟨hc1, hm⟩ | ⟨hc1, hm⟩ := ite_or hm
   ·refine wp_condT F rfl hc1 ?_
    refine wp_skip ?_
    refine then_n ?_
    refine wp_seq ?_
    refine wp_block ?_
    refine wp_seq ?_
    refine wp_region_lit ?_
    refine wE (ev_move rfl) F S rfl fun a F=>?_
    refine wE (ev_assign rfl) F S rfl fun a F=>?_
    refine wpList_nil ?_
    refine then_n ?_
    refine wp_seq ?_
    refine wp_region_lit ?_
    refine wE (ev_move rfl) F S rfl fun a F=>?_
    refine wE (ev_move rfl) F S rfl fun a F=>?_
    refine wE (ev_move rfl) F S rfl fun a F=>?_
    obtain ⟨y1, hy1, hm⟩ := bind_some hm
    obtain ⟨cs1, hr2, hp1⟩ := elemS (hs_1.mono l2) hy1
    obtain rfl := rep_str hr2
    refine wE (ev_idxS (hs_1.mono l2) hy1 tu22 ts9 rfl rfl) F S rfl fun a F=>?_
    refine wE (ev_load1 tu9 rfl rfl (ptr_mono (cks := []) (fr := fr) hp1 (Le.refl _))) F S rfl fun a F=>?_
    refine wE (ev_str rfl rfl (bs_eql _ _ _)) F S rfl fun a F=>?_
    refine wpList_nil ?_
    refine then_n ?_
    obtain ⟨hc2, hm⟩ | ⟨hc2, hm⟩ := ite_or hm
    ·refine wp_condT F rfl hc2 ?_
     refine wp_seq ?_
     refine wp_region_lit ?_
     refine wE (ev_move rfl) F S rfl fun a F=>?_
     refine wE (ev_assign rfl) F S rfl fun a F=>?_
     refine wpList_nil ?_
     refine then_n ?_
     refine wp_ret ?_
     refine inb_r ?_
     refine then_r ?_
     refine then_r ?_
     refine inb_r ?_
     refine then_r ?_
     obtain rfl := sinj hm
     obtain rfl := hfin1 _ rfl
     clear hm
     have hm : (some x1 : Option Int) = some _ := hmo1
     obtain rfl := sinj hm
     refine post_r _ F rfl (ar_cons (resT rfl) ar_nil) ?_
     exact ⟨_, rfl, g2, l2, S, rfl⟩
    ·refine wp_condF F rfl hc2 ?_
     refine wp_skip ?_
     refine inb_n ?_
     refine then_n ?_
     refine wp_region_lit ?_
     obtain ⟨z1, hz1, hm⟩ := bind_some hm
     refine wE (ev_int rfl rfl (bo_add hz1)) F S rfl fun a F=>?_
     refine wE (ev_move rfl) F S rfl fun a F=>?_
     refine wpList_nil ?_
     refine then_n ?_
     obtain rfl := sinj hm
     refine ⟨_, rfl, ?_⟩
     exact ⟨g2, F.sub ⟨rfl, rfl, rfl, rfl, trivial⟩, l2, S⟩
   ·refine wp_condF F rfl hc1 ?_
    refine wp_exit ?_
    refine then_e ?_
    refine then_e ?_
    refine inb_x ?_
    refine then_n ?_
    obtain rfl := sinj hm
    obtain rfl := hfin1 _ rfl
    clear hm
    have hm : (slices_Index.j1 : Option Int) = some _ := hmo1
    exact ⟨g2, F.sub trivial, l2, S, hm⟩
 ·clear F S hm; rintro a w ⟨g1, F, l1, S, hm⟩
  refine wp_seq ?_
  refine wp_region_lit ?_
  refine wE (ev_assign rfl) F S rfl fun a F=>?_
  refine wpList_nil ?_
  refine then_n ?_
  refine wp_ret ?_
  obtain rfl := sinj hm
  refine post_r _ F rfl (ar_cons (resT rfl) ar_nil) ?_
  exact ⟨_, rfl, g1, l1, S, rfl⟩

theorem slices_Contains_ok {g : Gh} {fr : Hl} {w : World} {r : Bool} (s_ : (List ByteArray)) (vs_1 : Value) (hs_1 : RepSl g s_ vs_1) (v_ : ByteArray) (S : St g [] fr w) (hm : slices_Contains s_ v_ = some r) :
  Calls Try.prog 50 [vs_1, .string v_].toArray w (fun en w' => ∃ v, en = .returned v ∧ ∃ (g' : Gh), Le g g' ∧ St g' [] fr w' ∧ .bool r = v) := by
 unfold slices_Contains at hm
 refine calls_enter (fn := Try.f50) Try.func50 rfl Try.ntmps50 (lb rfl) ?_
 intro a F
 replace F : Fr 9 a [(0, vs_1), (1, .string v_)] := F
 refine wp_seq ?_
 refine wp_region_lit ?_
 refine wE (ev_assign rfl) F S rfl fun a F=>?_
 refine wpList_nil ?_
 refine then_n ?_
 refine wp_seq ?_
 refine wp_region_lit ?_
 refine wE (ev_move rfl) F S rfl fun a F=>?_
 refine wE (ev_move rfl) F S rfl fun a F=>?_
 obtain ⟨y1, hy1, hm⟩ := bind_some hm
 refine wl_call0 (wn rfl) rfl F rfl (slices_Index_ok s_ vs_1 hs_1 v_ S hy1) rfl tc63 rfl rfl ?_; clear F a S
 rintro _ a w ⟨g1, l1, S, rfl⟩ F; replace S : St g1 [] fr w := S
 refine wE (ev_int rfl rfl (bo_geq _ _ _ _)) F S rfl fun a F=>?_
 refine wE (ev_assign rfl) F S rfl fun a F=>?_
 refine wpList_nil ?_
 refine then_n ?_
 refine wp_ret ?_
 obtain rfl := sinj hm
 refine post_r _ F rfl (ar_cons (resT rfl) ar_nil) ?_
 exact ⟨_, rfl, g1, l1, S, rfl⟩

theorem tablepatch_column_ok {g : Gh} {fr : Hl} {w : World} {r : Int} (name : ByteArray) (earlier : (List ByteArray)) (vearlier1 : Value) (hearlier1 : RepSl g earlier vearlier1) (S : St g [] fr w) (hm : tablepatch_column name earlier = some r) :
  Calls Try.prog 36 [.string name, vearlier1].toArray w (fun en w' => ∃ v, en = .returned v ∧ ∃ (g' : Gh), Le g g' ∧ St g' [] fr w' ∧ .i6 r = v) := by
 unfold tablepatch_column at hm
 refine calls_enter (fn := Try.f36) Try.func36 rfl Try.ntmps36 (lb rfl) ?_
 intro a F
 replace F : Fr 17 a [(0, .string name), (1, vearlier1)] := F
 refine wp_seq ?_
 refine wp_region_lit ?_
 refine wE (ev_assign rfl) F S rfl fun a F=>?_
 refine wpList_nil ?_
 refine then_n ?_
 refine wp_seq ?_
 refine wp_seq ?_
 refine wp_region_lit ?_
 refine wE (ev_move rfl) F S rfl fun a F=>?_
 refine wE (ev_str rfl rfl (bs_eql _ _ _)) F S rfl fun a F=>?_
 refine wpList_nil ?_
 refine then_n ?_
 obtain ⟨hc1, hm⟩ | ⟨hc1, hm⟩ := ite_or hm
 ·refine wp_condT F rfl hc1 ?_
  refine wp_seq ?_
  refine wp_region_lit ?_
  refine wE (ev_assign rfl) F S rfl fun a F=>?_
  refine wpList_nil ?_
  refine then_n ?_
  refine wp_ret ?_
  refine then_r ?_
  obtain rfl := sinj hm
  refine post_r _ F rfl (ar_cons (resT rfl) ar_nil) ?_
  exact ⟨_, rfl, g, (Le.refl _), S, rfl⟩
 ·refine wp_condF F rfl hc1 ?_
  refine wp_skip ?_
  refine then_n ?_
  refine wp_seq ?_
  refine wp_seq ?_
  refine wp_region_lit ?_
  refine wE (ev_move rfl) F S rfl fun a F=>?_
  refine wl_lit (l := ([name] : List ByteArray)) (vs := [.string name]) (parts := [(0, .tmp 8)]) (wn rfl) rfl rfl rfl tu22 te9 (sz_cons rfl sz_nil) rfl (Cat.cons (show Rep.rep _ name _ from rfl) (Cat.nil _)) (coa_cons rfl coa_nil) rfl F S rfl rfl ?_; clear F a S
  rintro v1 c1 a w h1 F S
  obtain ⟨g1, l1, S, h2⟩ : ∃ gz, Le g gz ∧ St gz [] fr w ∧ RepSl gz ([name] : List ByteArray) v1 := ⟨_, Le.add _ _, S.freeze 0 rfl, OwnS.freeze (S.front 0 rfl) h1⟩
  obtain ⟨y1, hy1, hm⟩ := bind_some hm
  refine wl_call0 (wn rfl) rfl F rfl (tablepatch_text_ok ([name] : List ByteArray) v1 h2 S hy1) rfl tc49 rfl rfl ?_; clear F a S
  rintro _ a w ⟨g2, l2, S, rfl⟩ F; replace S : St g2 [] fr w := S
  refine wE (ev_assign rfl) F S rfl fun a F=>?_
  refine wpList_nil ?_
  refine then_n ?_
  refine wp_seq ?_
  refine wp_region_lit ?_
  refine wE (ev_move rfl) F S rfl fun a F=>?_
  refine wE (ev_int rfl rfl (bo_neq _ _ _ _)) F S rfl fun a F=>?_
  refine wpList_nil ?_
  refine then_n ?_
  obtain ⟨hc2, hm⟩ | ⟨hc2, hm⟩ := ite_or hm
  ·refine wp_condT F rfl hc2 ?_
   refine wp_seq ?_
   refine wp_region_lit ?_
   refine wE (ev_move rfl) F S rfl fun a F=>?_
   refine wE (ev_assign rfl) F S rfl fun a F=>?_
   refine wpList_nil ?_
   refine then_n ?_
   refine wp_ret ?_
   refine then_r ?_
   obtain rfl := sinj hm
   refine post_r _ F rfl (ar_cons (resT rfl) ar_nil) ?_
   exact ⟨_, rfl, g2, (l1.trans l2), S, rfl⟩
  ·refine wp_condF F rfl hc2 ?_
   refine wp_skip ?_
   refine then_n ?_
   refine wp_seq ?_
   refine wp_seq ?_
   refine wp_region_lit ?_
   refine wE (ev_move rfl) F S rfl fun a F=>?_
   refine wE (ev_move rfl) F S rfl fun a F=>?_
   obtain ⟨y2, hy2, hm⟩ := bind_some hm
   refine wl_call0 (wn rfl) rfl F rfl (slices_Contains_ok earlier vearlier1 (hearlier1.mono (l1.trans l2)) name S hy2) rfl tc50 rfl rfl ?_; clear F a S
   rintro _ a w ⟨g3, l3, S, rfl⟩ F; replace S : St g3 [] fr w := S
   refine wpList_nil ?_
   refine then_n ?_
   obtain ⟨hc3, hm⟩ | ⟨hc3, hm⟩ := ite_or hm
   ·refine wp_condT F rfl hc3 ?_
    refine wp_seq ?_
    refine wp_region_lit ?_
    refine wE (ev_assign rfl) F S rfl fun a F=>?_
    refine wpList_nil ?_
    refine then_n ?_
    refine wp_ret ?_
    refine then_r ?_
    obtain rfl := sinj hm
    refine post_r _ F rfl (ar_cons (resT rfl) ar_nil) ?_
    exact ⟨_, rfl, g3, ((l1.trans l2).trans l3), S, rfl⟩
   ·refine wp_condF F rfl hc3 ?_
    refine wp_skip ?_
    refine then_n ?_
    refine wp_seq ?_
    refine wp_region_lit ?_
    refine wE (ev_assign rfl) F S rfl fun a F=>?_
    refine wpList_nil ?_
    refine then_n ?_
    refine wp_ret ?_
    obtain rfl := sinj hm
    refine post_r _ F rfl (ar_cons (resT rfl) ar_nil) ?_
    exact ⟨_, rfl, g3, ((l1.trans l2).trans l3), S, rfl⟩

theorem tablepatch_row_ok {g : Gh} {fr : Hl} {w : World} {r : Int} (t_ : Table) (vt_1 : Value) (ht_1 : RepSl g t_.Columns vt_1) (vt_2 : Value) (ht_2 : RepSl g t_.Rows vt_2) (i_ : Int) (S : St g [] fr w) (hm : tablepatch_row t_ i_ = some r) :
  Calls Try.prog 37 [.agg #[vt_1, vt_2], .i6 i_].toArray w (fun en w' => ∃ v, en = .returned v ∧ ∃ (g' : Gh), Le g g' ∧ St g' [] fr w' ∧ .i6 r = v) := by
 unfold tablepatch_row at hm
 refine calls_enter (fn := Try.f37) Try.func37 rfl Try.ntmps37 (lb rfl) ?_
 intro a F
 replace F : Fr 50 a [(0, .agg #[vt_1, vt_2]), (1, .i6 i_)] := F
 refine wp_seq ?_
 refine wp_region_lit ?_
 refine wl_boxC (wn rfl) rfl rfl rfl F S rfl rfl ?_; clear F a S; rintro b1 a w F S
 refine wE (ev_assign rfl) F S rfl fun a F=>?_
 refine wpList_nil ?_
 refine then_n ?_
 refine wp_seq ?_
 refine wp_region_lit ?_
 refine wE (ev_fieldAddr' tu25 tf25_1 (z := 0) ts23 rfl ⟨_, rfl⟩ rfl) F S rfl fun a F=>?_
 refine wE (ev_load1 tu23 rfl rfl (box_ptr (cells := [vt_2]) 0 rfl 1 rfl (lb rfl))) F S rfl fun a F=>?_
 refine wE (ev_move rfl) F S rfl fun a F=>?_
 obtain ⟨y1, hy1, hm⟩ := bind_some hm
 obtain ⟨cs1, hr1, hp1⟩ := elemS ht_2 hy1
 obtain ⟨v1, rfl, h1⟩ := rep_Row hr1
 refine wE (ev_idxS ht_2 hy1 tu23 ts54 rfl rfl) F S rfl fun a F=>?_
 refine wE (ev_loadA tu54 rfl (cs := [.string y1.Key, v1]) ts54 rfl (ptr_mono (cks := [[bx b1 #[vt_1, vt_2] 25]]) (fr := fr) hp1 (Le.refl _))) F S rfl fun a F=>?_
 refine wl_alloc (wn rfl) rfl tz54 (cs := [.string ByteArray.empty, nilS]) rfl F S rfl rfl ?_; clear F a S; rintro b2 a w F S
 refine wl_storeC (wn rfl) rfl F S rfl rfl (vs := [.string y1.Key, v1]) rfl ts54 (one_cons rfl (one_cons h1.one one_nil)) (k := 0) rfl (lb rfl) (c' := #[.string y1.Key, v1]) rfl rfl ?_; clear S; intro w S
 refine wpList_nil ?_
 refine then_n ?_
 refine wp_seq ?_
 refine wp_seq ?_
 refine wp_region_lit ?_
 refine wE (ev_fieldAddr' tu54 tf54_0 (z := 0) ts9 rfl ⟨_, rfl⟩ rfl) F S rfl fun a F=>?_
 refine wE (ev_load1 tu9 rfl rfl (box_ptr (cells := [.string y1.Key]) 0 rfl 0 rfl (lb rfl))) F S rfl fun a F=>?_
 refine wE (ev_str rfl rfl (bs_eql _ _ _)) F S rfl fun a F=>?_
 refine wpList_nil ?_
 refine then_n ?_
 obtain ⟨hc1, hm⟩ | ⟨hc1, hm⟩ := ite_or hm
 ·refine wp_condT F rfl hc1 ?_
  refine wp_seq ?_
  refine wp_region_lit ?_
  refine wE (ev_assign rfl) F S rfl fun a F=>?_
  refine wpList_nil ?_
  refine then_n ?_
  refine wp_ret ?_
  refine then_r ?_
  obtain rfl := sinj hm
  refine post_r _ F rfl (ar_cons (resT rfl) ar_nil) ?_
  replace S : St g [] fr w := St.tail [] _ S
  exact ⟨_, rfl, g, (Le.refl _), S, rfl⟩
 ·refine wp_condF F rfl hc1 ?_
  refine wp_skip ?_
  refine then_n ?_
  refine wp_seq ?_
  refine wp_seq ?_
  refine wp_region_lit ?_
  refine wE (ev_fieldAddr' tu54 tf54_0 (z := 0) ts9 rfl ⟨_, rfl⟩ rfl) F S rfl fun a F=>?_
  refine wE (ev_load1 tu9 rfl rfl (box_ptr (cells := [.string y1.Key]) 0 rfl 0 rfl (lb rfl))) F S rfl fun a F=>?_
  refine wl_lit (l := ([y1.Key] : List ByteArray)) (vs := [.string y1.Key]) (parts := [(0, .tmp 17)]) (wn rfl) rfl rfl rfl tu22 te9 (sz_cons rfl sz_nil) rfl (Cat.cons (show Rep.rep _ y1.Key _ from rfl) (Cat.nil _)) (coa_cons rfl coa_nil) rfl F S rfl rfl ?_; clear F a S
  rintro v2 c1 a w h2 F S
  obtain ⟨g1, l1, S, h3⟩ : ∃ gz, Le g gz ∧ St gz [[bx b2 #[.string y1.Key, v1] 54], [bx b1 #[vt_1, vt_2] 25]] fr w ∧ RepSl gz ([y1.Key] : List ByteArray) v2 := ⟨_, Le.add _ _, S.freeze 0 rfl, OwnS.freeze (S.front 0 rfl) h2⟩
  obtain ⟨y2, hy2, hm⟩ := bind_some hm
  refine wl_call0 (wn rfl) rfl F rfl (tablepatch_text_ok (fr := (fl [[bx b2 #[.string y1.Key, v1] 54], [bx b1 #[vt_1, vt_2] 25]] fr)) ([y1.Key] : List ByteArray) v2 h3 S hy2) rfl tc49 rfl rfl ?_; clear F a S
  rintro _ a w ⟨g2, l2, S, rfl⟩ F; replace S : St g2 [[bx b2 #[.string y1.Key, v1] 54], [bx b1 #[vt_1, vt_2] 25]] fr w := S
  refine wE (ev_assign rfl) F S rfl fun a F=>?_
  refine wpList_nil ?_
  refine then_n ?_
  refine wp_seq ?_
  refine wp_region_lit ?_
  refine wE (ev_move rfl) F S rfl fun a F=>?_
  refine wE (ev_int rfl rfl (bo_neq _ _ _ _)) F S rfl fun a F=>?_
  refine wpList_nil ?_
  refine then_n ?_
  obtain ⟨hc2, hm⟩ | ⟨hc2, hm⟩ := ite_or hm
  ·refine wp_condT F rfl hc2 ?_
   refine wp_seq ?_
   refine wp_region_lit ?_
   refine wE (ev_move rfl) F S rfl fun a F=>?_
   refine wE (ev_assign rfl) F S rfl fun a F=>?_
   refine wpList_nil ?_
   refine then_n ?_
   refine wp_ret ?_
   refine then_r ?_
   obtain rfl := sinj hm
   refine post_r _ F rfl (ar_cons (resT rfl) ar_nil) ?_
   replace S : St g2 [] fr w := St.tail [] _ S
   exact ⟨_, rfl, g2, (l1.trans l2), S, rfl⟩
  ·refine wp_condF F rfl hc2 ?_
   refine wp_skip ?_
   refine then_n ?_
   refine wp_seq ?_
   refine wp_seq ?_
   refine wp_region_lit ?_
   refine wE (ev_fieldAddr' tu54 tf54_1 (z := 0) ts22 rfl ⟨_, rfl⟩ rfl) F S rfl fun a F=>?_
   refine wE (ev_load1 tu22 rfl rfl (box_ptr (cells := [v1]) 0 rfl 1 rfl (lb rfl))) F S rfl fun a F=>?_
   refine wE (ev_lenSh h1 rfl tu22) F S rfl fun a F=>?_
   refine wE (ev_fieldAddr' tu25 tf25_0 (z := 0) ts22 rfl ⟨_, rfl⟩ rfl) F S rfl fun a F=>?_
   refine wE (ev_load1 tu22 rfl rfl (box_ptr (cells := [vt_1]) 1 rfl 0 rfl (lb rfl))) F S rfl fun a F=>?_
   refine wE (ev_lenSh ht_1 rfl tu22) F S rfl fun a F=>?_
   refine wE (ev_int rfl rfl (bo_neq _ _ _ _)) F S rfl fun a F=>?_
   refine wpList_nil ?_
   refine then_n ?_
   obtain ⟨hc3, hm⟩ | ⟨hc3, hm⟩ := ite_or hm
   ·refine wp_condT F rfl hc3 ?_
    refine wp_seq ?_
    refine wp_region_lit ?_
    refine wE (ev_assign rfl) F S rfl fun a F=>?_
    refine wpList_nil ?_
    refine then_n ?_
    refine wp_ret ?_
    refine then_r ?_
    obtain rfl := sinj hm
    refine post_r _ F rfl (ar_cons (resT rfl) ar_nil) ?_
    replace S : St g2 [] fr w := St.tail [] _ S
    exact ⟨_, rfl, g2, (l1.trans l2), S, rfl⟩
   ·refine wp_condF F rfl hc3 ?_
    refine wp_skip ?_
    refine then_n ?_
    refine wp_seq ?_
    refine wp_seq ?_
    refine wp_region_lit ?_
    refine wE (ev_fieldAddr' tu54 tf54_1 (z := 0) ts22 rfl ⟨_, rfl⟩ rfl) F S rfl fun a F=>?_
    refine wE (ev_load1 tu22 rfl rfl (box_ptr (cells := [v1]) 0 rfl 1 rfl (lb rfl))) F S rfl fun a F=>?_
    obtain ⟨y3, hy3, hm⟩ := bind_some hm
    refine wl_call0 (wn rfl) rfl F rfl (tablepatch_text_ok (fr := (fl [[bx b2 #[.string y1.Key, v1] 54], [bx b1 #[vt_1, vt_2] 25]] fr)) y1.Cells v1 (h1.mono (l1.trans l2)) S hy3) rfl tc49 rfl rfl ?_; clear F a S
    rintro _ a w ⟨g3, l3, S, rfl⟩ F; replace S : St g3 [[bx b2 #[.string y1.Key, v1] 54], [bx b1 #[vt_1, vt_2] 25]] fr w := S
    refine wE (ev_assign rfl) F S rfl fun a F=>?_
    refine wpList_nil ?_
    refine then_n ?_
    refine wp_seq ?_
    refine wp_region_lit ?_
    refine wE (ev_move rfl) F S rfl fun a F=>?_
    refine wE (ev_int rfl rfl (bo_neq _ _ _ _)) F S rfl fun a F=>?_
    refine wpList_nil ?_
    refine then_n ?_
    obtain ⟨hc4, hm⟩ | ⟨hc4, hm⟩ := ite_or hm
    ·refine wp_condT F rfl hc4 ?_
     refine wp_seq ?_
     refine wp_region_lit ?_
     refine wE (ev_move rfl) F S rfl fun a F=>?_
     refine wE (ev_assign rfl) F S rfl fun a F=>?_
     refine wpList_nil ?_
     refine then_n ?_
     refine wp_ret ?_
     refine then_r ?_
     obtain rfl := sinj hm
     refine post_r _ F rfl (ar_cons (resT rfl) ar_nil) ?_
     replace S : St g3 [] fr w := St.tail [] _ S
     exact ⟨_, rfl, g3, ((l1.trans l2).trans l3), S, rfl⟩
    ·refine wp_condF F rfl hc4 ?_
     refine wp_skip ?_
     refine then_n ?_
     refine wp_seq ?_
     refine wp_seq ?_
     refine wp_quiet mo (by kernel_rfl) S ?_
     refine wq_ev (wn rfl) (ev_move rfl) F rfl rfl ?_; clear F a; intro a F
     refine wq_ev (wn rfl) (ev_int rfl rfl (bo_gtr _ _ _ _)) F rfl rfl ?_; clear F a; intro a F
     refine wq_ev (wn rfl) (ev_move rfl) F rfl rfl ?_; clear F a; intro a F
     obtain ⟨x1, hx1, hm⟩ := bind_some hm
     refine wq_cut 11 (fun a => Fr 50 a [(49, .bool x1)]) ?_ ?_
     ·clear hm; obtain ⟨hc5, hm⟩ | ⟨hc5, hm⟩ := ite_or hx1
      ·refine wq_ev (wg F rfl rfl rfl rfl hc5) (ev_fieldAddr' tu54 tf54_0 (z := 0) ts9 rfl ⟨_, rfl⟩ rfl) F rfl rfl ?_; clear F a; intro a F
       refine wq_ev (wg F rfl rfl rfl rfl hc5) (ev_load1 tu9 rfl rfl (box_ptr (cells := [.string y1.Key]) 0 rfl 0 rfl (lb rfl))) F rfl rfl ?_; clear F a; intro a F
       refine wq_ev (wg F rfl rfl rfl rfl hc5) (ev_fieldAddr' tu25 tf25_1 (z := 0) ts23 rfl ⟨_, rfl⟩ rfl) F rfl rfl ?_; clear F a; intro a F
       refine wq_ev (wg F rfl rfl rfl rfl hc5) (ev_load1 tu23 rfl rfl (box_ptr (cells := [vt_2]) 1 rfl 1 rfl (lb rfl))) F rfl rfl ?_; clear F a; intro a F
       refine wq_ev (wg F rfl rfl rfl rfl hc5) (ev_move rfl) F rfl rfl ?_; clear F a; intro a F
       obtain ⟨z1, hz1, hm⟩ := bind_some hm
       refine wq_ev (wg F rfl rfl rfl rfl hc5) (ev_int rfl rfl (bo_sub hz1)) F rfl rfl ?_; clear F a; intro a F
       obtain ⟨y4, hy4, hm⟩ := bind_some hm
       obtain ⟨cs2, hr2, hp2⟩ := elemS (ht_2.mono ((l1.trans l2).trans l3)) hy4
       obtain ⟨v3, rfl, h4⟩ := rep_Row hr2
       refine wq_ev (wg F rfl rfl rfl rfl hc5) (ev_idxS (ht_2.mono ((l1.trans l2).trans l3)) hy4 tu23 ts54 rfl rfl) F rfl rfl ?_; clear F a; intro a F
       have hp3 := PtrC.field hp2 0 1 (lb rfl)
       have hp3 : PtrC g3 (addP (elemP vt_2 z1 2) 0) [.string y4.Key] := hp3
       refine wq_ev (wg F rfl rfl rfl rfl hc5) (ev_fieldAddr' tu54 tf54_0 (z := 0) ts9 rfl hp2.ptr rfl) F rfl rfl ?_; clear F a; intro a F
       refine wq_ev (wg F rfl rfl rfl rfl hc5) (ev_load1 tu9 rfl rfl (ptr_mono (cks := [[bx b2 #[.string y1.Key, v1] 54], [bx b1 #[vt_1, vt_2] 25]]) (fr := fr) hp3 (Le.refl _))) F rfl rfl ?_; clear F a; intro a F
       refine wq_ev (wg F rfl rfl rfl rfl hc5) (ev_str rfl rfl (bs_leq _ _ _)) F rfl rfl ?_; clear F a; intro a F
       refine wq_ev (wn rfl) (ev_pickT rfl hc5 rfl) F rfl rfl ?_; clear F a; intro a F
       obtain rfl := sinj hm
       refine wq_nil ?_; exact F.sub ⟨rfl, trivial⟩
      ·refine wq_skip rfl rfl rfl rfl (ne_tf hc5) F rfl rfl ?_; clear F a; intro a F
       refine wq_skip rfl rfl rfl rfl (ne_tf hc5) F rfl rfl ?_; clear F a; intro a F
       refine wq_skip rfl rfl rfl rfl (ne_tf hc5) F rfl rfl ?_; clear F a; intro a F
       refine wq_skip rfl rfl rfl rfl (ne_tf hc5) F rfl rfl ?_; clear F a; intro a F
       refine wq_skip rfl rfl rfl rfl (ne_tf hc5) F rfl rfl ?_; clear F a; intro a F
       refine wq_skip rfl rfl rfl rfl (ne_tf hc5) F rfl rfl ?_; clear F a; intro a F
       refine wq_skip rfl rfl rfl rfl (ne_tf hc5) F rfl rfl ?_; clear F a; intro a F
       refine wq_skip rfl rfl rfl rfl (ne_tf hc5) F rfl rfl ?_; clear F a; intro a F
       refine wq_skip rfl rfl rfl rfl (ne_tf hc5) F rfl rfl ?_; clear F a; intro a F
       refine wq_skip rfl rfl rfl rfl (ne_tf hc5) F rfl rfl ?_; clear F a; intro a F
       refine wq_ev (wn rfl) (ev_pickF rfl hc5 rfl) F rfl rfl ?_; clear F a; intro a F
       obtain rfl := sinj hm
       refine wq_nil ?_; exact F.sub ⟨rfl, trivial⟩
     clear F; intro a F
     refine wq_nil ?_; clear S; intro w S
     refine then_n ?_
     obtain ⟨hc6, hm⟩ | ⟨hc6, hm⟩ := ite_or hm
     ·refine wp_condT F rfl hc6 ?_
      refine wp_seq ?_
      refine wp_region_lit ?_
      refine wE (ev_assign rfl) F S rfl fun a F=>?_
      refine wpList_nil ?_
      refine then_n ?_
      refine wp_ret ?_
      refine then_r ?_
      obtain rfl := sinj hm
      refine post_r _ F rfl (ar_cons (resT rfl) ar_nil) ?_
      replace S : St g3 [] fr w := St.tail [] _ S
      exact ⟨_, rfl, g3, ((l1.trans l2).trans l3), S, rfl⟩
     ·refine wp_condF F rfl hc6 ?_
      refine wp_skip ?_
      refine then_n ?_
      refine wp_seq ?_
      refine wp_region_lit ?_
      refine wE (ev_assign rfl) F S rfl fun a F=>?_
      refine wpList_nil ?_
      refine then_n ?_
      refine wp_ret ?_
      obtain rfl := sinj hm
      refine post_r _ F rfl (ar_cons (resT rfl) ar_nil) ?_
      replace S : St g3 [] fr w := St.tail [] _ S
      exact ⟨_, rfl, g3, ((l1.trans l2).trans l3), S, rfl⟩

theorem tablepatch_Validate_ok {g : Gh} {fr : Hl} {w : World} {r : Fault} (t_ : Table) (vt_1 : Value) (ht_1 : RepSl g t_.Columns vt_1) (vt_2 : Value) (ht_2 : RepSl g t_.Rows vt_2) (S : St g [] fr w) (hm : tablepatch_Validate t_ = some r) :
  Calls Try.prog 16 [.agg #[vt_1, vt_2]].toArray w (fun en w' => ∃ v, en = .returned v ∧ ∃ (g' : Gh), Le g g' ∧ St g' [] fr w' ∧ .agg #[.i6 r.Code, .i6 r.Index] = v) := by
 unfold tablepatch_Validate at hm
 refine calls_enter (fn := Try.f16) Try.func16 rfl Try.ntmps16 (lb rfl) ?_
 intro a F
 replace F : Fr 61 a [(0, .agg #[vt_1, vt_2])] := F
 refine wp_seq ?_
 refine wp_region_lit ?_
 refine wl_boxC (wn rfl) rfl rfl rfl F S rfl rfl ?_; clear F a S; rintro b1 a w F S
 refine wl_alloc (wn rfl) rfl tz28 (cs := [.i6 0, .i6 0]) rfl F S rfl rfl ?_; clear F a S; rintro b2 a w F S
 refine wpList_nil ?_
 refine then_n ?_
 refine wp_seq ?_
 refine wp_seq ?_
 refine wp_region_lit ?_
 refine wE (ev_fieldAddr' tu25 tf25_0 (z := 0) ts22 rfl ⟨_, rfl⟩ rfl) F S rfl fun a F=>?_
 refine wE (ev_load1 tu22 rfl rfl (box_ptr (cells := [vt_1]) 1 rfl 0 rfl (lb rfl))) F S rfl fun a F=>?_
 refine wE (ev_lenSh ht_1 rfl tu22) F S rfl fun a F=>?_
 refine wE (ev_int rfl rfl (bo_eql _ _ _ _)) F S rfl fun a F=>?_
 refine wpList_nil ?_
 refine then_n ?_
 obtain ⟨hc1, hm⟩ | ⟨hc1, hm⟩ := ite_or hm
 ·refine wp_condT F rfl hc1 ?_
  refine wp_seq ?_
  refine wp_region_lit ?_
  refine wE (ev_build (parts := [(0, .const (.i6 5)), (1, .const (.i6 (-1)))]) (vs := [(0, .i6 5), (1, .i6 (-1))]) rfl (fun w => tb28_0_1 5 (-1) w)) F S rfl fun a F=>?_
  refine wl_storeC (wn rfl) rfl F S rfl rfl (vs := [.i6 5, .i6 (-1)]) rfl ts28 (one_cons rfl (one_cons rfl one_nil)) (k := 0) rfl (lb rfl) (c' := #[.i6 5, .i6 (-1)]) rfl rfl ?_; clear S; intro w S
  refine wpList_nil ?_
  refine then_n ?_
  refine wp_ret ?_
  refine then_r ?_
  obtain rfl := sinj hm
  refine post_r _ F rfl (ar_cons (resA rfl tu28 rfl (box_ptr (cells := [.i6 5, .i6 (-1)]) 0 rfl 0 rfl (lb rfl) w S) ts28) ar_nil) ?_
  replace S : St g [] fr w := St.tail [] _ S
  exact ⟨_, rfl, g, (Le.refl _), S, rfl⟩
 ·refine wp_condF F rfl hc1 ?_
  refine wp_skip ?_
  refine then_n ?_
  refine wp_seq ?_
  refine wp_seq ?_
  refine wp_region_lit ?_
  refine wE (ev_fieldAddr' tu25 tf25_0 (z := 0) ts22 rfl ⟨_, rfl⟩ rfl) F S rfl fun a F=>?_
  refine wE (ev_load1 tu22 rfl rfl (box_ptr (cells := [vt_1]) 1 rfl 0 rfl (lb rfl))) F S rfl fun a F=>?_
  refine wE (ev_lenSh ht_1 rfl tu22) F S rfl fun a F=>?_
  refine wE (ev_int rfl rfl (bo_gtr _ _ _ _)) F S rfl fun a F=>?_
  refine wE (ev_move rfl) F S rfl fun a F=>?_
  obtain ⟨x1, hx1, hm⟩ := bind_some hm
  refine wl_cut 5 (fun a w' => w = w' ∧ Fr 61 a [(22, .bool x1), (2, bp b2 0), (1, bp b1 0)]) ?_ ?_
  ·clear hm; obtain ⟨hc2, hm⟩ | ⟨hc2, hm⟩ := ite_or hx1
   ·refine wl_skip rfl rfl rfl rfl (ne_ft hc2) F rfl rfl ?_; clear F a; intro a F
    refine wl_skip rfl rfl rfl rfl (ne_ft hc2) F rfl rfl ?_; clear F a; intro a F
    refine wl_skip rfl rfl rfl rfl (ne_ft hc2) F rfl rfl ?_; clear F a; intro a F
    refine wl_skip rfl rfl rfl rfl (ne_ft hc2) F rfl rfl ?_; clear F a; intro a F
    refine wE (ev_pickT rfl hc2 rfl) F S rfl fun a F=>?_
    obtain rfl := sinj hm
    refine wpList_nil (then_n ?_); exact ⟨rfl, F.sub ⟨rfl, rfl, rfl, trivial⟩⟩
   ·refine wl_ev (wg F rfl rfl rfl rfl hc2) (ev_fieldAddr' tu25 tf25_1 (z := 0) ts23 rfl ⟨_, rfl⟩ rfl) F S rfl rfl ?_; clear F a; intro a F
    refine wl_ev (wg F rfl rfl rfl rfl hc2) (ev_load1 tu23 rfl rfl (box_ptr (cells := [vt_2]) 1 rfl 1 rfl (lb rfl))) F S rfl rfl ?_; clear F a; intro a F
    refine wl_ev (wg F rfl rfl rfl rfl hc2) (ev_lenSh ht_2 rfl tu23) F S rfl rfl ?_; clear F a; intro a F
    refine wl_ev (wg F rfl rfl rfl rfl hc2) (ev_int rfl rfl (bo_gtr _ _ _ _)) F S rfl rfl ?_; clear F a; intro a F
    refine wE (ev_pickF rfl hc2 rfl) F S rfl fun a F=>?_
    obtain rfl := sinj hm
    refine wpList_nil (then_n ?_); exact ⟨rfl, F.sub ⟨rfl, rfl, rfl, trivial⟩⟩
  clear F; rintro a w' ⟨rfl, F⟩
  refine wpList_nil ?_
  refine then_n ?_
  obtain ⟨hc3, hm⟩ | ⟨hc3, hm⟩ := ite_or hm
  ·refine wp_condT F rfl hc3 ?_
   refine wp_seq ?_
   refine wp_region_lit ?_
   refine wE (ev_build (parts := [(0, .const (.i6 2)), (1, .const (.i6 (-1)))]) (vs := [(0, .i6 2), (1, .i6 (-1))]) rfl (fun w => tb28_0_1 2 (-1) w)) F S rfl fun a F=>?_
   refine wl_storeC (wn rfl) rfl F S rfl rfl (vs := [.i6 2, .i6 (-1)]) rfl ts28 (one_cons rfl (one_cons rfl one_nil)) (k := 0) rfl (lb rfl) (c' := #[.i6 2, .i6 (-1)]) rfl rfl ?_; clear S; intro w S
   refine wpList_nil ?_
   refine then_n ?_
   refine wp_ret ?_
   refine then_r ?_
   obtain rfl := sinj hm
   refine post_r _ F rfl (ar_cons (resA rfl tu28 rfl (box_ptr (cells := [.i6 2, .i6 (-1)]) 0 rfl 0 rfl (lb rfl) w S) ts28) ar_nil) ?_
   replace S : St g [] fr w := St.tail [] _ S
   exact ⟨_, rfl, g, (Le.refl _), S, rfl⟩
  ·refine wp_condF F rfl hc3 ?_
   refine wp_skip ?_
   refine then_n ?_
   refine wp_cut (fun a w => ∃ (g1 : Gh), Fr 61 a [(2, bp b2 0), (1, bp b1 0)] ∧ Le g g1 ∧ St g1 [[bx b2 #[.i6 0, .i6 0] 28], [bx b1 #[vt_1, vt_2] 25]] fr w ∧ tablepatch_Validate.j1 t_ = some r) ?_ ?_
   ·refine wp_seq ?_
    refine wp_region_lit ?_
    refine wE (ev_fieldAddr' tu25 tf25_0 (z := 0) ts22 rfl ⟨_, rfl⟩ rfl) F S rfl fun a F=>?_
    refine wE (ev_load1 tu22 rfl rfl (box_ptr (cells := [vt_1]) 1 rfl 0 rfl (lb rfl))) F S rfl fun a F=>?_
    refine wE (ev_lenSh ht_1 rfl tu22) F S rfl fun a F=>?_
    refine wE (ev_move rfl) F S rfl fun a F=>?_
    refine wpList_nil ?_
    refine then_n ?_
    refine wp_block ?_
    obtain ⟨r2, hr2, hm⟩ := bind_some hm
    have hmo2 := hm; clear hm
    refine wp_iter (σ := Int) (ρ := Fault ⊕ Unit) (m := fun s => tablepatch_Validate.l2 t_ s) (I := fun x4 a w => ∃ (g5 : Gh), Fr 61 a [(27, .i6 x4), (26, .i6 (t_.Columns.length : Int)), (25, vt_1), (2, bp b2 0), (1, bp b1 0)] ∧ Le g g5 ∧ St g5 [[bx b2 #[.i6 0, .i6 0] 28], [bx b1 #[vt_1, vt_2] 25]] fr w) hr2 ?_ ?_
    ·exact ⟨g, F.sub ⟨rfl, rfl, rfl, rfl, rfl, trivial⟩, (Le.refl _), S⟩
    ·clear F S; rintro x4 a w x5 ⟨g5, F, l5, S⟩ hx3 hfin2
     have hm : tablepatch_Validate.l2 t_ x4 = some x5 := hx3; clear hx3
     unfold tablepatch_Validate.l2 at hm
     refine wp_seq ?_
     refine wp_region_lit ?_
     refine wE (ev_int rfl rfl (bo_lss _ _ _ _)) F S rfl fun a F=>?_
     refine wpList_nil ?_
     refine then_n ?_
     refine wp_seq ?_
     obtain ⟨hc6, hm⟩ | ⟨hc6, hm⟩ := ite_or hm
     ·refine wp_condT F rfl hc6 ?_
      refine wp_skip ?_
      refine then_n ?_
      refine wp_seq ?_
      refine wp_block ?_
      refine wp_seq ?_
      refine wp_region_lit ?_
      refine wE (ev_move rfl) F S rfl fun a F=>?_
      obtain ⟨y2, hy2, hm⟩ := bind_some hm
      obtain ⟨cs1, hr3, hp1⟩ := elemS (ht_1.mono l5) hy2
      obtain rfl := rep_str hr3
      refine wE (ev_idxS (ht_1.mono l5) hy2 tu22 ts9 rfl rfl) F S rfl fun a F=>?_
      refine wE (ev_load1 tu9 rfl rfl (ptr_mono (cks := [[bx b2 #[.i6 0, .i6 0] 28], [bx b1 #[vt_1, vt_2] 25]]) (fr := fr) hp1 (Le.refl _))) F S rfl fun a F=>?_
      refine wE (ev_assign rfl) F S rfl fun a F=>?_
      refine wE (ev_assign rfl) F S rfl fun a F=>?_
      refine wpList_nil ?_
      refine then_n ?_
      refine wp_seq ?_
      refine wp_region_lit ?_
      refine wE (ev_move rfl) F S rfl fun a F=>?_
      refine wE (ev_fieldAddr' tu25 tf25_0 (z := 0) ts22 rfl ⟨_, rfl⟩ rfl) F S rfl fun a F=>?_
      refine wE (ev_load1 tu22 rfl rfl (box_ptr (cells := [vt_1]) 1 rfl 0 rfl (lb rfl))) F S rfl fun a F=>?_
      refine wE (ev_move rfl) F S rfl fun a F=>?_
      obtain ⟨y3, hy3, hm⟩ := bind_some hm
      refine wl_cutS (wn rfl) rfl (ht_1.mono l5) hy3 tu22 ts9 rfl (bnd0 _) (bndV rfl) F rfl rfl ?_; clear F a; rintro v1 h1 a F
      obtain ⟨y4, hy4, hm⟩ := bind_some hm
      refine wl_call0 (wn rfl) rfl F rfl (tablepatch_column_ok (fr := (fl [[bx b2 #[.i6 0, .i6 0] 28], [bx b1 #[vt_1, vt_2] 25]] fr)) y2 y3 v1 h1 S hy4) rfl tc36 rfl rfl ?_; clear F a S
      rintro _ a w ⟨g6, l6, S, rfl⟩ F; replace S : St g6 [[bx b2 #[.i6 0, .i6 0] 28], [bx b1 #[vt_1, vt_2] 25]] fr w := S
      refine wE (ev_assign rfl) F S rfl fun a F=>?_
      refine wpList_nil ?_
      refine then_n ?_
      refine wp_seq ?_
      refine wp_region_lit ?_
      refine wE (ev_move rfl) F S rfl fun a F=>?_
      refine wE (ev_int rfl rfl (bo_neq _ _ _ _)) F S rfl fun a F=>?_
      refine wpList_nil ?_
      refine then_n ?_
      obtain ⟨hc7, hm⟩ | ⟨hc7, hm⟩ := ite_or hm
      ·refine wp_condT F rfl hc7 ?_
       refine wp_seq ?_
       refine wp_region_lit ?_
       refine wE (ev_move rfl) F S rfl fun a F=>?_
       refine wE (ev_move rfl) F S rfl fun a F=>?_
       obtain ⟨z2, hz2, hm⟩ := bind_some hm
       refine wE (ev_int rfl rfl (bo_sub hz2)) F S rfl fun a F=>?_
       refine wE (ev_build (parts := [(0, .tmp 40), (1, .tmp 42)]) (vs := [(0, .i6 y4), (1, .i6 z2)]) rfl (fun w => tb28_0_1 y4 z2 w)) F S rfl fun a F=>?_
       refine wl_storeC (wn rfl) rfl F S rfl rfl (vs := [.i6 y4, .i6 z2]) rfl ts28 (one_cons rfl (one_cons rfl one_nil)) (k := 0) rfl (lb rfl) (c' := #[.i6 y4, .i6 z2]) rfl rfl ?_; clear S; intro w S
       refine wpList_nil ?_
       refine then_n ?_
       refine wp_ret ?_
       refine inb_r ?_
       refine then_r ?_
       refine then_r ?_
       refine inb_r ?_
       refine then_r ?_
       obtain rfl := sinj hm
       obtain rfl := hfin2 _ rfl
       clear hm
       have hm : (some ({ Code := y4, Index := z2 } : Fault) : Option Fault) = some _ := hmo2
       obtain rfl := sinj hm
       refine post_r _ F rfl (ar_cons (resA rfl tu28 rfl (box_ptr (cells := [.i6 y4, .i6 z2]) 0 rfl 0 rfl (lb rfl) w S) ts28) ar_nil) ?_
       replace S : St g6 [] fr w := St.tail [] _ S
       exact ⟨_, rfl, g6, (l5.trans l6), S, rfl⟩
      ·refine wp_condF F rfl hc7 ?_
       refine wp_skip ?_
       refine inb_n ?_
       refine then_n ?_
       refine wp_region_lit ?_
       obtain ⟨z3, hz3, hm⟩ := bind_some hm
       refine wE (ev_int rfl rfl (bo_add hz3)) F S rfl fun a F=>?_
       refine wE (ev_move rfl) F S rfl fun a F=>?_
       refine wpList_nil ?_
       refine then_n ?_
       obtain rfl := sinj hm
       refine ⟨_, rfl, ?_⟩
       exact ⟨g6, F.sub ⟨rfl, rfl, rfl, rfl, rfl, trivial⟩, (l5.trans l6), S⟩
     ·refine wp_condF F rfl hc6 ?_
      refine wp_exit ?_
      refine then_e ?_
      refine then_e ?_
      refine inb_x ?_
      refine then_n ?_
      obtain rfl := sinj hm
      obtain rfl := hfin2 _ rfl
      clear hm
      have hm : (tablepatch_Validate.j1 t_ : Option Fault) = some _ := hmo2
      exact ⟨g5, F.sub ⟨rfl, rfl, trivial⟩, l5, S, hm⟩
   ·clear F S hm; rintro a w ⟨g1, F, l1, S, hm⟩
    refine wp_cut (fun a w => ∃ (g2 : Gh), Fr 61 a [(2, bp b2 0)] ∧ Le g1 g2 ∧ St g2 [[bx b2 #[.i6 0, .i6 0] 28]] fr w ∧ tablepatch_Validate.j2 = some r) ?_ ?_
    ·refine wp_seq ?_
     refine wp_region_lit ?_
     refine wE (ev_fieldAddr' tu25 tf25_1 (z := 0) ts23 rfl ⟨_, rfl⟩ rfl) F S rfl fun a F=>?_
     refine wE (ev_load1 tu23 rfl rfl (box_ptr (cells := [vt_2]) 1 rfl 1 rfl (lb rfl))) F S rfl fun a F=>?_
     refine wE (ev_lenSh ht_2 rfl tu23) F S rfl fun a F=>?_
     refine wE (ev_move rfl) F S rfl fun a F=>?_
     refine wpList_nil ?_
     refine then_n ?_
     refine wp_block ?_
     obtain ⟨r1, hr1, hm⟩ := bind_some hm
     have hmo1 := hm; clear hm
     refine wp_iter (σ := Int) (ρ := Fault ⊕ Unit) (m := fun s => tablepatch_Validate.l1 t_ s) (I := fun x2 a w => ∃ (g3 : Gh), Fr 61 a [(48, .i6 x2), (47, .i6 (t_.Rows.length : Int)), (2, bp b2 0), (1, bp b1 0)] ∧ Le g1 g3 ∧ St g3 [[bx b2 #[.i6 0, .i6 0] 28], [bx b1 #[vt_1, vt_2] 25]] fr w) hr1 ?_ ?_
     ·exact ⟨g1, F.sub ⟨rfl, rfl, rfl, rfl, trivial⟩, (Le.refl _), S⟩
     ·clear F S; rintro x2 a w x3 ⟨g3, F, l3, S⟩ hx2 hfin1
      have hm : tablepatch_Validate.l1 t_ x2 = some x3 := hx2; clear hx2
      unfold tablepatch_Validate.l1 at hm
      refine wp_seq ?_
      refine wp_region_lit ?_
      refine wE (ev_int rfl rfl (bo_lss _ _ _ _)) F S rfl fun a F=>?_
      refine wpList_nil ?_
      refine then_n ?_
      refine wp_seq ?_
      obtain ⟨hc4, hm⟩ | ⟨hc4, hm⟩ := ite_or hm
      ·refine wp_condT F rfl hc4 ?_
       refine wp_skip ?_
       refine then_n ?_
       refine wp_seq ?_
       refine wp_block ?_
       refine wp_seq ?_
       refine wp_region_lit ?_
       refine wE (ev_move rfl) F S rfl fun a F=>?_
       refine wE (ev_assign rfl) F S rfl fun a F=>?_
       refine wpList_nil ?_
       refine then_n ?_
       refine wp_seq ?_
       refine wp_region_lit ?_
       refine wE (ev_loadA tu25 rfl (cs := [vt_1, vt_2]) ts25 rfl (box_ptr (cells := [vt_1, vt_2]) 1 rfl 0 rfl (lb rfl))) F S rfl fun a F=>?_
       refine wE (ev_move rfl) F S rfl fun a F=>?_
       obtain ⟨y1, hy1, hm⟩ := bind_some hm
       refine wl_call0 (wn rfl) rfl F rfl (tablepatch_row_ok (fr := (fl [[bx b2 #[.i6 0, .i6 0] 28], [bx b1 #[vt_1, vt_2] 25]] fr)) t_ vt_1 (ht_1.mono (l1.trans l3)) vt_2 (ht_2.mono (l1.trans l3)) x2 S hy1) rfl tc37 rfl rfl ?_; clear F a S
       rintro _ a w ⟨g4, l4, S, rfl⟩ F; replace S : St g4 [[bx b2 #[.i6 0, .i6 0] 28], [bx b1 #[vt_1, vt_2] 25]] fr w := S
       refine wE (ev_assign rfl) F S rfl fun a F=>?_
       refine wpList_nil ?_
       refine then_n ?_
       refine wp_seq ?_
       refine wp_region_lit ?_
       refine wE (ev_move rfl) F S rfl fun a F=>?_
       refine wE (ev_int rfl rfl (bo_neq _ _ _ _)) F S rfl fun a F=>?_
       refine wpList_nil ?_
       refine then_n ?_
       obtain ⟨hc5, hm⟩ | ⟨hc5, hm⟩ := ite_or hm
       ·refine wp_condT F rfl hc5 ?_
        refine wp_seq ?_
        refine wp_region_lit ?_
        refine wE (ev_move rfl) F S rfl fun a F=>?_
        refine wE (ev_move rfl) F S rfl fun a F=>?_
        refine wE (ev_build (parts := [(0, .tmp 56), (1, .tmp 57)]) (vs := [(0, .i6 y1), (1, .i6 x2)]) rfl (fun w => tb28_0_1 y1 x2 w)) F S rfl fun a F=>?_
        refine wl_storeC (wn rfl) rfl F S rfl rfl (vs := [.i6 y1, .i6 x2]) rfl ts28 (one_cons rfl (one_cons rfl one_nil)) (k := 0) rfl (lb rfl) (c' := #[.i6 y1, .i6 x2]) rfl rfl ?_; clear S; intro w S
        refine wpList_nil ?_
        refine then_n ?_
        refine wp_ret ?_
        refine inb_r ?_
        refine then_r ?_
        refine then_r ?_
        refine inb_r ?_
        refine then_r ?_
        obtain rfl := sinj hm
        obtain rfl := hfin1 _ rfl
        clear hm
        have hm : (some ({ Code := y1, Index := x2 } : Fault) : Option Fault) = some _ := hmo1
        obtain rfl := sinj hm
        refine post_r _ F rfl (ar_cons (resA rfl tu28 rfl (box_ptr (cells := [.i6 y1, .i6 x2]) 0 rfl 0 rfl (lb rfl) w S) ts28) ar_nil) ?_
        replace S : St g4 [] fr w := St.tail [] _ S
        exact ⟨_, rfl, g4, ((l1.trans l3).trans l4), S, rfl⟩
       ·refine wp_condF F rfl hc5 ?_
        refine wp_skip ?_
        refine inb_n ?_
        refine then_n ?_
        refine wp_region_lit ?_
        obtain ⟨z1, hz1, hm⟩ := bind_some hm
        refine wE (ev_int rfl rfl (bo_add hz1)) F S rfl fun a F=>?_
        refine wE (ev_move rfl) F S rfl fun a F=>?_
        refine wpList_nil ?_
        refine then_n ?_
        obtain rfl := sinj hm
        refine ⟨_, rfl, ?_⟩
        exact ⟨g4, F.sub ⟨rfl, rfl, rfl, rfl, trivial⟩, (l3.trans l4), S⟩
      ·refine wp_condF F rfl hc4 ?_
       refine wp_exit ?_
       refine then_e ?_
       refine then_e ?_
       refine inb_x ?_
       refine then_n ?_
       obtain rfl := sinj hm
       obtain rfl := hfin1 _ rfl
       clear hm
       have hm : (tablepatch_Validate.j2 : Option Fault) = some _ := hmo1
       replace S : St g3 [[bx b2 #[.i6 0, .i6 0] 28]] fr w := St.tail [[bx b2 #[.i6 0, .i6 0] 28]] _ (S.frontC 0 rfl)
       exact ⟨g3, F.sub ⟨rfl, trivial⟩, l3, S, hm⟩
    ·clear F S hm; rintro a w ⟨g2, F, l2, S, hm⟩
     refine wp_seq ?_
     refine wp_region_lit ?_
     refine wE (ev_build (parts := []) (vs := []) rfl (fun w => tb28_  w)) F S rfl fun a F=>?_
     refine wl_storeC (wn rfl) rfl F S rfl rfl (vs := [.i6 0, .i6 0]) rfl ts28 (one_cons rfl (one_cons rfl one_nil)) (k := 0) rfl (lb rfl) (c' := #[.i6 0, .i6 0]) rfl rfl ?_; clear S; intro w S
     refine wpList_nil ?_
     refine then_n ?_
     refine wp_ret ?_
     obtain rfl := sinj hm
     refine post_r _ F rfl (ar_cons (resA rfl tu28 rfl (box_ptr (cells := [.i6 0, .i6 0]) 0 rfl 0 rfl (lb rfl) w S) ts28) ar_nil) ?_
     replace S : St g2 [] fr w := St.tail [] _ S
     exact ⟨_, rfl, g2, (l1.trans l2), S, rfl⟩

theorem slices_Equal_ok {g : Gh} {fr : Hl} {w : World} {r : Bool} (s1_ : (List ByteArray)) (vs1_1 : Value) (hs1_1 : RepSl g s1_ vs1_1) (s2_ : (List ByteArray)) (vs2_1 : Value) (hs2_1 : RepSl g s2_ vs2_1) (S : St g [] fr w) (hm : slices_Equal s1_ s2_ = some r) :
  Calls Try.prog 27 [vs1_1, vs2_1].toArray w (fun en w' => ∃ v, en = .returned v ∧ ∃ (g' : Gh), Le g g' ∧ St g' [] fr w' ∧ .bool r = v) := by
 unfold slices_Equal at hm
 refine calls_enter (fn := Try.f27) Try.func27 rfl Try.ntmps27 (lb rfl) ?_
 intro a F
 replace F : Fr 26 a [(0, vs1_1), (1, vs2_1)] := F
 refine wp_seq ?_
 refine wp_region_lit ?_
 refine wE (ev_assign rfl) F S rfl fun a F=>?_
 refine wpList_nil ?_
 refine then_n ?_
 refine wp_seq ?_
 refine wp_seq ?_
 refine wp_region_lit ?_
 refine wE (ev_move rfl) F S rfl fun a F=>?_
 refine wE (ev_lenSh hs1_1 rfl tu22) F S rfl fun a F=>?_
 refine wE (ev_move rfl) F S rfl fun a F=>?_
 refine wE (ev_lenSh hs2_1 rfl tu22) F S rfl fun a F=>?_
 refine wE (ev_int rfl rfl (bo_neq _ _ _ _)) F S rfl fun a F=>?_
 refine wpList_nil ?_
 refine then_n ?_
 obtain ⟨hc1, hm⟩ | ⟨hc1, hm⟩ := ite_or hm
 ·refine wp_condT F rfl hc1 ?_
  refine wp_seq ?_
  refine wp_region_lit ?_
  refine wE (ev_assign rfl) F S rfl fun a F=>?_
  refine wpList_nil ?_
  refine then_n ?_
  refine wp_ret ?_
  refine then_r ?_
  obtain rfl := sinj hm
  refine post_r _ F rfl (ar_cons (resT rfl) ar_nil) ?_
  exact ⟨_, rfl, g, (Le.refl _), S, rfl⟩
 ·refine wp_condF F rfl hc1 ?_
  refine wp_skip ?_
  refine then_n ?_
  refine wp_cut (fun a w => ∃ (g1 : Gh), Fr 26 a [] ∧ Le g g1 ∧ St g1 [] fr w ∧ slices_Equal.j1 = some r) ?_ ?_
  ·refine wp_seq ?_
   refine wp_region_lit ?_
   refine wE (ev_move rfl) F S rfl fun a F=>?_
   refine wE (ev_lenSh hs1_1 rfl tu22) F S rfl fun a F=>?_
   refine wE (ev_move rfl) F S rfl fun a F=>?_
   refine wpList_nil ?_
   refine then_n ?_
   refine wp_block ?_
   obtain ⟨r1, hr1, hm⟩ := bind_some hm
   have hmo1 := hm; clear hm
   refine wp_iter (σ := Int) (ρ := Bool ⊕ Unit) (m := fun s => slices_Equal.l1 s1_ s2_ s) (I := fun x1 a w => ∃ (g2 : Gh), Fr 26 a [(13, .i6 x1), (12, .i6 (s1_.length : Int)), (0, vs1_1), (1, vs2_1)] ∧ Le g g2 ∧ St g2 [] fr w) hr1 ?_ ?_
   ·exact ⟨g, F.sub ⟨rfl, rfl, rfl, rfl, trivial⟩, (Le.refl _), S⟩
   ·clear F S; rintro x1 a w x2 ⟨g2, F, l2, S⟩ hx1 hfin1
    have hm : slices_Equal.l1 s1_ s2_ x1 = some x2 := hx1; clear hx1
    unfold slices_Equal.l1 at hm
    refine wp_seq ?_
    refine wp_region_lit ?_
    refine wE (ev_int rfl rfl (bo_lss _ _ _ _)) F S rfl fun a F=>?_
    refine wpList_nil ?_
    refine then_n ?_
    refine wp_seq ?_
    obtain ⟨hc2, hm⟩ | ⟨hc2, hm⟩ := ite_or hm
    ·refine wp_condT F rfl hc2 ?_
     refine wp_skip ?_
     refine then_n ?_
     refine wp_seq ?_
     refine wp_block ?_
     refine wp_seq ?_
     refine wp_region_lit ?_
     refine wE (ev_move rfl) F S rfl fun a F=>?_
     refine wE (ev_assign rfl) F S rfl fun a F=>?_
     refine wpList_nil ?_
     refine then_n ?_
     refine wp_seq ?_
     refine wp_quiet mo (by kernel_rfl) S ?_
     refine wq_ev (wn rfl) (ev_move rfl) F rfl rfl ?_; clear F a; intro a F
     refine wq_ev (wn rfl) (ev_move rfl) F rfl rfl ?_; clear F a; intro a F
     obtain ⟨y1, hy1, hm⟩ := bind_some hm
     obtain ⟨cs1, hr2, hp1⟩ := elemS (hs1_1.mono l2) hy1
     obtain rfl := rep_str hr2
     refine wq_ev (wn rfl) (ev_idxS (hs1_1.mono l2) hy1 tu22 ts9 rfl rfl) F rfl rfl ?_; clear F a; intro a F
     refine wq_ev (wn rfl) (ev_load1 tu9 rfl rfl (ptr_mono (cks := []) (fr := fr) hp1 (Le.refl _))) F rfl rfl ?_; clear F a; intro a F
     refine wq_ev (wn rfl) (ev_move rfl) F rfl rfl ?_; clear F a; intro a F
     refine wq_ev (wn rfl) (ev_move rfl) F rfl rfl ?_; clear F a; intro a F
     obtain ⟨y2, hy2, hm⟩ := bind_some hm
     obtain ⟨cs2, hr3, hp2⟩ := elemS (hs2_1.mono l2) hy2
     obtain rfl := rep_str hr3
     refine wq_ev (wn rfl) (ev_idxS (hs2_1.mono l2) hy2 tu22 ts9 rfl rfl) F rfl rfl ?_; clear F a; intro a F
     refine wq_ev (wn rfl) (ev_load1 tu9 rfl rfl (ptr_mono (cks := []) (fr := fr) hp2 (Le.refl _))) F rfl rfl ?_; clear F a; intro a F
     refine wq_ev (wn rfl) (ev_str rfl rfl (bs_neq _ _ _)) F rfl rfl ?_; clear F a; intro a F
     refine wq_nil ?_; clear S; intro w S
     refine then_n ?_
     obtain ⟨hc3, hm⟩ | ⟨hc3, hm⟩ := ite_or hm
     ·refine wp_condT F rfl hc3 ?_
      refine wp_seq ?_
      refine wp_region_lit ?_
      refine wE (ev_assign rfl) F S rfl fun a F=>?_
      refine wpList_nil ?_
      refine then_n ?_
      refine wp_ret ?_
      refine inb_r ?_
      refine then_r ?_
      refine then_r ?_
      refine inb_r ?_
      refine then_r ?_
      obtain rfl := sinj hm
      obtain rfl := hfin1 _ rfl
      clear hm
      have hm : (some false : Option Bool) = some _ := hmo1
      obtain rfl := sinj hm
      refine post_r _ F rfl (ar_cons (resT rfl) ar_nil) ?_
      exact ⟨_, rfl, g2, l2, S, rfl⟩
     ·refine wp_condF F rfl hc3 ?_
      refine wp_skip ?_
      refine inb_n ?_
      refine then_n ?_
      refine wp_region_lit ?_
      obtain ⟨z1, hz1, hm⟩ := bind_some hm
      refine wE (ev_int rfl rfl (bo_add hz1)) F S rfl fun a F=>?_
      refine wE (ev_move rfl) F S rfl fun a F=>?_
      refine wpList_nil ?_
      refine then_n ?_
      obtain rfl := sinj hm
      refine ⟨_, rfl, ?_⟩
      exact ⟨g2, F.sub ⟨rfl, rfl, rfl, rfl, trivial⟩, l2, S⟩
    ·refine wp_condF F rfl hc2 ?_
     refine wp_exit ?_
     refine then_e ?_
     refine then_e ?_
     refine inb_x ?_
     refine then_n ?_
     obtain rfl := sinj hm
     obtain rfl := hfin1 _ rfl
     clear hm
     have hm : (slices_Equal.j1 : Option Bool) = some _ := hmo1
     exact ⟨g2, F.sub trivial, l2, S, hm⟩
  ·clear F S hm; rintro a w ⟨g1, F, l1, S, hm⟩
   refine wp_seq ?_
   refine wp_region_lit ?_
   refine wE (ev_assign rfl) F S rfl fun a F=>?_
   refine wpList_nil ?_
   refine then_n ?_
   refine wp_ret ?_
   obtain rfl := sinj hm
   refine post_r _ F rfl (ar_cons (resT rfl) ar_nil) ?_
   exact ⟨_, rfl, g1, l1, S, rfl⟩

theorem tablepatch_pair_ok {g : Gh} {fr : Hl} {w : World} {r : Fault} (old_ : Table) (vold_1 : Value) (hold_1 : RepSl g old_.Columns vold_1) (vold_2 : Value) (hold_2 : RepSl g old_.Rows vold_2) (newer : Table) (vnewer1 : Value) (hnewer1 : RepSl g newer.Columns vnewer1) (vnewer2 : Value) (hnewer2 : RepSl g newer.Rows vnewer2) (index : Int) (S : St g [] fr w) (hm : tablepatch_pair old_ newer index = some r) :
  Calls Try.prog 23 [.agg #[vold_1, vold_2], .agg #[vnewer1, vnewer2], .i6 index].toArray w (fun en w' => ∃ v, en = .returned v ∧ ∃ (g' : Gh), Le g g' ∧ St g' [] fr w' ∧ .agg #[.i6 r.Code, .i6 r.Index] = v) := by
 unfold tablepatch_pair at hm
 refine calls_enter (fn := Try.f23) Try.func23 rfl Try.ntmps23 (lb rfl) ?_
 intro a F
 replace F : Fr 33 a [(0, .agg #[vold_1, vold_2]), (1, .agg #[vnewer1, vnewer2]), (2, .i6 index)] := F
 refine wp_seq ?_
 refine wp_region_lit ?_
 refine wl_boxC (wn rfl) rfl rfl rfl F S rfl rfl ?_; clear F a S; rintro b1 a w F S
 refine wl_boxC (wn rfl) rfl rfl rfl F S rfl rfl ?_; clear F a S; rintro b2 a w F S
 refine wl_alloc (wn rfl) rfl tz28 (cs := [.i6 0, .i6 0]) rfl F S rfl rfl ?_; clear F a S; rintro b3 a w F S
 refine wpList_nil ?_
 refine then_n ?_
 refine wp_seq ?_
 refine wp_seq ?_
 refine wp_region_lit ?_
 refine wE (ev_loadA tu25 rfl (cs := [vold_1, vold_2]) ts25 rfl (box_ptr (cells := [vold_1, vold_2]) 2 rfl 0 rfl (lb rfl))) F S rfl fun a F=>?_
 obtain ⟨y1, hy1, hm⟩ := bind_some hm
 refine wl_call0 (wn rfl) rfl F rfl (tablepatch_Validate_ok (fr := (fl [[bx b3 #[.i6 0, .i6 0] 28], [bx b2 #[vnewer1, vnewer2] 25], [bx b1 #[vold_1, vold_2] 25]] fr)) old_ vold_1 hold_1 vold_2 hold_2 S hy1) rfl tc16 rfl rfl ?_; clear F a S
 rintro _ a w ⟨g1, l1, S, rfl⟩ F; replace S : St g1 [[bx b3 #[.i6 0, .i6 0] 28], [bx b2 #[vnewer1, vnewer2] 25], [bx b1 #[vold_1, vold_2] 25]] fr w := S
 refine wl_alloc (wn rfl) rfl tz28 (cs := [.i6 0, .i6 0]) rfl F S rfl rfl ?_; clear F a S; rintro b4 a w F S
 refine wl_storeC (wn rfl) rfl F S rfl rfl (vs := [.i6 y1.Code, .i6 y1.Index]) rfl ts28 (one_cons rfl (one_cons rfl one_nil)) (k := 0) rfl (lb rfl) (c' := #[.i6 y1.Code, .i6 y1.Index]) rfl rfl ?_; clear S; intro w S
 refine wpList_nil ?_
 refine then_n ?_
 refine wp_seq ?_
 refine wp_region_lit ?_
 refine wE (ev_loadA tu28 rfl (cs := [.i6 y1.Code, .i6 y1.Index]) ts28 rfl (box_ptr (cells := [.i6 y1.Code, .i6 y1.Index]) 0 rfl 0 rfl (lb rfl))) F S rfl fun a F=>?_
 refine wE (ev_build (parts := []) (vs := []) rfl (fun w => tb28_  w)) F S rfl fun a F=>?_
 refine wE (ev_neS tu28 tqa28 tqb28 tqc28 (xs := [.i6 y1.Code, .i6 y1.Index]) (ys := [.i6 0, .i6 0]) rfl rfl ⟨_, _, rfl, by decide, ⟨_, _, rfl, rfl, leaf_int tu3⟩, ⟨_, _, rfl, by decide, ⟨_, _, rfl, rfl, leaf_int tu3⟩, rfl⟩⟩) F S rfl fun a F=>?_
 refine wpList_nil ?_
 refine then_n ?_
 obtain ⟨hc1, hm⟩ | ⟨hc1, hm⟩ := ite_or hm
 ·refine wp_condT F rfl hc1 ?_
  refine wp_seq ?_
  refine wp_region_lit ?_
  refine wE (ev_loadA tu28 rfl (cs := [.i6 y1.Code, .i6 y1.Index]) ts28 rfl (box_ptr (cells := [.i6 y1.Code, .i6 y1.Index]) 0 rfl 0 rfl (lb rfl))) F S rfl fun a F=>?_
  refine wl_storeC (wn rfl) rfl F S rfl rfl (vs := [.i6 y1.Code, .i6 y1.Index]) rfl ts28 (one_cons rfl (one_cons rfl one_nil)) (k := 1) rfl (lb rfl) (c' := #[.i6 y1.Code, .i6 y1.Index]) rfl rfl ?_; clear S; intro w S
  refine wpList_nil ?_
  refine then_n ?_
  refine wp_ret ?_
  refine then_r ?_
  obtain rfl := sinj hm
  refine post_r _ F rfl (ar_cons (resA rfl tu28 rfl (box_ptr (cells := [.i6 y1.Code, .i6 y1.Index]) 1 rfl 0 rfl (lb rfl) w S) ts28) ar_nil) ?_
  replace S : St g1 [] fr w := St.tail [] _ S
  exact ⟨_, rfl, g1, l1, S, rfl⟩
 ·refine wp_condF F rfl hc1 ?_
  refine wp_skip ?_
  refine then_n ?_
  refine wp_seq ?_
  refine wp_seq ?_
  refine wp_region_lit ?_
  refine wE (ev_loadA tu25 rfl (cs := [vnewer1, vnewer2]) ts25 rfl (box_ptr (cells := [vnewer1, vnewer2]) 2 rfl 0 rfl (lb rfl))) F S rfl fun a F=>?_
  obtain ⟨y2, hy2, hm⟩ := bind_some hm
  refine wl_call0 (wn rfl) rfl F rfl (tablepatch_Validate_ok (fr := (fl [[bx b4 #[.i6 y1.Code, .i6 y1.Index] 28], [bx b3 #[.i6 0, .i6 0] 28], [bx b2 #[vnewer1, vnewer2] 25], [bx b1 #[vold_1, vold_2] 25]] fr)) newer vnewer1 (hnewer1.mono l1) vnewer2 (hnewer2.mono l1) S hy2) rfl tc16 rfl rfl ?_; clear F a S
  rintro _ a w ⟨g2, l2, S, rfl⟩ F; replace S : St g2 [[bx b4 #[.i6 y1.Code, .i6 y1.Index] 28], [bx b3 #[.i6 0, .i6 0] 28], [bx b2 #[vnewer1, vnewer2] 25], [bx b1 #[vold_1, vold_2] 25]] fr w := S
  refine wl_alloc (wn rfl) rfl tz28 (cs := [.i6 0, .i6 0]) rfl F S rfl rfl ?_; clear F a S; rintro b5 a w F S
  refine wl_storeC (wn rfl) rfl F S rfl rfl (vs := [.i6 y2.Code, .i6 y2.Index]) rfl ts28 (one_cons rfl (one_cons rfl one_nil)) (k := 0) rfl (lb rfl) (c' := #[.i6 y2.Code, .i6 y2.Index]) rfl rfl ?_; clear S; intro w S
  refine wpList_nil ?_
  refine then_n ?_
  refine wp_seq ?_
  refine wp_region_lit ?_
  refine wE (ev_loadA tu28 rfl (cs := [.i6 y2.Code, .i6 y2.Index]) ts28 rfl (box_ptr (cells := [.i6 y2.Code, .i6 y2.Index]) 0 rfl 0 rfl (lb rfl))) F S rfl fun a F=>?_
  refine wE (ev_build (parts := []) (vs := []) rfl (fun w => tb28_  w)) F S rfl fun a F=>?_
  refine wE (ev_neS tu28 tqa28 tqb28 tqc28 (xs := [.i6 y2.Code, .i6 y2.Index]) (ys := [.i6 0, .i6 0]) rfl rfl ⟨_, _, rfl, by decide, ⟨_, _, rfl, rfl, leaf_int tu3⟩, ⟨_, _, rfl, by decide, ⟨_, _, rfl, rfl, leaf_int tu3⟩, rfl⟩⟩) F S rfl fun a F=>?_
  refine wpList_nil ?_
  refine then_n ?_
  obtain ⟨hc2, hm⟩ | ⟨hc2, hm⟩ := ite_or hm
  ·refine wp_condT F rfl hc2 ?_
   refine wp_seq ?_
   refine wp_region_lit ?_
   refine wE (ev_fieldAddr' tu28 tf28_0 (z := 0) ts3 rfl ⟨_, rfl⟩ rfl) F S rfl fun a F=>?_
   refine wE (ev_load1 tu3 rfl rfl (box_ptr (cells := [.i6 y2.Code]) 0 rfl 0 rfl (lb rfl))) F S rfl fun a F=>?_
   refine wE (ev_move rfl) F S rfl fun a F=>?_
   refine wE (ev_build (parts := [(0, .tmp 21), (1, .tmp 22)]) (vs := [(0, .i6 y2.Code), (1, .i6 index)]) rfl (fun w => tb28_0_1 y2.Code index w)) F S rfl fun a F=>?_
   refine wl_storeC (wn rfl) rfl F S rfl rfl (vs := [.i6 y2.Code, .i6 index]) rfl ts28 (one_cons rfl (one_cons rfl one_nil)) (k := 2) rfl (lb rfl) (c' := #[.i6 y2.Code, .i6 index]) rfl rfl ?_; clear S; intro w S
   refine wpList_nil ?_
   refine then_n ?_
   refine wp_ret ?_
   refine then_r ?_
   obtain rfl := sinj hm
   refine post_r _ F rfl (ar_cons (resA rfl tu28 rfl (box_ptr (cells := [.i6 y2.Code, .i6 index]) 2 rfl 0 rfl (lb rfl) w S) ts28) ar_nil) ?_
   replace S : St g2 [] fr w := St.tail [] _ S
   exact ⟨_, rfl, g2, (l1.trans l2), S, rfl⟩
  ·refine wp_condF F rfl hc2 ?_
   refine wp_skip ?_
   refine then_n ?_
   refine wp_seq ?_
   refine wp_seq ?_
   refine wp_region_lit ?_
   refine wE (ev_fieldAddr' tu25 tf25_0 (z := 0) ts22 rfl ⟨_, rfl⟩ rfl) F S rfl fun a F=>?_
   refine wE (ev_load1 tu22 rfl rfl (box_ptr (cells := [vold_1]) 4 rfl 0 rfl (lb rfl))) F S rfl fun a F=>?_
   refine wE (ev_fieldAddr' tu25 tf25_0 (z := 0) ts22 rfl ⟨_, rfl⟩ rfl) F S rfl fun a F=>?_
   refine wE (ev_load1 tu22 rfl rfl (box_ptr (cells := [vnewer1]) 3 rfl 0 rfl (lb rfl))) F S rfl fun a F=>?_
   obtain ⟨y3, hy3, hm⟩ := bind_some hm
   refine wl_call0 (wn rfl) rfl F rfl (slices_Equal_ok (fr := (fl [[bx b5 #[.i6 y2.Code, .i6 y2.Index] 28], [bx b4 #[.i6 y1.Code, .i6 y1.Index] 28], [bx b3 #[.i6 0, .i6 0] 28], [bx b2 #[vnewer1, vnewer2] 25], [bx b1 #[vold_1, vold_2] 25]] fr)) old_.Columns vold_1 (hold_1.mono (l1.trans l2)) newer.Columns vnewer1 (hnewer1.mono (l1.trans l2)) S hy3) rfl tc27 rfl rfl ?_; clear F a S
   rintro _ a w ⟨g3, l3, S, rfl⟩ F; replace S : St g3 [[bx b5 #[.i6 y2.Code, .i6 y2.Index] 28], [bx b4 #[.i6 y1.Code, .i6 y1.Index] 28], [bx b3 #[.i6 0, .i6 0] 28], [bx b2 #[vnewer1, vnewer2] 25], [bx b1 #[vold_1, vold_2] 25]] fr w := S
   refine wE (ev_not rfl) F S rfl fun a F=>?_
   refine wpList_nil ?_
   refine then_n ?_
   obtain ⟨hc3, hm⟩ | ⟨hc3, hm⟩ := ite_or hm
   ·refine wp_condT F rfl hc3 ?_
    refine wp_seq ?_
    refine wp_region_lit ?_
    refine wE (ev_move rfl) F S rfl fun a F=>?_
    refine wE (ev_build (parts := [(0, .const (.i6 8)), (1, .tmp 30)]) (vs := [(0, .i6 8), (1, .i6 index)]) rfl (fun w => tb28_0_1 8 index w)) F S rfl fun a F=>?_
    refine wl_storeC (wn rfl) rfl F S rfl rfl (vs := [.i6 8, .i6 index]) rfl ts28 (one_cons rfl (one_cons rfl one_nil)) (k := 2) rfl (lb rfl) (c' := #[.i6 8, .i6 index]) rfl rfl ?_; clear S; intro w S
    refine wpList_nil ?_
    refine then_n ?_
    refine wp_ret ?_
    refine then_r ?_
    obtain rfl := sinj hm
    refine post_r _ F rfl (ar_cons (resA rfl tu28 rfl (box_ptr (cells := [.i6 8, .i6 index]) 2 rfl 0 rfl (lb rfl) w S) ts28) ar_nil) ?_
    replace S : St g3 [] fr w := St.tail [] _ S
    exact ⟨_, rfl, g3, ((l1.trans l2).trans l3), S, rfl⟩
   ·refine wp_condF F rfl hc3 ?_
    refine wp_skip ?_
    refine then_n ?_
    refine wp_seq ?_
    refine wp_region_lit ?_
    refine wE (ev_build (parts := []) (vs := []) rfl (fun w => tb28_  w)) F S rfl fun a F=>?_
    refine wl_storeC (wn rfl) rfl F S rfl rfl (vs := [.i6 0, .i6 0]) rfl ts28 (one_cons rfl (one_cons rfl one_nil)) (k := 2) rfl (lb rfl) (c' := #[.i6 0, .i6 0]) rfl rfl ?_; clear S; intro w S
    refine wpList_nil ?_
    refine then_n ?_
    refine wp_ret ?_
    obtain rfl := sinj hm
    refine post_r _ F rfl (ar_cons (resA rfl tu28 rfl (box_ptr (cells := [.i6 0, .i6 0]) 2 rfl 0 rfl (lb rfl) w S) ts28) ar_nil) ?_
    replace S : St g3 [] fr w := St.tail [] _ S
    exact ⟨_, rfl, g3, ((l1.trans l2).trans l3), S, rfl⟩

theorem slices_Clone_ok {g : Gh} {fr : Hl} {w : World} {r : (List ByteArray)} (s_ : (List ByteArray)) (vs_1 : Value) (hs_1 : RepSl g s_ vs_1) (S : St g [] fr w) (hm : slices_Clone s_ = some r) :
  Calls Try.prog 24 [vs_1].toArray w (fun en w' => ∃ v, en = .returned v ∧ ∃ (g' : Gh) (v1 : Value) (c1 : Hl), Le g g' ∧ St g' [c1] fr w' ∧ OwnS g' r v1 c1 ∧ v1 = v) := by
 unfold slices_Clone at hm
 refine calls_enter (fn := Try.f24) Try.func24 rfl Try.ntmps24 (lb rfl) ?_
 intro a F
 replace F : Fr 8 a [(0, vs_1)] := F
 refine wp_seq ?_
 refine wp_region_lit ?_
 refine wE (ev_assign rfl) F S rfl fun a F=>?_
 refine wpList_nil ?_
 refine then_n ?_
 refine wp_seq ?_
 refine wp_seq ?_
 refine wp_region_lit ?_
 refine wE (ev_move rfl) F S rfl fun a F=>?_
 obtain ⟨nb1, hnb1, he1⟩ := ev_nileqlS (P := Try.prog) (n := 8) (e := [(3, vs_1), (2, nilS), (0, vs_1)]) (C := fun w => St g [] fr w) (x := .tmp 3) (y := .const (nilS)) hs_1 tu22 rfl rfl
 refine wE he1 F S rfl fun a F=>?_
 refine wpList_nil ?_
 refine then_n ?_
 obtain ⟨hc1, hm⟩ | ⟨hc1, hm⟩ := nil_or hnb1 hm
 ·refine wp_condT F rfl hc1 ?_
  refine wp_seq ?_
  refine wp_region_lit ?_
  refine wE (ev_assign rfl) F S rfl fun a F=>?_
  refine wpList_nil ?_
  refine then_n ?_
  refine wp_ret ?_
  refine then_r ?_
  obtain rfl := sinj hm
  replace S : St g [[]] fr w := S
  refine post_r _ F rfl (ar_cons (resT rfl) ar_nil) ?_
  exact ⟨_, rfl, g, (nilS), [], (Le.refl _), S, (OwnS.nil _), rfl⟩
 ·refine wp_condF F rfl hc1 ?_
  refine wp_skip ?_
  refine then_n ?_
  refine wp_seq ?_
  refine wp_region_lit ?_
  refine wl_lit (l := ([] : List ByteArray)) (vs := []) (parts := []) (wn rfl) rfl rfl rfl tu22 te9 sz_nil rfl (Cat.nil _) coa_nil rfl F S rfl rfl ?_; clear F a S
  rintro v1 c1 a w h1 F S
  refine wE (ev_move rfl) F S rfl fun a F=>?_
  obtain ⟨cs1, hk1, hr1⟩ := RepSl.reads hs_1
  obtain ⟨y1, hy1, hm⟩ := bind_some hm
  refine wl_append (wn rfl) rfl tu22 tu22 te9 (by decide) (by decide) F S rfl rfl (k := 0) rfl h1 hk1 rfl (hr1 _ _ S) hy1 rfl rfl ?_; clear F a S
  rintro v2 c2 a w h2 S F; replace S : St g [c2] fr w := S
  refine wE (ev_assign rfl) F S rfl fun a F=>?_
  refine wpList_nil ?_
  refine then_n ?_
  refine wp_ret ?_
  obtain rfl := sinj hm
  refine post_r _ F rfl (ar_cons (resT rfl) ar_nil) ?_
  exact ⟨_, rfl, g, v2, c2, (Le.refl _), S, h2, rfl⟩

theorem slices_Clone_x_okx {g : Gh} {fr : Hl} {w : World} {r : (List ByteArray)} (s_ : (List ByteArray)) (vs_1 : Value) (hs_1 : RepSl g s_ vs_1) (hn1 : NilE s_ vs_1) (S : St g [] fr w) (hm : slices_Clone_x s_ = some r) :
  Calls Try.prog 24 [vs_1].toArray w (fun en w' => ∃ v, en = .returned v ∧ ∃ (g' : Gh) (v1 : Value) (c1 : Hl), Le g g' ∧ St g' [c1] fr w' ∧ OwnS g' r v1 c1 ∧ NilE r v1 ∧ v1 = v) := by
 unfold slices_Clone_x at hm
 refine calls_enter (fn := Try.f24) Try.func24 rfl Try.ntmps24 (lb rfl) ?_
 intro a F
 replace F : Fr 8 a [(0, vs_1)] := F
 refine wp_seq ?_
 refine wp_region_lit ?_
 refine wE (ev_assign rfl) F S rfl fun a F=>?_
 refine wpList_nil ?_
 refine then_n ?_
 refine wp_seq ?_
 refine wp_seq ?_
 refine wp_region_lit ?_
 refine wE (ev_move rfl) F S rfl fun a F=>?_
 refine wE (ev_nileqlSx hs_1 hn1 tu22 rfl rfl) F S rfl fun a F=>?_
 refine wpList_nil ?_
 refine then_n ?_
 obtain ⟨hc1, hm⟩ | ⟨hc1, hm⟩ := ite_or hm
 ·refine wp_condT F rfl hc1 ?_
  refine wp_seq ?_
  refine wp_region_lit ?_
  refine wE (ev_assign rfl) F S rfl fun a F=>?_
  refine wpList_nil ?_
  refine then_n ?_
  refine wp_ret ?_
  refine then_r ?_
  obtain rfl := sinj hm
  replace S : St g [[]] fr w := S
  refine post_r _ F rfl (ar_cons (resT rfl) ar_nil) ?_
  exact ⟨_, rfl, g, (nilS), [], (Le.refl _), S, (OwnS.nil _), NilE.nil, rfl⟩
 ·refine wp_condF F rfl hc1 ?_
  refine wp_skip ?_
  refine then_n ?_
  refine wp_seq ?_
  refine wp_region_lit ?_
  refine wl_lit (l := ([] : List ByteArray)) (vs := []) (parts := []) (wn rfl) rfl rfl rfl tu22 te9 sz_nil rfl (Cat.nil _) coa_nil rfl F S rfl rfl ?_; clear F a S
  rintro v1 c1 a w h1 F S
  refine wE (ev_move rfl) F S rfl fun a F=>?_
  obtain ⟨cs1, hk1, hr1⟩ := RepSl.reads hs_1
  obtain ⟨y1, hy1, hm⟩ := bind_some hm
  refine wl_append (wn rfl) rfl tu22 tu22 te9 (by decide) (by decide) F S rfl rfl (k := 0) rfl h1 hk1 rfl (hr1 _ _ S) hy1 rfl rfl ?_; clear F a S
  rintro v2 c2 a w h2 S F; replace S : St g [c2] fr w := S
  refine wE (ev_assign rfl) F S rfl fun a F=>?_
  refine wpList_nil ?_
  refine then_n ?_
  refine wp_ret ?_
  obtain ⟨u1, hn2, hm⟩ := bind_some hm
  obtain rfl := sinj hm
  refine post_r _ F rfl (ar_cons (resT rfl) ar_nil) ?_
  exact ⟨_, rfl, g, v2, c2, (Le.refl _), S, h2, (NilE.of hn2), rfl⟩

theorem slices_Compact_ok {g : Gh} {fr : Hl} {w : World} {r : (List ByteArray)} (s_ : (List ByteArray)) (vs_1 : Value) (cs_1 : Hl) (hs_1 : OwnS g s_ vs_1 cs_1) (S : St g [cs_1] fr w) (hm : slices_Compact s_ = some r) :
  Calls Try.prog 46 [vs_1].toArray w (fun en w' => ∃ v, en = .returned v ∧ ∃ (g' : Gh) (v1 : Value) (c1 : Hl), Le g g' ∧ St g' [c1] fr w' ∧ OwnS g' r v1 c1 ∧ v1 = v) := by
 unfold slices_Compact at hm
 refine calls_enter (fn := Try.f46) Try.func46 rfl Try.ntmps46 (lb rfl) ?_
 intro a F
 replace F : Fr 61 a [(0, vs_1)] := F
 refine wp_seq ?_
 refine wp_region_lit ?_
 refine wE (ev_assign rfl) F S rfl fun a F=>?_
 refine wpList_nil ?_
 refine then_n ?_
 refine wp_seq ?_
 refine wp_seq ?_
 refine wp_region_lit ?_
 refine wE (ev_move rfl) F S rfl fun a F=>?_
 refine wE (ev_lenOw hs_1 rfl tu22) F S rfl fun a F=>?_
 refine wE (ev_int rfl rfl (bo_lss _ _ _ _)) F S rfl fun a F=>?_
 refine wpList_nil ?_
 refine then_n ?_
 obtain ⟨hc1, hm⟩ | ⟨hc1, hm⟩ := ite_or hm
 ·refine wp_condT F rfl hc1 ?_
  refine wp_seq ?_
  refine wp_region_lit ?_
  refine wE (ev_move rfl) F S rfl fun a F=>?_
  refine wE (ev_assign rfl) F S rfl fun a F=>?_
  refine wpList_nil ?_
  refine then_n ?_
  refine wp_ret ?_
  refine then_r ?_
  obtain rfl := sinj hm
  refine post_r _ F rfl (ar_cons (resT rfl) ar_nil) ?_
  exact ⟨_, rfl, g, vs_1, cs_1, (Le.refl _), S, hs_1, rfl⟩
 ·refine wp_condF F rfl hc1 ?_
  refine wp_skip ?_
  refine then_n ?_
  refine wp_cut (fun a w => ∃ (g1 : Gh), Fr 61 a [(0, vs_1)] ∧ Le g g1 ∧ St g1 [cs_1] fr w ∧ slices_Compact.j1 s_ = some r) ?_ ?_
  ·refine wp_seq ?_
   refine wp_region_lit ?_
   refine wE (ev_assign rfl) F S rfl fun a F=>?_
   refine wpList_nil ?_
   refine then_n ?_
   refine wp_block ?_
   obtain ⟨r1, hr1, hm⟩ := bind_some hm
   have hmo1 := hm; clear hm
   refine wp_iter (σ := Int) (ρ := (List ByteArray) ⊕ Unit) (m := fun s => slices_Compact.l1 s_ s) (I := fun x1 a w => ∃ (g2 : Gh), Fr 61 a [(3, .i6 x1), (0, vs_1)] ∧ Le g g2 ∧ St g2 [cs_1] fr w) hr1 ?_ ?_
   ·exact ⟨g, F.sub ⟨rfl, rfl, trivial⟩, (Le.refl _), S⟩
   ·clear F S; rintro x1 a w x2 ⟨g2, F, l2, S⟩ hx1 hfin1
    have hm : slices_Compact.l1 s_ x1 = some x2 := hx1; clear hx1
    unfold slices_Compact.l1 at hm
    refine wp_seq ?_
    refine wp_seq ?_
    refine wp_region_lit ?_
    refine wE (ev_move rfl) F S rfl fun a F=>?_
    refine wE (ev_move rfl) F S rfl fun a F=>?_
    refine wE (ev_lenOw hs_1 rfl tu22) F S rfl fun a F=>?_
    refine wE (ev_int rfl rfl (bo_lss _ _ _ _)) F S rfl fun a F=>?_
    refine wpList_nil ?_
    refine then_n ?_
    obtain ⟨hc2, hm⟩ | ⟨hc2, hm⟩ := ite_or hm
    ·refine wp_condT F rfl hc2 ?_
     refine wp_skip ?_
     refine then_n ?_
     refine wp_cut (fun a w => ∃ (g3 : Gh), Fr 61 a [(3, .i6 x1), (0, vs_1)] ∧ Le g2 g3 ∧ St g3 [cs_1] fr w ∧ slices_Compact.j2 x1 = some x2) ?_ ?_
     ·refine wp_block ?_
      refine wp_seq ?_
      refine wp_quiet mo (by kernel_rfl) S ?_
      refine wq_ev (wn rfl) (ev_move rfl) F rfl rfl ?_; clear F a; intro a F
      refine wq_ev (wn rfl) (ev_move rfl) F rfl rfl ?_; clear F a; intro a F
      obtain ⟨y1, hy1, hm⟩ := bind_some hm
      refine wq_ev (wn rfl) (ev_idxO (hs_1.mono l2) hy1 tu22 ts9 rfl rfl) F rfl rfl ?_; clear F a; intro a F
      obtain ⟨cs1, hr2, hq1⟩ := elemO (hs_1.mono l2) hy1
      obtain rfl := rep_str hr2
      refine wq_ev (wn rfl) (ev_load1 tu9 rfl rfl (hq1 _ _ 0 rfl)) F rfl rfl ?_; clear F a; intro a F
      refine wq_ev (wn rfl) (ev_move rfl) F rfl rfl ?_; clear F a; intro a F
      refine wq_ev (wn rfl) (ev_move rfl) F rfl rfl ?_; clear F a; intro a F
      obtain ⟨z2, hz2, hm⟩ := bind_some hm
      refine wq_ev (wn rfl) (ev_int rfl rfl (bo_sub hz2)) F rfl rfl ?_; clear F a; intro a F
      obtain ⟨y2, hy2, hm⟩ := bind_some hm
      refine wq_ev (wn rfl) (ev_idxO (hs_1.mono l2) hy2 tu22 ts9 rfl rfl) F rfl rfl ?_; clear F a; intro a F
      obtain ⟨cs2, hr3, hq2⟩ := elemO (hs_1.mono l2) hy2
      obtain rfl := rep_str hr3
      refine wq_ev (wn rfl) (ev_load1 tu9 rfl rfl (hq2 _ _ 0 rfl)) F rfl rfl ?_; clear F a; intro a F
      refine wq_ev (wn rfl) (ev_str rfl rfl (bs_eql _ _ _)) F rfl rfl ?_; clear F a; intro a F
      refine wq_nil ?_; clear S; intro w S
      refine then_n ?_
      obtain ⟨hc3, hm⟩ | ⟨hc3, hm⟩ := ite_or hm
      ·refine wp_condT F rfl hc3 ?_
       refine wp_seq ?_
       refine wp_region_lit ?_
       refine wE (ev_move rfl) F S rfl fun a F=>?_
       refine wE (ev_move rfl) F S rfl fun a F=>?_
       obtain ⟨z3, hz3, hm⟩ := bind_some hm
       obtain ⟨v1, hA1, he1⟩ := ev_cutA (P := Try.prog) (n := 61) (e := [(27, .i6 x1), (26, vs_1), (25, .bool (decide (y1 = y2))), (24, .string y2), (23, elemP vs_1 z2 1), (22, .i6 z2), (21, .i6 x1), (20, vs_1), (19, .string y1), (18, elemP vs_1 x1 1), (17, .i6 x1), (16, vs_1), (13, .bool (decide (x1 < (s_.length : Int)))), (12, .i6 (s_.length : Int)), (11, vs_1), (10, .i6 x1), (3, .i6 x1), (0, vs_1)]) (C := fun w => St g2 [cs_1] fr w) (x := .tmp 26) (lo := some (.tmp 27)) (hs_1.mono l2) hz3 tu22 ts9 rfl (bndV rfl)
       refine wE he1 F S rfl fun a F=>?_
       refine wE (ev_assign rfl) F S rfl fun a F=>?_
       refine wpList_nil ?_
       refine then_n ?_
       refine wp_cut (fun a w => ∃ (x3 : Int) (x4 : List ByteArray) (c1 : Hl) (g4 : Gh), Fr 61 a [(3, .i6 x3), (0, vs_1)] ∧ Le g2 g4 ∧ St g4 [c1] fr w ∧ OwnS g4 x4 vs_1 c1 ∧ slices_Compact.j3 x3 x4 = some x2) ?_ ?_
       ·refine wp_seq ?_
        refine wp_region_lit ?_
        refine wE (ev_assign rfl) F S rfl fun a F=>?_
        refine wpList_nil ?_
        refine then_n ?_
        refine wp_block ?_
        obtain ⟨r2, hr4, hm⟩ := bind_some hm
        have hmo2 := hm; clear hm
        refine wp_iter (σ := Int × Int × (List ByteArray)) (ρ := Int × (List ByteArray)) (m := fun s => slices_Compact.l2 x1 z3 s.1 s.2.1 s.2.2) (I := fun s a w => match s with | (x5, x6, x7) => ∃ (c3 : Hl) (g5 : Gh), Fr 61 a [(5, .i6 x5), (4, v1), (3, .i6 x6), (0, vs_1)] ∧ Le g2 g5 ∧ St g5 [c3] fr w ∧ OwnS g5 x7 vs_1 c3) hr4 ?_ ?_
        ·dsimp only
         exact ⟨cs_1, g2, F.sub ⟨rfl, rfl, rfl, rfl, trivial⟩, (Le.refl _), S, (hs_1.mono l2)⟩
        ·clear F S; rintro ⟨x5, x6, x7⟩ a w x8 ⟨c3, g5, F, l5, S, h4⟩ hx2 hfin2
         have hm : slices_Compact.l2 x1 z3 x5 x6 x7 = some x8 := hx2; clear hx2
         unfold slices_Compact.l2 at hm
         refine wp_seq ?_
         refine wp_seq ?_
         refine wp_region_lit ?_
         refine wE (ev_move rfl) F S rfl fun a F=>?_
         refine wE (ev_move rfl) F S rfl fun a F=>?_
         refine wE (ev_lenAl hA1 rfl tu22) F S rfl fun a F=>?_
         refine wE (ev_int rfl rfl (bo_lss _ _ _ _)) F S rfl fun a F=>?_
         refine wpList_nil ?_
         refine then_n ?_
         obtain ⟨hc4, hm⟩ | ⟨hc4, hm⟩ := ite_or hm
         ·refine wp_condT F rfl hc4 ?_
          refine wp_skip ?_
          refine then_n ?_
          refine wp_cut (fun a w => ∃ (x9 : Int) (x10 : List ByteArray) (c4 : Hl) (g6 : Gh), Fr 61 a [(3, .i6 x9), (5, .i6 x5), (4, v1), (0, vs_1)] ∧ Le g5 g6 ∧ St g6 [c4] fr w ∧ OwnS g6 x10 vs_1 c4 ∧ slices_Compact.j4 x5 x9 x10 = some x8) ?_ ?_
          ·refine wp_block ?_
           refine wp_seq ?_
           refine wp_quiet mo (by kernel_rfl) S ?_
           refine wq_ev (wn rfl) (ev_move rfl) F rfl rfl ?_; clear F a; intro a F
           refine wq_ev (wn rfl) (ev_move rfl) F rfl rfl ?_; clear F a; intro a F
           obtain ⟨y5, hy5, hm⟩ := bind_some hm
           refine wq_ev (wn rfl) (ev_idxA hA1 hy5 tu22 ts9 rfl rfl) F rfl rfl ?_; clear F a; intro a F
           obtain ⟨cs3, hr5, hq3⟩ := elemO h4 (atA?_at hy5)
           obtain rfl := rep_str hr5
           refine wq_ev (wn rfl) (ev_load1 tu9 rfl rfl (hq3 _ _ 0 rfl)) F rfl rfl ?_; clear F a; intro a F
           refine wq_ev (wn rfl) (ev_move rfl) F rfl rfl ?_; clear F a; intro a F
           refine wq_ev (wn rfl) (ev_move rfl) F rfl rfl ?_; clear F a; intro a F
           obtain ⟨z6, hz6, hm⟩ := bind_some hm
           refine wq_ev (wn rfl) (ev_int rfl rfl (bo_sub hz6)) F rfl rfl ?_; clear F a; intro a F
           obtain ⟨y6, hy6, hm⟩ := bind_some hm
           refine wq_ev (wn rfl) (ev_idxA hA1 hy6 tu22 ts9 rfl rfl) F rfl rfl ?_; clear F a; intro a F
           obtain ⟨cs4, hr6, hq4⟩ := elemO h4 (atA?_at hy6)
           obtain rfl := rep_str hr6
           refine wq_ev (wn rfl) (ev_load1 tu9 rfl rfl (hq4 _ _ 0 rfl)) F rfl rfl ?_; clear F a; intro a F
           refine wq_ev (wn rfl) (ev_str rfl rfl (bs_neq _ _ _)) F rfl rfl ?_; clear F a; intro a F
           refine wq_nil ?_; clear S; intro w S
           refine then_n ?_
           obtain ⟨hc5, hm⟩ | ⟨hc5, hm⟩ := ite_or hm
           ·refine wp_condT F rfl hc5 ?_
            refine wp_seq ?_
            refine wp_region_lit ?_
            refine wE (ev_move rfl) F S rfl fun a F=>?_
            refine wE (ev_move rfl) F S rfl fun a F=>?_
            refine wE (ev_move rfl) F S rfl fun a F=>?_
            refine wE (ev_move rfl) F S rfl fun a F=>?_
            obtain ⟨y7, hy7, hm⟩ := bind_some hm
            refine wE (ev_idxA hA1 hy7 tu22 ts9 rfl rfl) F S rfl fun a F=>?_
            obtain ⟨cs5, hr7, hq5⟩ := elemO h4 (atA?_at hy7)
            obtain rfl := rep_str hr7
            refine wE (ev_load1 tu9 rfl rfl (hq5 _ _ 0 rfl)) F S rfl fun a F=>?_
            obtain ⟨y8, hy8, hm⟩ := bind_some hm
            refine wE (ev_idxO h4 hy8 tu22 ts9 rfl rfl) F S rfl fun a F=>?_
            obtain ⟨y9, hy9, hm⟩ := bind_some hm
            refine wl_storeW (z' := y7) (wn rfl) rfl F S h4 hy8 rfl rfl (us := [.string y7]) rfl ts9 (one_cons rfl one_nil) (k := 0) rfl rfl (show Rep.rep _ y7 _ from rfl) rfl ?_; clear S
            rintro c5 w h6 S; replace S : St g5 [c5] fr w := S; replace h6 : OwnS g5 y9 vs_1 c5 := sinj hy9 ▸ h6
            replace F := F.sub (e' := [(51, elemP vs_1 x6 1), (50, .string y7), (48, .i6 x5), (47, v1), (46, .i6 x6), (45, vs_1), (44, .bool (!decide (y5 = y6))), (43, .string y6), (41, .i6 z6), (40, .i6 x5), (39, v1), (38, .string y5), (36, .i6 x5), (35, v1), (32, .bool (decide (x5 < z3))), (31, .i6 z3), (30, v1), (29, .i6 x5), (5, .i6 x5), (4, v1), (3, .i6 x6), (0, vs_1)]) ⟨rfl, rfl, rfl, rfl, rfl, rfl, rfl, rfl, rfl, rfl, rfl, rfl, rfl, rfl, rfl, rfl, rfl, rfl, rfl, rfl, rfl, rfl, trivial⟩
            refine wpList_nil ?_
            refine then_n ?_
            refine wp_region_lit ?_
            refine wE (ev_move rfl) F S rfl fun a F=>?_
            obtain ⟨z7, hz7, hm⟩ := bind_some hm
            refine wE (ev_int rfl rfl (bo_add hz7)) F S rfl fun a F=>?_
            refine wE (ev_assign rfl) F S rfl fun a F=>?_
            refine wpList_nil ?_
            refine inb_n ?_
            refine then_n ?_
            exact ⟨z7, y9, c5, g5, F.sub ⟨rfl, rfl, rfl, rfl, trivial⟩, (Le.refl _), S, h6, hm⟩
           ·refine wp_condF F rfl hc5 ?_
            refine wp_skip ?_
            refine inb_n ?_
            refine then_n ?_
            exact ⟨x6, x7, c3, g5, F.sub ⟨rfl, rfl, rfl, rfl, trivial⟩, (Le.refl _), S, h4, hm⟩
          ·clear F S hm; rintro a w ⟨x9, x10, c4, g6, F, l6, S, h5, hm⟩
           refine wp_region_lit ?_
           refine wE (ev_move rfl) F S rfl fun a F=>?_
           obtain ⟨z5, hz5, hm⟩ := bind_some hm
           refine wE (ev_int rfl rfl (bo_add hz5)) F S rfl fun a F=>?_
           refine wE (ev_assign rfl) F S rfl fun a F=>?_
           refine wpList_nil ?_
           refine then_n ?_
           obtain rfl := sinj hm
           refine ⟨_, rfl, ?_⟩
           dsimp only
           exact ⟨c4, g6, F.sub ⟨rfl, rfl, rfl, rfl, trivial⟩, (l5.trans l6), S, h5⟩
         ·refine wp_condF F rfl hc4 ?_
          refine wp_exit ?_
          refine then_e ?_
          refine then_e ?_
          refine inb_x ?_
          refine then_n ?_
          obtain rfl := sinj hm
          obtain rfl := hfin2 _ rfl
          clear hm
          have hm : (slices_Compact.j3 x6 x7 : Option (Step Int ((List ByteArray) ⊕ Unit))) = some _ := hmo2
          exact ⟨x6, x7, c3, g5, F.sub ⟨rfl, rfl, trivial⟩, l5, S, h4, hm⟩
       ·clear F S hm; rintro a w ⟨x3, x4, c1, g4, F, l4, S, h1, hm⟩
        refine wp_seq ?_
        refine wp_region_lit ?_
        refine wE (ev_move rfl) F S rfl fun a F=>?_
        refine wE (ev_move rfl) F S rfl fun a F=>?_
        obtain ⟨z4, hz4, hm⟩ := bind_some hm
        obtain ⟨v3, hA2, he2⟩ := ev_cutA (P := Try.prog) (n := 61) (e := [(55, .i6 x3), (54, vs_1), (3, .i6 x3), (0, vs_1)]) (C := fun w => St g4 [c1] fr w) (x := .tmp 54) (lo := some (.tmp 55)) h1 hz4 tu22 ts9 rfl (bndV rfl)
        refine wE he2 F S rfl fun a F=>?_
        obtain ⟨y3, hy3, hm⟩ := bind_some hm
        refine wl_clearA (wn rfl) rfl tu22 te9 (fun g => (show Rep.rep g ByteArray.empty _ from rfl)) F S rfl (j := 0) rfl h1 hA2 hy3 rfl ?_; clear S
        rintro c2 w h2 S; replace S : St g4 [c2] fr w := S
        refine wpList_nil ?_
        refine then_n ?_
        refine wp_seq ?_
        refine wp_region_lit ?_
        refine wE (ev_move rfl) F S rfl fun a F=>?_
        refine wE (ev_move rfl) F S rfl fun a F=>?_
        obtain ⟨y4, hy4, hm⟩ := bind_some hm
        refine wl_cutO (wn rfl) rfl h2 hy4 tu22 ts9 rfl (bnd0 _) (bndV rfl) F rfl rfl ?_; clear F a; rintro v4 h3 a F
        refine wE (ev_assign rfl) F S rfl fun a F=>?_
        refine wpList_nil ?_
        refine then_n ?_
        refine wp_ret ?_
        refine inb_r ?_
        refine then_r ?_
        refine then_r ?_
        refine inb_r ?_
        refine then_r ?_
        obtain rfl := sinj hm
        obtain rfl := hfin1 _ rfl
        clear hm
        have hm : (some y4 : Option (List ByteArray)) = some _ := hmo1
        obtain rfl := sinj hm
        refine post_r _ F rfl (ar_cons (resT rfl) ar_nil) ?_
        exact ⟨_, rfl, g4, v4, c2, (l2.trans l4), S, h3, rfl⟩
      ·refine wp_condF F rfl hc3 ?_
       refine wp_skip ?_
       refine inb_n ?_
       refine then_n ?_
       exact ⟨g2, F.sub ⟨rfl, rfl, trivial⟩, (Le.refl _), S, hm⟩
     ·clear F S hm; rintro a w ⟨g3, F, l3, S, hm⟩
      refine wp_region_lit ?_
      refine wE (ev_move rfl) F S rfl fun a F=>?_
      obtain ⟨z1, hz1, hm⟩ := bind_some hm
      refine wE (ev_int rfl rfl (bo_add hz1)) F S rfl fun a F=>?_
      refine wE (ev_assign rfl) F S rfl fun a F=>?_
      refine wpList_nil ?_
      refine then_n ?_
      obtain rfl := sinj hm
      refine ⟨_, rfl, ?_⟩
      exact ⟨g3, F.sub ⟨rfl, rfl, trivial⟩, (l2.trans l3), S⟩
    ·refine wp_condF F rfl hc2 ?_
     refine wp_exit ?_
     refine then_e ?_
     refine then_e ?_
     refine inb_x ?_
     refine then_n ?_
     obtain rfl := sinj hm
     obtain rfl := hfin1 _ rfl
     clear hm
     have hm : (slices_Compact.j1 s_ : Option (List ByteArray)) = some _ := hmo1
     exact ⟨g2, F.sub ⟨rfl, trivial⟩, l2, S, hm⟩
  ·clear F S hm; rintro a w ⟨g1, F, l1, S, hm⟩
   refine wp_seq ?_
   refine wp_region_lit ?_
   refine wE (ev_move rfl) F S rfl fun a F=>?_
   refine wE (ev_assign rfl) F S rfl fun a F=>?_
   refine wpList_nil ?_
   refine then_n ?_
   refine wp_ret ?_
   obtain rfl := sinj hm
   refine post_r _ F rfl (ar_cons (resT rfl) ar_nil) ?_
   exact ⟨_, rfl, g1, vs_1, cs_1, l1, S, (hs_1.mono l1), rfl⟩

theorem tablepatch_keys_ok {g : Gh} {fr : Hl} {w : World} {r : (List ByteArray)} (tables : (List Table)) (vtables1 : Value) (htables1 : RepSl g tables vtables1) (S : St g [] fr w) (hm : tablepatch_keys tables = some r) :
  Calls Try.prog 25 [vtables1].toArray w (fun en w' => ∃ v, en = .returned v ∧ ∃ (g' : Gh) (v1 : Value) (c1 : Hl), Le g g' ∧ St g' [c1] fr w' ∧ OwnS g' r v1 c1 ∧ v1 = v) := by
 unfold tablepatch_keys at hm
 refine calls_enter (fn := Try.f25) Try.func25 rfl Try.ntmps25 (lb rfl) ?_
 intro a F
 replace F : Fr 32 a [(0, vtables1)] := F
 refine wp_seq ?_
 refine wp_region_lit ?_
 refine wE (ev_assign rfl) F S rfl fun a F=>?_
 refine wpList_nil ?_
 refine then_n ?_
 refine wp_seq ?_
 refine wp_region_lit ?_
 refine wE (ev_assign rfl) F S rfl fun a F=>?_
 refine wpList_nil ?_
 refine then_n ?_
 refine wp_cut (fun a w => ∃ (x1 : List ByteArray) (v1 : Value) (c1 : Hl) (g1 : Gh), Fr 32 a [(3, v1)] ∧ Le g g1 ∧ St g1 [c1] fr w ∧ OwnS g1 x1 v1 c1 ∧ tablepatch_keys.j1 x1 = some r) ?_ ?_
 ·refine wp_seq ?_
  refine wp_region_lit ?_
  refine wE (ev_move rfl) F S rfl fun a F=>?_
  refine wE (ev_lenSh htables1 rfl tu69) F S rfl fun a F=>?_
  refine wE (ev_move rfl) F S rfl fun a F=>?_
  refine wpList_nil ?_
  refine then_n ?_
  refine wp_block ?_
  obtain ⟨r1, hr1, hm⟩ := bind_some hm
  have hmo1 := hm; clear hm
  refine wp_iter (σ := Int × (List ByteArray)) (ρ := (List ByteArray)) (m := fun s => tablepatch_keys.l1 tables s.1 s.2) (I := fun s a w => match s with | (x2, x3) => ∃ (v3 : Value) (c4 : Hl) (g3 : Gh), Fr 32 a [(10, .i6 x2), (9, .i6 (tables.length : Int)), (8, vtables1), (3, v3)] ∧ Le g g3 ∧ St g3 [c4] fr w ∧ OwnS g3 x3 v3 c4) hr1 ?_ ?_
  ·dsimp only
   replace S : St g [[]] fr w := S
   exact ⟨(nilS), [], g, F.sub ⟨rfl, rfl, rfl, rfl, trivial⟩, (Le.refl _), S, (OwnS.nil _)⟩
  ·clear F S; rintro ⟨x2, x3⟩ a w x4 ⟨v3, c4, g3, F, l3, S, h4⟩ hx1 hfin1
   have hm : tablepatch_keys.l1 tables x2 x3 = some x4 := hx1; clear hx1
   unfold tablepatch_keys.l1 at hm
   refine wp_seq ?_
   refine wp_region_lit ?_
   refine wE (ev_int rfl rfl (bo_lss _ _ _ _)) F S rfl fun a F=>?_
   refine wpList_nil ?_
   refine then_n ?_
   refine wp_seq ?_
   obtain ⟨hc1, hm⟩ | ⟨hc1, hm⟩ := ite_or hm
   ·refine wp_condT F rfl hc1 ?_
    refine wp_skip ?_
    refine then_n ?_
    refine wp_cut (fun a w => ∃ (x5 : List ByteArray) (v4 : Value) (c5 : Hl) (g4 : Gh), Fr 32 a [(10, .i6 x2), (9, .i6 (tables.length : Int)), (8, vtables1), (3, v4)] ∧ Le g3 g4 ∧ St g4 [c5] fr w ∧ OwnS g4 x5 v4 c5 ∧ tablepatch_keys.j2 x2 x5 = some x4) ?_ ?_
    ·refine wp_block ?_
     refine wp_seq ?_
     refine wp_region_lit ?_
     obtain ⟨y3, hy3, hm⟩ := bind_some hm
     obtain ⟨cs1, hr2, hp1⟩ := elemS (htables1.mono l3) hy3
     obtain ⟨v5, v6, rfl, h6, h7⟩ := rep_Table hr2
     refine wE (ev_idxS (htables1.mono l3) hy3 tu69 ts25 rfl rfl) F S rfl fun a F=>?_
     refine wE (ev_loadA tu25 rfl (cs := [v5, v6]) ts25 rfl (ptr_mono (cks := [c4]) (fr := fr) hp1 (Le.refl _))) F S rfl fun a F=>?_
     refine wl_alloc (wn rfl) rfl tz25 (cs := [nilS, nilS]) rfl F S rfl rfl ?_; clear F a S; rintro b1 a w F S
     refine wl_storeC (wn rfl) rfl F S rfl rfl (vs := [v5, v6]) rfl ts25 (one_cons h6.one (one_cons h7.one one_nil)) (k := 0) rfl (lb rfl) (c' := #[v5, v6]) rfl rfl ?_; clear S; intro w S
     refine wpList_nil ?_
     refine then_n ?_
     refine wp_seq ?_
     refine wp_region_lit ?_
     refine wE (ev_fieldAddr' tu25 tf25_1 (z := 0) ts23 rfl ⟨_, rfl⟩ rfl) F S rfl fun a F=>?_
     refine wE (ev_load1 tu23 rfl rfl (box_ptr (cells := [v6]) 0 rfl 1 rfl (lb rfl))) F S rfl fun a F=>?_
     refine wE (ev_lenSh h7 rfl tu23) F S rfl fun a F=>?_
     refine wE (ev_move rfl) F S rfl fun a F=>?_
     refine wpList_nil ?_
     refine then_n ?_
     refine wp_cut1 (fun a w => ∃ (x6 : List ByteArray) (v7 : Value) (c6 : Hl) (g5 : Gh), Fr 32 a [(10, .i6 x2), (9, .i6 (tables.length : Int)), (8, vtables1), (3, v7)] ∧ Le g3 g5 ∧ St g5 [c6] fr w ∧ OwnS g5 x6 v7 c6 ∧ tablepatch_keys.j3 x2 x6 = some x4) ?_ ?_
     ·refine wp_block ?_
      obtain ⟨r2, hr3, hm⟩ := bind_some hm
      have hmo2 := hm; clear hm
      refine wp_iter (σ := Int × (List ByteArray)) (ρ := (List ByteArray)) (m := fun s => tablepatch_keys.l2 y3 s.1 s.2) (I := fun s a w => match s with | (x7, x8) => ∃ (v8 : Value) (c7 : Hl) (g6 : Gh), Fr 32 a [(17, .i6 x7), (16, .i6 (y3.Rows.length : Int)), (15, v6), (10, .i6 x2), (9, .i6 (tables.length : Int)), (8, vtables1), (3, v8)] ∧ Le g3 g6 ∧ St g6 [c7] fr w ∧ OwnS g6 x8 v8 c7) hr3 ?_ ?_
      ·dsimp only
       replace S : St g3 [c4] fr w := St.tail [c4] _ (S.frontC 1 rfl)
       exact ⟨v3, c4, g3, F.sub ⟨rfl, rfl, rfl, rfl, rfl, rfl, rfl, trivial⟩, (Le.refl _), S, h4⟩
      ·clear F S; rintro ⟨x7, x8⟩ a w x9 ⟨v8, c7, g6, F, l6, S, h9⟩ hx2 hfin2
       have hm : tablepatch_keys.l2 y3 x7 x8 = some x9 := hx2; clear hx2
       unfold tablepatch_keys.l2 at hm
       refine wp_seq ?_
       refine wp_region_lit ?_
       refine wE (ev_int rfl rfl (bo_lss _ _ _ _)) F S rfl fun a F=>?_
       refine wpList_nil ?_
       refine then_n ?_
       refine wp_seq ?_
       obtain ⟨hc2, hm⟩ | ⟨hc2, hm⟩ := ite_or hm
       ·refine wp_condT F rfl hc2 ?_
        refine wp_skip ?_
        refine then_n ?_
        refine wp_seq ?_
        refine wp_block ?_
        refine wp_seq ?_
        refine wp_region_lit ?_
        obtain ⟨y4, hy4, hm⟩ := bind_some hm
        obtain ⟨cs2, hr4, hp2⟩ := elemS (h7.mono l6) hy4
        obtain ⟨v9, rfl, h10⟩ := rep_Row hr4
        refine wE (ev_idxS (h7.mono l6) hy4 tu23 ts54 rfl rfl) F S rfl fun a F=>?_
        refine wE (ev_loadA tu54 rfl (cs := [.string y4.Key, v9]) ts54 rfl (ptr_mono (cks := [c7]) (fr := fr) hp2 (Le.refl _))) F S rfl fun a F=>?_
        refine wl_alloc (wn rfl) rfl tz54 (cs := [.string ByteArray.empty, nilS]) rfl F S rfl rfl ?_; clear F a S; rintro b2 a w F S
        refine wl_storeC (wn rfl) rfl F S rfl rfl (vs := [.string y4.Key, v9]) rfl ts54 (one_cons rfl (one_cons h10.one one_nil)) (k := 0) rfl (lb rfl) (c' := #[.string y4.Key, v9]) rfl rfl ?_; clear S; intro w S
        refine wpList_nil ?_
        refine then_n ?_
        refine wp_region_lit ?_
        refine wE (ev_move rfl) F S rfl fun a F=>?_
        refine wE (ev_fieldAddr' tu54 tf54_0 (z := 0) ts9 rfl ⟨_, rfl⟩ rfl) F S rfl fun a F=>?_
        refine wE (ev_load1 tu9 rfl rfl (box_ptr (cells := [.string y4.Key]) 0 rfl 0 rfl (lb rfl))) F S rfl fun a F=>?_
        refine wl_lit (l := ([y4.Key] : List ByteArray)) (vs := [.string y4.Key]) (parts := [(0, .tmp 23)]) (wn rfl) rfl rfl rfl tu22 te9 (sz_cons rfl sz_nil) rfl (Cat.cons (show Rep.rep _ y4.Key _ from rfl) (Cat.nil _)) (coa_cons rfl coa_nil) rfl F S rfl rfl ?_; clear F a S
        rintro v10 c8 a w h11 F S
        obtain ⟨cs3, hk1, hr5⟩ := OwnS.reads h11
        obtain ⟨y5, hy5, hm⟩ := bind_some hm
        refine wl_append (wn rfl) rfl tu22 tu22 te9 (by decide) (by decide) F S rfl rfl (k := 2) rfl h9 hk1 rfl (hr5 _ _ _ 0 rfl S) hy5 rfl rfl ?_; clear F a S
        rintro v11 c9 a w h12 S F; replace S : St g6 [c8, [bx b2 #[.string y4.Key, v9] 54], c9] fr w := S
        refine wE (ev_assign rfl) F S rfl fun a F=>?_
        refine wpList_nil ?_
        refine inb_n ?_
        refine then_n ?_
        refine wp_region_lit ?_
        obtain ⟨z2, hz2, hm⟩ := bind_some hm
        refine wE (ev_int rfl rfl (bo_add hz2)) F S rfl fun a F=>?_
        refine wE (ev_move rfl) F S rfl fun a F=>?_
        refine wpList_nil ?_
        refine then_n ?_
        obtain rfl := sinj hm
        refine ⟨_, rfl, ?_⟩
        dsimp only
        replace S : St g6 [c9] fr w := St.tail [c9] _ (S.frontC 2 rfl)
        exact ⟨v11, c9, g6, F.sub ⟨rfl, rfl, rfl, rfl, rfl, rfl, rfl, trivial⟩, l6, S, h12⟩
       ·refine wp_condF F rfl hc2 ?_
        refine wp_exit ?_
        refine then_e ?_
        refine then_e ?_
        refine inb_x ?_
        refine then_n ?_
        obtain rfl := sinj hm
        obtain rfl := hfin2 _ rfl
        clear hm
        have hm : (tablepatch_keys.j3 x2 x8 : Option (Step (Int × (List ByteArray)) (List ByteArray))) = some _ := hmo2
        exact ⟨x8, v8, c7, g6, F.sub ⟨rfl, rfl, rfl, rfl, trivial⟩, l6, S, h9, hm⟩
     ·clear F S hm; rintro a w ⟨x6, v7, c6, g5, F, l5, S, h8, hm⟩
      refine inb_n ?_
      refine then_n ?_
      exact ⟨x6, v7, c6, g5, F.sub ⟨rfl, rfl, rfl, rfl, trivial⟩, l5, S, h8, hm⟩
    ·clear F S hm; rintro a w ⟨x5, v4, c5, g4, F, l4, S, h5, hm⟩
     refine wp_region_lit ?_
     obtain ⟨z1, hz1, hm⟩ := bind_some hm
     refine wE (ev_int rfl rfl (bo_add hz1)) F S rfl fun a F=>?_
     refine wE (ev_move rfl) F S rfl fun a F=>?_
     refine wpList_nil ?_
     refine then_n ?_
     obtain rfl := sinj hm
     refine ⟨_, rfl, ?_⟩
     dsimp only
     exact ⟨v4, c5, g4, F.sub ⟨rfl, rfl, rfl, rfl, trivial⟩, (l3.trans l4), S, h5⟩
   ·refine wp_condF F rfl hc1 ?_
    refine wp_exit ?_
    refine then_e ?_
    refine then_e ?_
    refine inb_x ?_
    refine then_n ?_
    obtain rfl := sinj hm
    obtain rfl := hfin1 _ rfl
    clear hm
    have hm : (tablepatch_keys.j1 x3 : Option (List ByteArray)) = some _ := hmo1
    exact ⟨x3, v3, c4, g3, F.sub ⟨rfl, trivial⟩, l3, S, h4, hm⟩
 ·clear F S hm; rintro a w ⟨x1, v1, c1, g1, F, l1, S, h1, hm⟩
  refine wp_seq ?_
  refine wp_region_lit ?_
  refine wE (ev_move rfl) F S rfl fun a F=>?_
  obtain ⟨y1, hy1, hm⟩ := bind_some hm
  refine wl_call0 (wn rfl) rfl F rfl (sortS_ok Try.lay45 S h1 hy1) rfl tc45 rfl rfl ?_; clear F a S
  rintro _ a w ⟨c2, S, h2, rfl⟩ F; replace S : St g1 [c2] fr w := S
  refine wpList_nil ?_
  refine then_n ?_
  refine wp_seq ?_
  refine wp_region_lit ?_
  refine wE (ev_move rfl) F S rfl fun a F=>?_
  obtain ⟨y2, hy2, hm⟩ := bind_some hm
  refine wl_call0 (wn rfl) rfl F rfl (slices_Compact_ok y1 v1 c2 h2 S hy2) rfl tc46 rfl rfl ?_; clear F a S
  rintro _ a w ⟨g2, v2, c3, l2, S, h3, rfl⟩ F; replace S : St g2 [c3] fr w := S
  refine wE (ev_assign rfl) F S rfl fun a F=>?_
  refine wpList_nil ?_
  refine then_n ?_
  refine wp_ret ?_
  obtain rfl := sinj hm
  refine post_r _ F rfl (ar_cons (resT rfl) ar_nil) ?_
  exact ⟨_, rfl, g2, v2, c3, (l1.trans l2), S, h3, rfl⟩

theorem bytealg_CompareString_ok {g : Gh} {fr : Hl} {w : World} {r : Int} (a_ : ByteArray) (b_ : ByteArray) (S : St g [] fr w) (hm : bytealg_CompareString a_ b_ = some r) :
  Calls Try.prog 78 [.string a_, .string b_].toArray w (fun en w' => ∃ v, en = .returned v ∧ ∃ (g' : Gh), Le g g' ∧ St g' [] fr w' ∧ .i6 r = v) := by
 unfold bytealg_CompareString at hm
 refine calls_enter (fn := Try.f78) Try.func78 rfl Try.ntmps78 (lb rfl) ?_
 intro a F
 replace F : Fr 8 a [(0, .string a_), (1, .string b_)] := F
 refine wp_seq ?_
 refine wp_region_lit ?_
 refine wE (ev_assign rfl) F S rfl fun a F=>?_
 refine wpList_nil ?_
 refine then_n ?_
 refine wp_seq ?_
 refine wp_region_lit ?_
 refine wE (ev_move rfl) F S rfl fun a F=>?_
 refine wE (ev_move rfl) F S rfl fun a F=>?_
 refine wE (ev_callx (xs := [.tmp 5, .tmp 6]) (vs := [.string a_, .string b_]) rfl rfl (fun w => tx87 a_ b_ w)) F S rfl fun a F=>?_
 refine wE (ev_assign rfl) F S rfl fun a F=>?_
 refine wpList_nil ?_
 refine then_n ?_
 refine wp_ret ?_
 obtain rfl := sinj hm
 refine post_r _ F rfl (ar_cons (resT rfl) ar_nil) ?_
 exact ⟨_, rfl, g, (Le.refl _), S, rfl⟩

theorem strings_Compare_ok {g : Gh} {fr : Hl} {w : World} {r : Int} (a_ : ByteArray) (b_ : ByteArray) (S : St g [] fr w) (hm : strings_Compare a_ b_ = some r) :
  Calls Try.prog 61 [.string a_, .string b_].toArray w (fun en w' => ∃ v, en = .returned v ∧ ∃ (g' : Gh), Le g g' ∧ St g' [] fr w' ∧ .i6 r = v) := by
 unfold strings_Compare at hm
 refine calls_enter (fn := Try.f61) Try.func61 rfl Try.ntmps61 (lb rfl) ?_
 intro a F
 replace F : Fr 8 a [(0, .string a_), (1, .string b_)] := F
 refine wp_seq ?_
 refine wp_region_lit ?_
 refine wE (ev_assign rfl) F S rfl fun a F=>?_
 refine wpList_nil ?_
 refine then_n ?_
 refine wp_seq ?_
 refine wp_region_lit ?_
 refine wE (ev_move rfl) F S rfl fun a F=>?_
 refine wE (ev_move rfl) F S rfl fun a F=>?_
 obtain ⟨y1, hy1, hm⟩ := bind_some hm
 refine wl_call0 (wn rfl) rfl F rfl (bytealg_CompareString_ok a_ b_ S hy1) rfl tc78 rfl rfl ?_; clear F a S
 rintro _ a w ⟨g1, l1, S, rfl⟩ F; replace S : St g1 [] fr w := S
 refine wE (ev_assign rfl) F S rfl fun a F=>?_
 refine wpList_nil ?_
 refine then_n ?_
 refine wp_ret ?_
 obtain rfl := sinj hm
 refine post_r _ F rfl (ar_cons (resT rfl) ar_nil) ?_
 exact ⟨_, rfl, g1, l1, S, rfl⟩

theorem tablepatch_find_s1_ok {g : Gh} {fr : Hl} {w : World} {r : Int} (r_ : Row) (vr_1 : Value) (hr_1 : RepSl g r_.Cells vr_1) (key : ByteArray) (S : St g [] fr w) (hm : tablepatch_find_s1 r_ key = some r) :
  Calls Try.prog 60 [.agg #[.string r_.Key, vr_1], .string key].toArray w (fun en w' => ∃ v, en = .returned v ∧ ∃ (g' : Gh), Le g g' ∧ St g' [] fr w' ∧ .i6 r = v) := by
 unfold tablepatch_find_s1 at hm
 refine calls_enter (fn := Try.f60) Try.func60 rfl Try.ntmps60 (lb rfl) ?_
 intro a F
 replace F : Fr 9 a [(0, .agg #[.string r_.Key, vr_1]), (1, .string key)] := F
 refine wp_seq ?_
 refine wp_region_lit ?_
 refine wl_boxC (wn rfl) rfl rfl rfl F S rfl rfl ?_; clear F a S; rintro b1 a w F S
 refine wE (ev_assign rfl) F S rfl fun a F=>?_
 refine wpList_nil ?_
 refine then_n ?_
 refine wp_seq ?_
 refine wp_region_lit ?_
 refine wE (ev_fieldAddr' tu54 tf54_0 (z := 0) ts9 rfl ⟨_, rfl⟩ rfl) F S rfl fun a F=>?_
 refine wE (ev_load1 tu9 rfl rfl (box_ptr (cells := [.string r_.Key]) 0 rfl 0 rfl (lb rfl))) F S rfl fun a F=>?_
 refine wE (ev_move rfl) F S rfl fun a F=>?_
 obtain ⟨y1, hy1, hm⟩ := bind_some hm
 refine wl_call0 (wn rfl) rfl F rfl (strings_Compare_ok (fr := (fl [[bx b1 #[.string r_.Key, vr_1] 54]] fr)) r_.Key key S hy1) rfl tc61 rfl rfl ?_; clear F a S
 rintro _ a w ⟨g1, l1, S, rfl⟩ F; replace S : St g1 [[bx b1 #[.string r_.Key, vr_1] 54]] fr w := S
 refine wE (ev_assign rfl) F S rfl fun a F=>?_
 refine wpList_nil ?_
 refine then_n ?_
 refine wp_ret ?_
 obtain rfl := sinj hm
 refine post_r _ F rfl (ar_cons (resT rfl) ar_nil) ?_
 replace S : St g1 [] fr w := St.tail [] _ S
 exact ⟨_, rfl, g1, l1, S, rfl⟩
end Go.Dc
