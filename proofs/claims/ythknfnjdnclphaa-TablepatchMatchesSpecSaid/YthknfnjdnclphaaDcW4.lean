/- Walks: each function comes to what its model says. -/
import Derived.Test.YthknfnjdnclphaaDcTab
import Derived.Test.YthknfnjdnclphaaDcM
namespace Go.Dc
open Go Go.Proofs
set_option maxRecDepth 100000
set_option maxHeartbeats 4000000
set_option linter.unusedVariables false
theorem changeforgeref1_At_ok {g : Gh} {fr : Hl} {w : World} {r : Fault} (code : Int) (index : Int) (S : St g [] fr w) (hm : changeforgeref1_At code index = some r) :
  Calls Try.prog 34 [.i6 code, .i6 index].toArray w (fun en w' => ∃ v, en = .returned v ∧ ∃ (g' : Gh), Le g g' ∧ St g' [] fr w' ∧ .agg #[.i6 r.Code, .i6 r.Index] = v) := by
 unfold changeforgeref1_At at hm
 refine calls_enter (fn := Try.f34) Try.func34 rfl Try.ntmps34 (lb rfl) ?_
 intro a F
 replace F : Fr 8 a [(0, .i6 code), (1, .i6 index)] := F
 refine wp_seq ?_
 refine wp_region_lit ?_
 refine wl_alloc (wn rfl) rfl tz28 (cs := [.i6 0, .i6 0]) rfl F S rfl rfl ?_; clear F a S; rintro b1 a w F S
 refine wpList_nil ?_
 refine then_n ?_
 refine wp_seq ?_
 refine wp_region_lit ?_
 refine wE (ev_move rfl) F S rfl fun a F=>?_
 refine wE (ev_move rfl) F S rfl fun a F=>?_
 refine wE (ev_build (parts := [(0, .tmp 5), (1, .tmp 6)]) (vs := [(0, .i6 code), (1, .i6 index)]) rfl (fun w => tb28_0_1 code index w)) F S rfl fun a F=>?_
 refine wl_storeC (wn rfl) rfl F S rfl rfl (vs := [.i6 code, .i6 index]) rfl ts28 (one_cons rfl (one_cons rfl one_nil)) (k := 0) rfl (lb rfl) (c' := #[.i6 code, .i6 index]) rfl rfl ?_; clear S; intro w S
 refine wpList_nil ?_
 refine then_n ?_
 refine wp_ret ?_
 obtain rfl := sinj hm
 refine post_r _ F rfl (ar_cons (resA rfl tu28 rfl (box_ptr (cells := [.i6 code, .i6 index]) 0 rfl 0 rfl (lb rfl) w S) ts28) ar_nil) ?_
 replace S : St g [] fr w := St.tail [] _ S
 exact ⟨_, rfl, g, (Le.refl _), S, rfl⟩

theorem changeforgeref1_LinesFault_ok {g : Gh} {fr : Hl} {w : World} {r : Fault} (l_ : (List ByteArray)) (vl_1 : Value) (hl_1 : RepSl g l_ vl_1) (S : St g [] fr w) (hm : changeforgeref1_LinesFault l_ = some r) :
  Calls Try.prog 56 [vl_1].toArray w (fun en w' => ∃ v, en = .returned v ∧ ∃ (g' : Gh), Le g g' ∧ St g' [] fr w' ∧ .agg #[.i6 r.Code, .i6 r.Index] = v) := by
 unfold changeforgeref1_LinesFault at hm
 refine calls_enter (fn := Try.f56) Try.func56 rfl Try.ntmps56 (lb rfl) ?_
 intro a F
 replace F : Fr 42 a [(0, vl_1)] := F
 refine wp_seq ?_
 refine wp_region_lit ?_
 refine wl_alloc (wn rfl) rfl tz28 (cs := [.i6 0, .i6 0]) rfl F S rfl rfl ?_; clear F a S; rintro b1 a w F S
 refine wpList_nil ?_
 refine then_n ?_
 refine wp_seq ?_
 refine wp_seq ?_
 refine wp_region_lit ?_
 refine wE (ev_move rfl) F S rfl fun a F=>?_
 refine wE (ev_lenSh hl_1 rfl tu22) F S rfl fun a F=>?_
 refine wE (ev_int rfl rfl (bo_gtr _ _ _ _)) F S rfl fun a F=>?_
 refine wpList_nil ?_
 refine then_n ?_
 obtain ⟨hc1, hm⟩ | ⟨hc1, hm⟩ := ite_or hm
 ·refine wp_condT F rfl hc1 ?_
  refine wp_seq ?_
  refine wp_region_lit ?_
  obtain ⟨y1, hy1, hm⟩ := bind_some hm
  refine wl_call0 (wn rfl) rfl F rfl (changeforgeref1_At_ok (fr := (fl [[bx b1 #[.i6 0, .i6 0] 28]] fr)) 2 (-1) S hy1) rfl tc34 rfl rfl ?_; clear F a S
  rintro _ a w ⟨g1, l1, S, rfl⟩ F; replace S : St g1 [[bx b1 #[.i6 0, .i6 0] 28]] fr w := S
  refine wl_storeC (wn rfl) rfl F S rfl rfl (vs := [.i6 y1.Code, .i6 y1.Index]) rfl ts28 (one_cons rfl (one_cons rfl one_nil)) (k := 0) rfl (lb rfl) (c' := #[.i6 y1.Code, .i6 y1.Index]) rfl rfl ?_; clear S; intro w S
  refine wpList_nil ?_
  refine then_n ?_
  refine wp_ret ?_
  refine then_r ?_
  obtain rfl := sinj hm
  refine post_r _ F rfl (ar_cons (resA rfl tu28 rfl (box_ptr (cells := [.i6 y1.Code, .i6 y1.Index]) 0 rfl 0 rfl (lb rfl) w S) ts28) ar_nil) ?_
  replace S : St g1 [] fr w := St.tail [] _ S
  exact ⟨_, rfl, g1, l1, S, rfl⟩
 ·refine wp_condF F rfl hc1 ?_
  refine wp_skip ?_
  refine then_n ?_
  refine wp_cut (fun a w => ∃ (g2 : Gh), Fr 42 a [(2, bp b1 0)] ∧ Le g g2 ∧ St g2 [[bx b1 #[.i6 0, .i6 0] 28]] fr w ∧ changeforgeref1_LinesFault.j1 = some r) ?_ ?_
  ·refine wp_seq ?_
   refine wp_region_lit ?_
   refine wE (ev_assign rfl) F S rfl fun a F=>?_
   refine wpList_nil ?_
   refine then_n ?_
   refine wp_block ?_
   obtain ⟨r1, hr1, hm⟩ := bind_some hm
   have hmo1 := hm; clear hm
   refine wp_iter (σ := Int) (ρ := Fault ⊕ Unit) (m := fun s => changeforgeref1_LinesFault.l1 l_ s) (I := fun x1 a w => ∃ (g3 : Gh), Fr 42 a [(3, .i6 x1), (2, bp b1 0), (0, vl_1)] ∧ Le g g3 ∧ St g3 [[bx b1 #[.i6 0, .i6 0] 28]] fr w) hr1 ?_ ?_
   ·exact ⟨g, F.sub ⟨rfl, rfl, rfl, trivial⟩, (Le.refl _), S⟩
   ·clear F S; rintro x1 a w x2 ⟨g3, F, l3, S⟩ hx1 hfin1
    have hm : changeforgeref1_LinesFault.l1 l_ x1 = some x2 := hx1; clear hx1
    unfold changeforgeref1_LinesFault.l1 at hm
    refine wp_seq ?_
    refine wp_seq ?_
    refine wp_region_lit ?_
    refine wE (ev_move rfl) F S rfl fun a F=>?_
    refine wE (ev_move rfl) F S rfl fun a F=>?_
    refine wE (ev_lenSh hl_1 rfl tu22) F S rfl fun a F=>?_
    refine wE (ev_int rfl rfl (bo_lss _ _ _ _)) F S rfl fun a F=>?_
    refine wpList_nil ?_
    refine then_n ?_
    obtain ⟨hc2, hm⟩ | ⟨hc2, hm⟩ := ite_or hm
    ·refine wp_condT F rfl hc2 ?_
     refine wp_skip ?_
     refine then_n ?_
     refine wp_cut (fun a w => ∃ (g4 : Gh), Fr 42 a [(3, .i6 x1), (2, bp b1 0), (0, vl_1)] ∧ Le g3 g4 ∧ St g4 [[bx b1 #[.i6 0, .i6 0] 28]] fr w ∧ changeforgeref1_LinesFault.j2 x1 = some x2) ?_ ?_
     ·refine wp_block ?_
      refine wp_seq ?_
      refine wp_seq ?_
      refine wp_region_lit ?_
      refine wE (ev_move rfl) F S rfl fun a F=>?_
      refine wE (ev_move rfl) F S rfl fun a F=>?_
      obtain ⟨y2, hy2, hm⟩ := bind_some hm
      obtain ⟨cs1, hr2, hp1⟩ := elemS (hl_1.mono l3) hy2
      obtain rfl := rep_str hr2
      refine wE (ev_idxS (hl_1.mono l3) hy2 tu22 ts9 rfl rfl) F S rfl fun a F=>?_
      refine wE (ev_load1 tu9 rfl rfl (ptr_mono (cks := [[bx b1 #[.i6 0, .i6 0] 28]]) (fr := fr) hp1 (Le.refl _))) F S rfl fun a F=>?_
      refine wE (ev_lenS rfl tu9) F S rfl fun a F=>?_
      refine wE (ev_int rfl rfl (bo_gtr _ _ _ _)) F S rfl fun a F=>?_
      refine wpList_nil ?_
      refine then_n ?_
      obtain ⟨hc3, hm⟩ | ⟨hc3, hm⟩ := ite_or hm
      ·refine wp_condT F rfl hc3 ?_
       refine wp_seq ?_
       refine wp_region_lit ?_
       refine wE (ev_move rfl) F S rfl fun a F=>?_
       obtain ⟨y3, hy3, hm⟩ := bind_some hm
       refine wl_call0 (wn rfl) rfl F rfl (changeforgeref1_At_ok (fr := (fl [[bx b1 #[.i6 0, .i6 0] 28]] fr)) 2 x1 S hy3) rfl tc34 rfl rfl ?_; clear F a S
       rintro _ a w ⟨g5, l5, S, rfl⟩ F; replace S : St g5 [[bx b1 #[.i6 0, .i6 0] 28]] fr w := S
       refine wl_storeC (wn rfl) rfl F S rfl rfl (vs := [.i6 y3.Code, .i6 y3.Index]) rfl ts28 (one_cons rfl (one_cons rfl one_nil)) (k := 0) rfl (lb rfl) (c' := #[.i6 y3.Code, .i6 y3.Index]) rfl rfl ?_; clear S; intro w S
       refine wpList_nil ?_
       refine then_n ?_
       refine wp_ret ?_
       refine then_r ?_
       refine inb_r ?_
       refine then_r ?_
       refine then_r ?_
       refine inb_r ?_
       refine then_r ?_
       obtain rfl := sinj hm
       obtain rfl := hfin1 _ rfl
       clear hm
       have hm : (some y3 : Option Fault) = some _ := hmo1
       obtain rfl := sinj hm
       refine post_r _ F rfl (ar_cons (resA rfl tu28 rfl (box_ptr (cells := [.i6 y3.Code, .i6 y3.Index]) 0 rfl 0 rfl (lb rfl) w S) ts28) ar_nil) ?_
       replace S : St g5 [] fr w := St.tail [] _ S
       exact ⟨_, rfl, g5, (l3.trans l5), S, rfl⟩
      ·refine wp_condF F rfl hc3 ?_
       refine wp_skip ?_
       refine then_n ?_
       refine wp_seq ?_
       refine wp_region_lit ?_
       refine wE (ev_assign rfl) F S rfl fun a F=>?_
       refine wpList_nil ?_
       refine then_n ?_
       refine wp_cut1 (fun a w => ∃ (g6 : Gh), Fr 42 a [(3, .i6 x1), (2, bp b1 0), (0, vl_1)] ∧ Le g3 g6 ∧ St g6 [[bx b1 #[.i6 0, .i6 0] 28]] fr w ∧ changeforgeref1_LinesFault.j3 x1 = some x2) ?_ ?_
       ·refine wp_block ?_
        obtain ⟨r2, hr3, hm⟩ := bind_some hm
        have hmo2 := hm; clear hm
        refine wp_iter (σ := Int) (ρ := Fault ⊕ Unit) (m := fun s => changeforgeref1_LinesFault.l2 l_ x1 s) (I := fun x3 a w => ∃ (g7 : Gh), Fr 42 a [(4, .i6 x3), (3, .i6 x1), (2, bp b1 0), (0, vl_1)] ∧ Le g3 g7 ∧ St g7 [[bx b1 #[.i6 0, .i6 0] 28]] fr w) hr3 ?_ ?_
        ·exact ⟨g3, F.sub ⟨rfl, rfl, rfl, rfl, trivial⟩, (Le.refl _), S⟩
        ·clear F S; rintro x3 a w x4 ⟨g7, F, l7, S⟩ hx2 hfin2
         have hm : changeforgeref1_LinesFault.l2 l_ x1 x3 = some x4 := hx2; clear hx2
         unfold changeforgeref1_LinesFault.l2 at hm
         refine wp_seq ?_
         refine wp_seq ?_
         refine wp_region_lit ?_
         refine wE (ev_move rfl) F S rfl fun a F=>?_
         refine wE (ev_move rfl) F S rfl fun a F=>?_
         refine wE (ev_move rfl) F S rfl fun a F=>?_
         obtain ⟨y4, hy4, hm⟩ := bind_some hm
         obtain ⟨cs2, hr4, hp2⟩ := elemS (hl_1.mono (l3.trans l7)) hy4
         obtain rfl := rep_str hr4
         refine wE (ev_idxS (hl_1.mono (l3.trans l7)) hy4 tu22 ts9 rfl rfl) F S rfl fun a F=>?_
         refine wE (ev_load1 tu9 rfl rfl (ptr_mono (cks := [[bx b1 #[.i6 0, .i6 0] 28]]) (fr := fr) hp2 (Le.refl _))) F S rfl fun a F=>?_
         refine wE (ev_lenS rfl tu9) F S rfl fun a F=>?_
         refine wE (ev_int rfl rfl (bo_lss _ _ _ _)) F S rfl fun a F=>?_
         refine wpList_nil ?_
         refine then_n ?_
         obtain ⟨hc4, hm⟩ | ⟨hc4, hm⟩ := ite_or hm
         ·refine wp_condT F rfl hc4 ?_
          refine wp_skip ?_
          refine then_n ?_
          refine wp_seq ?_
          refine wp_block ?_
          refine wp_seq ?_
          refine wp_region_lit ?_
          refine wE (ev_move rfl) F S rfl fun a F=>?_
          refine wE (ev_move rfl) F S rfl fun a F=>?_
          obtain ⟨y5, hy5, hm⟩ := bind_some hm
          obtain ⟨cs3, hr5, hp3⟩ := elemS (hl_1.mono (l3.trans l7)) hy5
          obtain rfl := rep_str hr5
          refine wE (ev_idxS (hl_1.mono (l3.trans l7)) hy5 tu22 ts9 rfl rfl) F S rfl fun a F=>?_
          refine wE (ev_load1 tu9 rfl rfl (ptr_mono (cks := [[bx b1 #[.i6 0, .i6 0] 28]]) (fr := fr) hp3 (Le.refl _))) F S rfl fun a F=>?_
          refine wE (ev_move rfl) F S rfl fun a F=>?_
          obtain ⟨y6, hy6, hm⟩ := bind_some hm
          refine wE (ev_sAt hy6 tu9 rfl rfl) F S rfl fun a F=>?_
          refine wE (ev_int rfl rfl (bo_eql _ _ _ _)) F S rfl fun a F=>?_
          refine wpList_nil ?_
          refine then_n ?_
          obtain ⟨hc5, hm⟩ | ⟨hc5, hm⟩ := ite_or hm
          ·refine wp_condT F rfl hc5 ?_
           refine wp_seq ?_
           refine wp_region_lit ?_
           refine wE (ev_move rfl) F S rfl fun a F=>?_
           obtain ⟨y7, hy7, hm⟩ := bind_some hm
           refine wl_call0 (wn rfl) rfl F rfl (changeforgeref1_At_ok (fr := (fl [[bx b1 #[.i6 0, .i6 0] 28]] fr)) 5 x1 S hy7) rfl tc34 rfl rfl ?_; clear F a S
           rintro _ a w ⟨g8, l8, S, rfl⟩ F; replace S : St g8 [[bx b1 #[.i6 0, .i6 0] 28]] fr w := S
           refine wl_storeC (wn rfl) rfl F S rfl rfl (vs := [.i6 y7.Code, .i6 y7.Index]) rfl ts28 (one_cons rfl (one_cons rfl one_nil)) (k := 0) rfl (lb rfl) (c' := #[.i6 y7.Code, .i6 y7.Index]) rfl rfl ?_; clear S; intro w S
           refine wpList_nil ?_
           refine then_n ?_
           refine wp_ret ?_
           refine inb_r ?_
           refine then_r ?_
           refine then_r ?_
           refine inb_r ?_
           refine then_r ?_
           refine inb_r ?_
           refine then_r ?_
           refine then_r ?_
           refine inb_r ?_
           refine then_r ?_
           obtain rfl := sinj hm
           obtain rfl := hfin2 _ rfl
           clear hm
           have hm : (some (Step.done (Sum.inl y7)) : Option (Step Int (Fault ⊕ Unit))) = some _ := hmo2
           obtain rfl := sinj hm
           obtain rfl := hfin1 _ rfl
           clear hm
           have hm : (some y7 : Option Fault) = some _ := hmo1
           obtain rfl := sinj hm
           refine post_r _ F rfl (ar_cons (resA rfl tu28 rfl (box_ptr (cells := [.i6 y7.Code, .i6 y7.Index]) 0 rfl 0 rfl (lb rfl) w S) ts28) ar_nil) ?_
           replace S : St g8 [] fr w := St.tail [] _ S
           exact ⟨_, rfl, g8, ((l3.trans l7).trans l8), S, rfl⟩
          ·refine wp_condF F rfl hc5 ?_
           refine wp_skip ?_
           refine inb_n ?_
           refine then_n ?_
           refine wp_region_lit ?_
           refine wE (ev_move rfl) F S rfl fun a F=>?_
           obtain ⟨z2, hz2, hm⟩ := bind_some hm
           refine wE (ev_int rfl rfl (bo_add hz2)) F S rfl fun a F=>?_
           refine wE (ev_assign rfl) F S rfl fun a F=>?_
           refine wpList_nil ?_
           refine then_n ?_
           obtain rfl := sinj hm
           refine ⟨_, rfl, ?_⟩
           exact ⟨g7, F.sub ⟨rfl, rfl, rfl, rfl, trivial⟩, l7, S⟩
         ·refine wp_condF F rfl hc4 ?_
          refine wp_exit ?_
          refine then_e ?_
          refine then_e ?_
          refine inb_x ?_
          refine then_n ?_
          obtain rfl := sinj hm
          obtain rfl := hfin2 _ rfl
          clear hm
          have hm : (changeforgeref1_LinesFault.j3 x1 : Option (Step Int (Fault ⊕ Unit))) = some _ := hmo2
          exact ⟨g7, F.sub ⟨rfl, rfl, rfl, trivial⟩, l7, S, hm⟩
       ·clear F S hm; rintro a w ⟨g6, F, l6, S, hm⟩
        refine inb_n ?_
        refine then_n ?_
        exact ⟨g6, F.sub ⟨rfl, rfl, rfl, trivial⟩, l6, S, hm⟩
     ·clear F S hm; rintro a w ⟨g4, F, l4, S, hm⟩
      refine wp_region_lit ?_
      refine wE (ev_move rfl) F S rfl fun a F=>?_
      obtain ⟨z1, hz1, hm⟩ := bind_some hm
      refine wE (ev_int rfl rfl (bo_add hz1)) F S rfl fun a F=>?_
      refine wE (ev_assign rfl) F S rfl fun a F=>?_
      refine wpList_nil ?_
      refine then_n ?_
      obtain rfl := sinj hm
      refine ⟨_, rfl, ?_⟩
      exact ⟨g4, F.sub ⟨rfl, rfl, rfl, trivial⟩, (l3.trans l4), S⟩
    ·refine wp_condF F rfl hc2 ?_
     refine wp_exit ?_
     refine then_e ?_
     refine then_e ?_
     refine inb_x ?_
     refine then_n ?_
     obtain rfl := sinj hm
     obtain rfl := hfin1 _ rfl
     clear hm
     have hm : (changeforgeref1_LinesFault.j1 : Option Fault) = some _ := hmo1
     exact ⟨g3, F.sub ⟨rfl, trivial⟩, l3, S, hm⟩
  ·clear F S hm; rintro a w ⟨g2, F, l2, S, hm⟩
   refine wp_seq ?_
   refine wp_region_lit ?_
   refine wE (ev_build (parts := []) (vs := []) rfl (fun w => tb28_  w)) F S rfl fun a F=>?_
   refine wl_storeC (wn rfl) rfl F S rfl rfl (vs := [.i6 0, .i6 0]) rfl ts28 (one_cons rfl (one_cons rfl one_nil)) (k := 0) rfl (lb rfl) (c' := #[.i6 0, .i6 0]) rfl rfl ?_; clear S; intro w S
   refine wpList_nil ?_
   refine then_n ?_
   refine wp_ret ?_
   obtain rfl := sinj hm
   refine post_r _ F rfl (ar_cons (resA rfl tu28 rfl (box_ptr (cells := [.i6 0, .i6 0]) 0 rfl 0 rfl (lb rfl) w S) ts28) ar_nil) ?_
   replace S : St g2 [] fr w := St.tail [] _ S
   exact ⟨_, rfl, g2, l2, S, rfl⟩

theorem changeforgeref1_LinesCode_ok {g : Gh} {fr : Hl} {w : World} {r : Int} (l_ : (List ByteArray)) (vl_1 : Value) (hl_1 : RepSl g l_ vl_1) (S : St g [] fr w) (hm : changeforgeref1_LinesCode l_ = some r) :
  Calls Try.prog 44 [vl_1].toArray w (fun en w' => ∃ v, en = .returned v ∧ ∃ (g' : Gh), Le g g' ∧ St g' [] fr w' ∧ .i6 r = v) := by
 unfold changeforgeref1_LinesCode at hm
 refine calls_enter (fn := Try.f44) Try.func44 rfl Try.ntmps44 (lb rfl) ?_
 intro a F
 replace F : Fr 6 a [(0, vl_1)] := F
 refine wp_seq ?_
 refine wp_region_lit ?_
 refine wE (ev_assign rfl) F S rfl fun a F=>?_
 refine wpList_nil ?_
 refine then_n ?_
 refine wp_seq ?_
 refine wp_region_lit ?_
 refine wE (ev_move rfl) F S rfl fun a F=>?_
 obtain ⟨y1, hy1, hm⟩ := bind_some hm
 refine wl_call0 (wn rfl) rfl F rfl (changeforgeref1_LinesFault_ok l_ vl_1 hl_1 S hy1) rfl tc56 rfl rfl ?_; clear F a S
 rintro _ a w ⟨g1, l1, S, rfl⟩ F; replace S : St g1 [] fr w := S
 refine wE (ev_field1 tu28 tf28_0 tu3 rfl (cs := [.i6 y1.Code, .i6 y1.Index]) rfl rfl) F S rfl fun a F=>?_
 refine wE (ev_assign rfl) F S rfl fun a F=>?_
 refine wpList_nil ?_
 refine then_n ?_
 refine wp_ret ?_
 obtain rfl := sinj hm
 refine post_r _ F rfl (ar_cons (resT rfl) ar_nil) ?_
 exact ⟨_, rfl, g1, l1, S, rfl⟩

theorem changeforgeref1_One_ok {g : Gh} {fr : Hl} {w : World} {r : Int} (s_ : ByteArray) (S : St g [] fr w) (hm : changeforgeref1_One s_ = some r) :
  Calls Try.prog 55 [.string s_].toArray w (fun en w' => ∃ v, en = .returned v ∧ ∃ (g' : Gh), Le g g' ∧ St g' [] fr w' ∧ .i6 r = v) := by
 unfold changeforgeref1_One at hm
 refine calls_enter (fn := Try.f55) Try.func55 rfl Try.ntmps55 (lb rfl) ?_
 intro a F
 replace F : Fr 6 a [(0, .string s_)] := F
 refine wp_seq ?_
 refine wp_region_lit ?_
 refine wE (ev_assign rfl) F S rfl fun a F=>?_
 refine wpList_nil ?_
 refine then_n ?_
 refine wp_seq ?_
 refine wp_region_lit ?_
 refine wE (ev_move rfl) F S rfl fun a F=>?_
 refine wl_lit (l := ([s_] : List ByteArray)) (vs := [.string s_]) (parts := [(0, .tmp 3)]) (wn rfl) rfl rfl rfl tu22 te9 (sz_cons rfl sz_nil) rfl (Cat.cons (show Rep.rep _ s_ _ from rfl) (Cat.nil _)) (coa_cons rfl coa_nil) rfl F S rfl rfl ?_; clear F a S
 rintro v1 c1 a w h1 F S
 obtain ⟨g1, l1, S, h2⟩ : ∃ gz, Le g gz ∧ St gz [] fr w ∧ RepSl gz ([s_] : List ByteArray) v1 := ⟨_, Le.add _ _, S.freeze 0 rfl, OwnS.freeze (S.front 0 rfl) h1⟩
 obtain ⟨y1, hy1, hm⟩ := bind_some hm
 refine wl_call0 (wn rfl) rfl F rfl (changeforgeref1_LinesCode_ok ([s_] : List ByteArray) v1 h2 S hy1) rfl tc44 rfl rfl ?_; clear F a S
 rintro _ a w ⟨g2, l2, S, rfl⟩ F; replace S : St g2 [] fr w := S
 refine wE (ev_assign rfl) F S rfl fun a F=>?_
 refine wpList_nil ?_
 refine then_n ?_
 refine wp_ret ?_
 obtain rfl := sinj hm
 refine post_r _ F rfl (ar_cons (resT rfl) ar_nil) ?_
 exact ⟨_, rfl, g2, (l1.trans l2), S, rfl⟩

theorem changeforgeref2_nameCode_ok {g : Gh} {fr : Hl} {w : World} {r : Int} (s_ : ByteArray) (S : St g [] fr w) (hm : changeforgeref2_nameCode s_ = some r) :
  Calls Try.prog 43 [.string s_].toArray w (fun en w' => ∃ v, en = .returned v ∧ ∃ (g' : Gh), Le g g' ∧ St g' [] fr w' ∧ .i6 r = v) := by
 unfold changeforgeref2_nameCode at hm
 refine calls_enter (fn := Try.f43) Try.func43 rfl Try.ntmps43 (lb rfl) ?_
 intro a F
 replace F : Fr 7 a [(0, .string s_)] := F
 refine wp_seq ?_
 refine wp_region_lit ?_
 refine wE (ev_assign rfl) F S rfl fun a F=>?_
 refine wpList_nil ?_
 refine then_n ?_
 refine wp_seq ?_
 refine wp_seq ?_
 refine wp_region_lit ?_
 refine wE (ev_move rfl) F S rfl fun a F=>?_
 refine wE (ev_str rfl rfl (bs_eql _ _ _)) F S rfl fun a F=>?_
 refine wpList_nil ?_
 refine then_n ?_
 obtain ⟨hc1, hm⟩ | ⟨hc1, hm⟩ := ite_or hm
 ·refine wp_condT F rfl hc1 ?_
  refine wp_seq ?_
  refine wp_region_lit ?_
  refine wE (ev_assign rfl) F S rfl fun a F=>?_
  refine wpList_nil ?_
  refine then_n ?_
  refine wp_ret ?_
  refine then_r ?_
  obtain rfl := sinj hm
  refine post_r _ F rfl (ar_cons (resT rfl) ar_nil) ?_
  exact ⟨_, rfl, g, (Le.refl _), S, rfl⟩
 ·refine wp_condF F rfl hc1 ?_
  refine wp_skip ?_
  refine then_n ?_
  refine wp_seq ?_
  refine wp_region_lit ?_
  refine wE (ev_move rfl) F S rfl fun a F=>?_
  obtain ⟨y1, hy1, hm⟩ := bind_some hm
  refine wl_call0 (wn rfl) rfl F rfl (changeforgeref1_One_ok s_ S hy1) rfl tc55 rfl rfl ?_; clear F a S
  rintro _ a w ⟨g1, l1, S, rfl⟩ F; replace S : St g1 [] fr w := S
  refine wE (ev_assign rfl) F S rfl fun a F=>?_
  refine wpList_nil ?_
  refine then_n ?_
  refine wp_ret ?_
  obtain rfl := sinj hm
  refine post_r _ F rfl (ar_cons (resT rfl) ar_nil) ?_
  exact ⟨_, rfl, g1, l1, S, rfl⟩

theorem changeforgeref2_TableFault_ok {g : Gh} {fr : Hl} {w : World} {r : Fault} (t_ : Table) (vt_1 : Value) (ht_1 : RepSl g t_.Columns vt_1) (vt_2 : Value) (ht_2 : RepSl g t_.Rows vt_2) (S : St g [] fr w) (hm : changeforgeref2_TableFault t_ = some r) :
  Calls Try.prog 22 [.agg #[vt_1, vt_2]].toArray w (fun en w' => ∃ v, en = .returned v ∧ ∃ (g' : Gh), Le g g' ∧ St g' [] fr w' ∧ .agg #[.i6 r.Code, .i6 r.Index] = v) := by
 unfold changeforgeref2_TableFault at hm
 refine calls_enter (fn := Try.f22) Try.func22 rfl Try.ntmps22 (lb rfl) ?_
 intro a F
 replace F : Fr 114 a [(0, .agg #[vt_1, vt_2])] := F
 refine wp_seq ?_
 refine wp_region_lit ?_
 refine wl_boxC (wn rfl) rfl rfl rfl F S rfl rfl ?_; clear F a S; rintro b1 a w F S
 refine wl_alloc (wn rfl) rfl tz28 (cs := [.i6 0, .i6 0]) rfl F S rfl rfl ?_; clear F a S; rintro b2 a w F S
 refine wpList_nil ?_
 refine then_n ?_
 refine wp_seq ?_
 refine wp_region_lit ?_
 refine wE (ev_fieldAddr' tu25 tf25_0 (z := 0) ts22 rfl ⟨_, rfl⟩ rfl) F S rfl fun a F=>?_
 refine wE (ev_load1 tu22 rfl rfl (box_ptr (cells := [vt_1]) 1 rfl 0 rfl (lb rfl))) F S rfl fun a F=>?_
 refine wE (ev_lenSh ht_1 rfl tu22) F S rfl fun a F=>?_
 refine wE (ev_assign rfl) F S rfl fun a F=>?_
 refine wpList_nil ?_
 refine then_n ?_
 refine wp_seq ?_
 refine wp_seq ?_
 refine wp_region_lit ?_
 refine wE (ev_move rfl) F S rfl fun a F=>?_
 refine wE (ev_int rfl rfl (bo_eql _ _ _ _)) F S rfl fun a F=>?_
 refine wpList_nil ?_
 refine then_n ?_
 obtain ⟨hc1, hm⟩ | ⟨hc1, hm⟩ := ite_or hm
 ·refine wp_condT F rfl hc1 ?_
  refine wp_seq ?_
  refine wp_region_lit ?_
  obtain ⟨y1, hy1, hm⟩ := bind_some hm
  refine wl_call0 (wn rfl) rfl F rfl (changeforgeref1_At_ok (fr := (fl [[bx b2 #[.i6 0, .i6 0] 28], [bx b1 #[vt_1, vt_2] 25]] fr)) 5 (-1) S hy1) rfl tc34 rfl rfl ?_; clear F a S
  rintro _ a w ⟨g1, l1, S, rfl⟩ F; replace S : St g1 [[bx b2 #[.i6 0, .i6 0] 28], [bx b1 #[vt_1, vt_2] 25]] fr w := S
  refine wl_storeC (wn rfl) rfl F S rfl rfl (vs := [.i6 y1.Code, .i6 y1.Index]) rfl ts28 (one_cons rfl (one_cons rfl one_nil)) (k := 0) rfl (lb rfl) (c' := #[.i6 y1.Code, .i6 y1.Index]) rfl rfl ?_; clear S; intro w S
  refine wpList_nil ?_
  refine then_n ?_
  refine wp_ret ?_
  refine then_r ?_
  obtain rfl := sinj hm
  refine post_r _ F rfl (ar_cons (resA rfl tu28 rfl (box_ptr (cells := [.i6 y1.Code, .i6 y1.Index]) 0 rfl 0 rfl (lb rfl) w S) ts28) ar_nil) ?_
  replace S : St g1 [] fr w := St.tail [] _ S
  exact ⟨_, rfl, g1, l1, S, rfl⟩
 ·refine wp_condF F rfl hc1 ?_
  refine wp_skip ?_
  refine then_n ?_
  refine wp_seq ?_
  refine wp_seq ?_
  refine wp_region_lit ?_
  refine wE (ev_move rfl) F S rfl fun a F=>?_
  refine wE (ev_int rfl rfl (bo_gtr _ _ _ _)) F S rfl fun a F=>?_
  refine wE (ev_move rfl) F S rfl fun a F=>?_
  obtain ⟨x1, hx1, hm⟩ := bind_some hm
  refine wl_cut 5 (fun a w' => w = w' ∧ Fr 114 a [(23, .bool x1), (3, .i6 (t_.Columns.length : Int)), (2, bp b2 0), (1, bp b1 0)]) ?_ ?_
  ·clear hm; obtain ⟨hc2, hm⟩ | ⟨hc2, hm⟩ := ite_or hx1
   ·refine wl_skip rfl rfl rfl rfl (ne_ft hc2) F rfl rfl ?_; clear F a; intro a F
    refine wl_skip rfl rfl rfl rfl (ne_ft hc2) F rfl rfl ?_; clear F a; intro a F
    refine wl_skip rfl rfl rfl rfl (ne_ft hc2) F rfl rfl ?_; clear F a; intro a F
    refine wl_skip rfl rfl rfl rfl (ne_ft hc2) F rfl rfl ?_; clear F a; intro a F
    refine wE (ev_pickT rfl hc2 rfl) F S rfl fun a F=>?_
    obtain rfl := sinj hm
    refine wpList_nil (then_n ?_); exact ⟨rfl, F.sub ⟨rfl, rfl, rfl, rfl, trivial⟩⟩
   ·refine wl_ev (wg F rfl rfl rfl rfl hc2) (ev_fieldAddr' tu25 tf25_1 (z := 0) ts23 rfl ⟨_, rfl⟩ rfl) F S rfl rfl ?_; clear F a; intro a F
    refine wl_ev (wg F rfl rfl rfl rfl hc2) (ev_load1 tu23 rfl rfl (box_ptr (cells := [vt_2]) 1 rfl 1 rfl (lb rfl))) F S rfl rfl ?_; clear F a; intro a F
    refine wl_ev (wg F rfl rfl rfl rfl hc2) (ev_lenSh ht_2 rfl tu23) F S rfl rfl ?_; clear F a; intro a F
    refine wl_ev (wg F rfl rfl rfl rfl hc2) (ev_int rfl rfl (bo_gtr _ _ _ _)) F S rfl rfl ?_; clear F a; intro a F
    refine wE (ev_pickF rfl hc2 rfl) F S rfl fun a F=>?_
    obtain rfl := sinj hm
    refine wpList_nil (then_n ?_); exact ⟨rfl, F.sub ⟨rfl, rfl, rfl, rfl, trivial⟩⟩
  clear F; rintro a w' ⟨rfl, F⟩
  refine wpList_nil ?_
  refine then_n ?_
  obtain ⟨hc3, hm⟩ | ⟨hc3, hm⟩ := ite_or hm
  ·refine wp_condT F rfl hc3 ?_
   refine wp_seq ?_
   refine wp_region_lit ?_
   obtain ⟨y2, hy2, hm⟩ := bind_some hm
   refine wl_call0 (wn rfl) rfl F rfl (changeforgeref1_At_ok (fr := (fl [[bx b2 #[.i6 0, .i6 0] 28], [bx b1 #[vt_1, vt_2] 25]] fr)) 2 (-1) S hy2) rfl tc34 rfl rfl ?_; clear F a S
   rintro _ a w ⟨g2, l2, S, rfl⟩ F; replace S : St g2 [[bx b2 #[.i6 0, .i6 0] 28], [bx b1 #[vt_1, vt_2] 25]] fr w := S
   refine wl_storeC (wn rfl) rfl F S rfl rfl (vs := [.i6 y2.Code, .i6 y2.Index]) rfl ts28 (one_cons rfl (one_cons rfl one_nil)) (k := 0) rfl (lb rfl) (c' := #[.i6 y2.Code, .i6 y2.Index]) rfl rfl ?_; clear S; intro w S
   refine wpList_nil ?_
   refine then_n ?_
   refine wp_ret ?_
   refine then_r ?_
   obtain rfl := sinj hm
   refine post_r _ F rfl (ar_cons (resA rfl tu28 rfl (box_ptr (cells := [.i6 y2.Code, .i6 y2.Index]) 0 rfl 0 rfl (lb rfl) w S) ts28) ar_nil) ?_
   replace S : St g2 [] fr w := St.tail [] _ S
   exact ⟨_, rfl, g2, l2, S, rfl⟩
  ·refine wp_condF F rfl hc3 ?_
   refine wp_skip ?_
   refine then_n ?_
   refine wp_cut (fun a w => ∃ (g3 : Gh), Fr 114 a [(3, .i6 (t_.Columns.length : Int)), (2, bp b2 0), (1, bp b1 0)] ∧ Le g g3 ∧ St g3 [[bx b2 #[.i6 0, .i6 0] 28], [bx b1 #[vt_1, vt_2] 25]] fr w ∧ changeforgeref2_TableFault.j1 t_ = some r) ?_ ?_
   ·refine wp_seq ?_
    refine wp_region_lit ?_
    refine wE (ev_assign rfl) F S rfl fun a F=>?_
    refine wpList_nil ?_
    refine then_n ?_
    refine wp_block ?_
    obtain ⟨r2, hr4, hm⟩ := bind_some hm
    have hmo2 := hm; clear hm
    refine wp_iter (σ := Int) (ρ := Fault ⊕ Unit) (m := fun s => changeforgeref2_TableFault.l2 t_ s) (I := fun x10 a w => ∃ (g12 : Gh), Fr 114 a [(4, .i6 x10), (3, .i6 (t_.Columns.length : Int)), (2, bp b2 0), (1, bp b1 0)] ∧ Le g g12 ∧ St g12 [[bx b2 #[.i6 0, .i6 0] 28], [bx b1 #[vt_1, vt_2] 25]] fr w) hr4 ?_ ?_
    ·exact ⟨g, F.sub ⟨rfl, rfl, rfl, rfl, trivial⟩, (Le.refl _), S⟩
    ·clear F S; rintro x10 a w x11 ⟨g12, F, l12, S⟩ hx6 hfin2
     have hm : changeforgeref2_TableFault.l2 t_ x10 = some x11 := hx6; clear hx6
     unfold changeforgeref2_TableFault.l2 at hm
     refine wp_seq ?_
     refine wp_seq ?_
     refine wp_region_lit ?_
     refine wE (ev_move rfl) F S rfl fun a F=>?_
     refine wE (ev_move rfl) F S rfl fun a F=>?_
     refine wE (ev_int rfl rfl (bo_lss _ _ _ _)) F S rfl fun a F=>?_
     refine wpList_nil ?_
     refine then_n ?_
     obtain ⟨hc12, hm⟩ | ⟨hc12, hm⟩ := ite_or hm
     ·refine wp_condT F rfl hc12 ?_
      refine wp_skip ?_
      refine then_n ?_
      refine wp_cut (fun a w => ∃ (g13 : Gh), Fr 114 a [(4, .i6 x10), (3, .i6 (t_.Columns.length : Int)), (2, bp b2 0), (1, bp b1 0)] ∧ Le g12 g13 ∧ St g13 [[bx b2 #[.i6 0, .i6 0] 28], [bx b1 #[vt_1, vt_2] 25]] fr w ∧ changeforgeref2_TableFault.j6 x10 = some x11) ?_ ?_
      ·refine wp_block ?_
       refine wp_seq ?_
       refine wp_seq ?_
       refine wp_region_lit ?_
       refine wE (ev_fieldAddr' tu25 tf25_0 (z := 0) ts22 rfl ⟨_, rfl⟩ rfl) F S rfl fun a F=>?_
       refine wE (ev_load1 tu22 rfl rfl (box_ptr (cells := [vt_1]) 1 rfl 0 rfl (lb rfl))) F S rfl fun a F=>?_
       refine wE (ev_move rfl) F S rfl fun a F=>?_
       obtain ⟨y8, hy8, hm⟩ := bind_some hm
       obtain ⟨cs3, hr5, hp4⟩ := elemS (ht_1.mono l12) hy8
       obtain rfl := rep_str hr5
       refine wE (ev_idxS (ht_1.mono l12) hy8 tu22 ts9 rfl rfl) F S rfl fun a F=>?_
       refine wE (ev_load1 tu9 rfl rfl (ptr_mono (cks := [[bx b2 #[.i6 0, .i6 0] 28], [bx b1 #[vt_1, vt_2] 25]]) (fr := fr) hp4 (Le.refl _))) F S rfl fun a F=>?_
       obtain ⟨y9, hy9, hm⟩ := bind_some hm
       refine wl_call0 (wn rfl) rfl F rfl (changeforgeref2_nameCode_ok (fr := (fl [[bx b2 #[.i6 0, .i6 0] 28], [bx b1 #[vt_1, vt_2] 25]] fr)) y8 S hy9) rfl tc43 rfl rfl ?_; clear F a S
       rintro _ a w ⟨g14, l14, S, rfl⟩ F; replace S : St g14 [[bx b2 #[.i6 0, .i6 0] 28], [bx b1 #[vt_1, vt_2] 25]] fr w := S
       refine wE (ev_assign rfl) F S rfl fun a F=>?_
       refine wpList_nil ?_
       refine then_n ?_
       refine wp_seq ?_
       refine wp_region_lit ?_
       refine wE (ev_move rfl) F S rfl fun a F=>?_
       refine wE (ev_int rfl rfl (bo_neq _ _ _ _)) F S rfl fun a F=>?_
       refine wpList_nil ?_
       refine then_n ?_
       obtain ⟨hc13, hm⟩ | ⟨hc13, hm⟩ := ite_or hm
       ·refine wp_condT F rfl hc13 ?_
        refine wp_seq ?_
        refine wp_region_lit ?_
        refine wE (ev_move rfl) F S rfl fun a F=>?_
        refine wE (ev_move rfl) F S rfl fun a F=>?_
        obtain ⟨z4, hz4, hm⟩ := bind_some hm
        refine wE (ev_int rfl rfl (bo_sub hz4)) F S rfl fun a F=>?_
        obtain ⟨y10, hy10, hm⟩ := bind_some hm
        refine wl_call0 (wn rfl) rfl F rfl (changeforgeref1_At_ok (fr := (fl [[bx b2 #[.i6 0, .i6 0] 28], [bx b1 #[vt_1, vt_2] 25]] fr)) y9 z4 S hy10) rfl tc34 rfl rfl ?_; clear F a S
        rintro _ a w ⟨g15, l15, S, rfl⟩ F; replace S : St g15 [[bx b2 #[.i6 0, .i6 0] 28], [bx b1 #[vt_1, vt_2] 25]] fr w := S
        refine wl_storeC (wn rfl) rfl F S rfl rfl (vs := [.i6 y10.Code, .i6 y10.Index]) rfl ts28 (one_cons rfl (one_cons rfl one_nil)) (k := 0) rfl (lb rfl) (c' := #[.i6 y10.Code, .i6 y10.Index]) rfl rfl ?_; clear S; intro w S
        refine wpList_nil ?_
        refine then_n ?_
        refine wp_ret ?_
        refine then_r ?_
        refine inb_r ?_
        refine then_r ?_
        refine then_r ?_
        refine inb_r ?_
        refine then_r ?_
        obtain rfl := sinj hm
        obtain rfl := hfin2 _ rfl
        clear hm
        have hm : (some y10 : Option Fault) = some _ := hmo2
        obtain rfl := sinj hm
        refine post_r _ F rfl (ar_cons (resA rfl tu28 rfl (box_ptr (cells := [.i6 y10.Code, .i6 y10.Index]) 0 rfl 0 rfl (lb rfl) w S) ts28) ar_nil) ?_
        replace S : St g15 [] fr w := St.tail [] _ S
        exact ⟨_, rfl, g15, ((l12.trans l14).trans l15), S, rfl⟩
       ·refine wp_condF F rfl hc13 ?_
        refine wp_skip ?_
        refine then_n ?_
        refine wp_seq ?_
        refine wp_region_lit ?_
        refine wE (ev_assign rfl) F S rfl fun a F=>?_
        refine wpList_nil ?_
        refine then_n ?_
        refine wp_cut1 (fun a w => ∃ (g16 : Gh), Fr 114 a [(4, .i6 x10), (3, .i6 (t_.Columns.length : Int)), (2, bp b2 0), (1, bp b1 0)] ∧ Le g14 g16 ∧ St g16 [[bx b2 #[.i6 0, .i6 0] 28], [bx b1 #[vt_1, vt_2] 25]] fr w ∧ changeforgeref2_TableFault.j7 x10 = some x11) ?_ ?_
        ·refine wp_block ?_
         obtain ⟨r3, hr6, hm⟩ := bind_some hm
         have hmo3 := hm; clear hm
         refine wp_iter (σ := Int) (ρ := Fault ⊕ Unit) (m := fun s => changeforgeref2_TableFault.l3 t_ x10 s) (I := fun x12 a w => ∃ (g17 : Gh), Fr 114 a [(6, .i6 x12), (4, .i6 x10), (3, .i6 (t_.Columns.length : Int)), (2, bp b2 0), (1, bp b1 0)] ∧ Le g14 g17 ∧ St g17 [[bx b2 #[.i6 0, .i6 0] 28], [bx b1 #[vt_1, vt_2] 25]] fr w) hr6 ?_ ?_
         ·exact ⟨g14, F.sub ⟨rfl, rfl, rfl, rfl, rfl, trivial⟩, (Le.refl _), S⟩
         ·clear F S; rintro x12 a w x13 ⟨g17, F, l17, S⟩ hx7 hfin3
          have hm : changeforgeref2_TableFault.l3 t_ x10 x12 = some x13 := hx7; clear hx7
          unfold changeforgeref2_TableFault.l3 at hm
          refine wp_seq ?_
          refine wp_seq ?_
          refine wp_region_lit ?_
          refine wE (ev_move rfl) F S rfl fun a F=>?_
          refine wE (ev_move rfl) F S rfl fun a F=>?_
          refine wE (ev_int rfl rfl (bo_lss _ _ _ _)) F S rfl fun a F=>?_
          refine wpList_nil ?_
          refine then_n ?_
          obtain ⟨hc14, hm⟩ | ⟨hc14, hm⟩ := ite_or hm
          ·refine wp_condT F rfl hc14 ?_
           refine wp_skip ?_
           refine then_n ?_
           refine wp_seq ?_
           refine wp_block ?_
           refine wp_seq ?_
           refine wp_quiet mo (by kernel_rfl) S ?_
           refine wq_ev (wn rfl) (ev_fieldAddr' tu25 tf25_0 (z := 0) ts22 rfl ⟨_, rfl⟩ rfl) F rfl rfl ?_; clear F a; intro a F
           refine wq_ev (wn rfl) (ev_load1 tu22 rfl rfl (box_ptr (cells := [vt_1]) 1 rfl 0 rfl (lb rfl))) F rfl rfl ?_; clear F a; intro a F
           refine wq_ev (wn rfl) (ev_move rfl) F rfl rfl ?_; clear F a; intro a F
           obtain ⟨y11, hy11, hm⟩ := bind_some hm
           obtain ⟨cs4, hr7, hp5⟩ := elemS (ht_1.mono ((l12.trans l14).trans l17)) hy11
           obtain rfl := rep_str hr7
           refine wq_ev (wn rfl) (ev_idxS (ht_1.mono ((l12.trans l14).trans l17)) hy11 tu22 ts9 rfl rfl) F rfl rfl ?_; clear F a; intro a F
           refine wq_ev (wn rfl) (ev_load1 tu9 rfl rfl (ptr_mono (cks := [[bx b2 #[.i6 0, .i6 0] 28], [bx b1 #[vt_1, vt_2] 25]]) (fr := fr) hp5 (Le.refl _))) F rfl rfl ?_; clear F a; intro a F
           refine wq_ev (wn rfl) (ev_fieldAddr' tu25 tf25_0 (z := 0) ts22 rfl ⟨_, rfl⟩ rfl) F rfl rfl ?_; clear F a; intro a F
           refine wq_ev (wn rfl) (ev_load1 tu22 rfl rfl (box_ptr (cells := [vt_1]) 1 rfl 0 rfl (lb rfl))) F rfl rfl ?_; clear F a; intro a F
           refine wq_ev (wn rfl) (ev_move rfl) F rfl rfl ?_; clear F a; intro a F
           obtain ⟨y12, hy12, hm⟩ := bind_some hm
           obtain ⟨cs5, hr8, hp6⟩ := elemS (ht_1.mono ((l12.trans l14).trans l17)) hy12
           obtain rfl := rep_str hr8
           refine wq_ev (wn rfl) (ev_idxS (ht_1.mono ((l12.trans l14).trans l17)) hy12 tu22 ts9 rfl rfl) F rfl rfl ?_; clear F a; intro a F
           refine wq_ev (wn rfl) (ev_load1 tu9 rfl rfl (ptr_mono (cks := [[bx b2 #[.i6 0, .i6 0] 28], [bx b1 #[vt_1, vt_2] 25]]) (fr := fr) hp6 (Le.refl _))) F rfl rfl ?_; clear F a; intro a F
           refine wq_ev (wn rfl) (ev_str rfl rfl (bs_eql _ _ _)) F rfl rfl ?_; clear F a; intro a F
           refine wq_nil ?_; clear S; intro w S
           refine then_n ?_
           obtain ⟨hc15, hm⟩ | ⟨hc15, hm⟩ := ite_or hm
           ·refine wp_condT F rfl hc15 ?_
            refine wp_seq ?_
            refine wp_region_lit ?_
            refine wE (ev_move rfl) F S rfl fun a F=>?_
            obtain ⟨z5, hz5, hm⟩ := bind_some hm
            refine wE (ev_int rfl rfl (bo_sub hz5)) F S rfl fun a F=>?_
            obtain ⟨y13, hy13, hm⟩ := bind_some hm
            refine wl_call0 (wn rfl) rfl F rfl (changeforgeref1_At_ok (fr := (fl [[bx b2 #[.i6 0, .i6 0] 28], [bx b1 #[vt_1, vt_2] 25]] fr)) 7 z5 S hy13) rfl tc34 rfl rfl ?_; clear F a S
            rintro _ a w ⟨g18, l18, S, rfl⟩ F; replace S : St g18 [[bx b2 #[.i6 0, .i6 0] 28], [bx b1 #[vt_1, vt_2] 25]] fr w := S
            refine wl_storeC (wn rfl) rfl F S rfl rfl (vs := [.i6 y13.Code, .i6 y13.Index]) rfl ts28 (one_cons rfl (one_cons rfl one_nil)) (k := 0) rfl (lb rfl) (c' := #[.i6 y13.Code, .i6 y13.Index]) rfl rfl ?_; clear S; intro w S
            refine wpList_nil ?_
            refine then_n ?_
            refine wp_ret ?_
            refine inb_r ?_
            refine then_r ?_
            refine then_r ?_
            refine inb_r ?_
            refine then_r ?_
            refine inb_r ?_
            refine then_r ?_
            refine then_r ?_
            refine inb_r ?_
            refine then_r ?_
            obtain rfl := sinj hm
            obtain rfl := hfin3 _ rfl
            clear hm
            have hm : (some (Step.done (Sum.inl y13)) : Option (Step Int (Fault ⊕ Unit))) = some _ := hmo3
            obtain rfl := sinj hm
            obtain rfl := hfin2 _ rfl
            clear hm
            have hm : (some y13 : Option Fault) = some _ := hmo2
            obtain rfl := sinj hm
            refine post_r _ F rfl (ar_cons (resA rfl tu28 rfl (box_ptr (cells := [.i6 y13.Code, .i6 y13.Index]) 0 rfl 0 rfl (lb rfl) w S) ts28) ar_nil) ?_
            replace S : St g18 [] fr w := St.tail [] _ S
            exact ⟨_, rfl, g18, (((l12.trans l14).trans l17).trans l18), S, rfl⟩
           ·refine wp_condF F rfl hc15 ?_
            refine wp_skip ?_
            refine inb_n ?_
            refine then_n ?_
            refine wp_region_lit ?_
            refine wE (ev_move rfl) F S rfl fun a F=>?_
            obtain ⟨z6, hz6, hm⟩ := bind_some hm
            refine wE (ev_int rfl rfl (bo_add hz6)) F S rfl fun a F=>?_
            refine wE (ev_assign rfl) F S rfl fun a F=>?_
            refine wpList_nil ?_
            refine then_n ?_
            obtain rfl := sinj hm
            refine ⟨_, rfl, ?_⟩
            exact ⟨g17, F.sub ⟨rfl, rfl, rfl, rfl, rfl, trivial⟩, l17, S⟩
          ·refine wp_condF F rfl hc14 ?_
           refine wp_exit ?_
           refine then_e ?_
           refine then_e ?_
           refine inb_x ?_
           refine then_n ?_
           obtain rfl := sinj hm
           obtain rfl := hfin3 _ rfl
           clear hm
           have hm : (changeforgeref2_TableFault.j7 x10 : Option (Step Int (Fault ⊕ Unit))) = some _ := hmo3
           exact ⟨g17, F.sub ⟨rfl, rfl, rfl, rfl, trivial⟩, l17, S, hm⟩
        ·clear F S hm; rintro a w ⟨g16, F, l16, S, hm⟩
         refine inb_n ?_
         refine then_n ?_
         exact ⟨g16, F.sub ⟨rfl, rfl, rfl, rfl, trivial⟩, (l14.trans l16), S, hm⟩
      ·clear F S hm; rintro a w ⟨g13, F, l13, S, hm⟩
       refine wp_region_lit ?_
       refine wE (ev_move rfl) F S rfl fun a F=>?_
       obtain ⟨z3, hz3, hm⟩ := bind_some hm
       refine wE (ev_int rfl rfl (bo_add hz3)) F S rfl fun a F=>?_
       refine wE (ev_assign rfl) F S rfl fun a F=>?_
       refine wpList_nil ?_
       refine then_n ?_
       obtain rfl := sinj hm
       refine ⟨_, rfl, ?_⟩
       exact ⟨g13, F.sub ⟨rfl, rfl, rfl, rfl, trivial⟩, (l12.trans l13), S⟩
     ·refine wp_condF F rfl hc12 ?_
      refine wp_exit ?_
      refine then_e ?_
      refine then_e ?_
      refine inb_x ?_
      refine then_n ?_
      obtain rfl := sinj hm
      obtain rfl := hfin2 _ rfl
      clear hm
      have hm : (changeforgeref2_TableFault.j1 t_ : Option Fault) = some _ := hmo2
      exact ⟨g12, F.sub ⟨rfl, rfl, rfl, trivial⟩, l12, S, hm⟩
   ·clear F S hm; rintro a w ⟨g3, F, l3, S, hm⟩
    refine wp_cut (fun a w => ∃ (g4 : Gh), Fr 114 a [(2, bp b2 0)] ∧ Le g3 g4 ∧ St g4 [[bx b2 #[.i6 0, .i6 0] 28]] fr w ∧ changeforgeref2_TableFault.j2 = some r) ?_ ?_
    ·refine wp_seq ?_
     refine wp_region_lit ?_
     refine wE (ev_assign rfl) F S rfl fun a F=>?_
     refine wpList_nil ?_
     refine then_n ?_
     refine wp_block ?_
     obtain ⟨r1, hr1, hm⟩ := bind_some hm
     have hmo1 := hm; clear hm
     refine wp_iter (σ := Int) (ρ := Fault ⊕ Unit) (m := fun s => changeforgeref2_TableFault.l1 t_ s) (I := fun x2 a w => ∃ (g5 : Gh), Fr 114 a [(7, .i6 x2), (3, .i6 (t_.Columns.length : Int)), (2, bp b2 0), (1, bp b1 0)] ∧ Le g3 g5 ∧ St g5 [[bx b2 #[.i6 0, .i6 0] 28], [bx b1 #[vt_1, vt_2] 25]] fr w) hr1 ?_ ?_
     ·exact ⟨g3, F.sub ⟨rfl, rfl, rfl, rfl, trivial⟩, (Le.refl _), S⟩
     ·clear F S; rintro x2 a w x3 ⟨g5, F, l5, S⟩ hx2 hfin1
      have hm : changeforgeref2_TableFault.l1 t_ x2 = some x3 := hx2; clear hx2
      unfold changeforgeref2_TableFault.l1 at hm
      refine wp_seq ?_
      refine wp_seq ?_
      refine wp_region_lit ?_
      refine wE (ev_move rfl) F S rfl fun a F=>?_
      refine wE (ev_fieldAddr' tu25 tf25_1 (z := 0) ts23 rfl ⟨_, rfl⟩ rfl) F S rfl fun a F=>?_
      refine wE (ev_load1 tu23 rfl rfl (box_ptr (cells := [vt_2]) 1 rfl 1 rfl (lb rfl))) F S rfl fun a F=>?_
      refine wE (ev_lenSh ht_2 rfl tu23) F S rfl fun a F=>?_
      refine wE (ev_int rfl rfl (bo_lss _ _ _ _)) F S rfl fun a F=>?_
      refine wpList_nil ?_
      refine then_n ?_
      obtain ⟨hc4, hm⟩ | ⟨hc4, hm⟩ := ite_or hm
      ·refine wp_condT F rfl hc4 ?_
       refine wp_skip ?_
       refine then_n ?_
       refine wp_seq ?_
       refine wp_block ?_
       refine wp_seq ?_
       refine wp_region_lit ?_
       refine wE (ev_fieldAddr' tu25 tf25_1 (z := 0) ts23 rfl ⟨_, rfl⟩ rfl) F S rfl fun a F=>?_
       refine wE (ev_load1 tu23 rfl rfl (box_ptr (cells := [vt_2]) 1 rfl 1 rfl (lb rfl))) F S rfl fun a F=>?_
       refine wE (ev_move rfl) F S rfl fun a F=>?_
       obtain ⟨y3, hy3, hm⟩ := bind_some hm
       obtain ⟨cs1, hr2, hp1⟩ := elemS (ht_2.mono (l3.trans l5)) hy3
       obtain ⟨v1, rfl, h1⟩ := rep_Row hr2
       refine wE (ev_idxS (ht_2.mono (l3.trans l5)) hy3 tu23 ts54 rfl rfl) F S rfl fun a F=>?_
       refine wE (ev_loadA tu54 rfl (cs := [.string y3.Key, v1]) ts54 rfl (ptr_mono (cks := [[bx b2 #[.i6 0, .i6 0] 28], [bx b1 #[vt_1, vt_2] 25]]) (fr := fr) hp1 (Le.refl _))) F S rfl fun a F=>?_
       refine wl_alloc (wn rfl) rfl tz54 (cs := [.string ByteArray.empty, nilS]) rfl F S rfl rfl ?_; clear F a S; rintro b3 a w F S
       refine wl_storeC (wn rfl) rfl F S rfl rfl (vs := [.string y3.Key, v1]) rfl ts54 (one_cons rfl (one_cons h1.one one_nil)) (k := 0) rfl (lb rfl) (c' := #[.string y3.Key, v1]) rfl rfl ?_; clear S; intro w S
       refine wpList_nil ?_
       refine then_n ?_
       refine wp_seq ?_
       refine wp_region_lit ?_
       refine wE (ev_fieldAddr' tu54 tf54_0 (z := 0) ts9 rfl ⟨_, rfl⟩ rfl) F S rfl fun a F=>?_
       refine wE (ev_load1 tu9 rfl rfl (box_ptr (cells := [.string y3.Key]) 0 rfl 0 rfl (lb rfl))) F S rfl fun a F=>?_
       obtain ⟨y4, hy4, hm⟩ := bind_some hm
       refine wl_call0 (wn rfl) rfl F rfl (changeforgeref2_nameCode_ok (fr := (fl [[bx b3 #[.string y3.Key, v1] 54], [bx b2 #[.i6 0, .i6 0] 28], [bx b1 #[vt_1, vt_2] 25]] fr)) y3.Key S hy4) rfl tc43 rfl rfl ?_; clear F a S
       rintro _ a w ⟨g6, l6, S, rfl⟩ F; replace S : St g6 [[bx b3 #[.string y3.Key, v1] 54], [bx b2 #[.i6 0, .i6 0] 28], [bx b1 #[vt_1, vt_2] 25]] fr w := S
       refine wE (ev_assign rfl) F S rfl fun a F=>?_
       refine wpList_nil ?_
       refine then_n ?_
       refine wp_cut (fun a w => ∃ (x4 : Int) (g7 : Gh), Fr 114 a [(9, .i6 x4), (8, bp b3 0), (7, .i6 x2), (3, .i6 (t_.Columns.length : Int)), (2, bp b2 0), (1, bp b1 0)] ∧ Le g6 g7 ∧ St g7 [[bx b3 #[.string y3.Key, v1] 54], [bx b2 #[.i6 0, .i6 0] 28], [bx b1 #[vt_1, vt_2] 25]] fr w ∧ changeforgeref2_TableFault.j3 t_ x2 y3 x4 = some x3) ?_ ?_
       ·refine wp_seq ?_
        refine wp_region_lit ?_
        refine wE (ev_move rfl) F S rfl fun a F=>?_
        refine wE (ev_int rfl rfl (bo_eql _ _ _ _)) F S rfl fun a F=>?_
        refine wE (ev_move rfl) F S rfl fun a F=>?_
        obtain ⟨x9, hx5, hm⟩ := bind_some hm
        refine wl_cut 6 (fun a w' => w = w' ∧ Fr 114 a [(84, .bool x9), (9, .i6 y4), (8, bp b3 0), (7, .i6 x2), (3, .i6 (t_.Columns.length : Int)), (2, bp b2 0), (1, bp b1 0)]) ?_ ?_
        ·clear hm; obtain ⟨hc10, hm⟩ | ⟨hc10, hm⟩ := ite_or hx5
         ·refine wl_ev (wg F rfl rfl rfl rfl hc10) (ev_fieldAddr' tu54 tf54_1 (z := 0) ts22 rfl ⟨_, rfl⟩ rfl) F S rfl rfl ?_; clear F a; intro a F
          refine wl_ev (wg F rfl rfl rfl rfl hc10) (ev_load1 tu22 rfl rfl (box_ptr (cells := [v1]) 0 rfl 1 rfl (lb rfl))) F S rfl rfl ?_; clear F a; intro a F
          refine wl_ev (wg F rfl rfl rfl rfl hc10) (ev_lenSh h1 rfl tu22) F S rfl rfl ?_; clear F a; intro a F
          refine wl_ev (wg F rfl rfl rfl rfl hc10) (ev_move rfl) F S rfl rfl ?_; clear F a; intro a F
          refine wl_ev (wg F rfl rfl rfl rfl hc10) (ev_int rfl rfl (bo_neq _ _ _ _)) F S rfl rfl ?_; clear F a; intro a F
          refine wE (ev_pickT rfl hc10 rfl) F S rfl fun a F=>?_
          obtain rfl := sinj hm
          refine wpList_nil (then_n ?_); exact ⟨rfl, F.sub ⟨rfl, rfl, rfl, rfl, rfl, rfl, rfl, trivial⟩⟩
         ·refine wl_skip rfl rfl rfl rfl (ne_tf hc10) F rfl rfl ?_; clear F a; intro a F
          refine wl_skip rfl rfl rfl rfl (ne_tf hc10) F rfl rfl ?_; clear F a; intro a F
          refine wl_skip rfl rfl rfl rfl (ne_tf hc10) F rfl rfl ?_; clear F a; intro a F
          refine wl_skip rfl rfl rfl rfl (ne_tf hc10) F rfl rfl ?_; clear F a; intro a F
          refine wl_skip rfl rfl rfl rfl (ne_tf hc10) F rfl rfl ?_; clear F a; intro a F
          refine wE (ev_pickF rfl hc10 rfl) F S rfl fun a F=>?_
          obtain rfl := sinj hm
          refine wpList_nil (then_n ?_); exact ⟨rfl, F.sub ⟨rfl, rfl, rfl, rfl, rfl, rfl, rfl, trivial⟩⟩
        clear F; rintro a w' ⟨rfl, F⟩
        refine wpList_nil ?_
        refine then_n ?_
        obtain ⟨hc11, hm⟩ | ⟨hc11, hm⟩ := ite_or hm
        ·refine wp_condT F rfl hc11 ?_
         refine wp_region_lit ?_
         refine wE (ev_assign rfl) F S rfl fun a F=>?_
         refine wpList_nil ?_
         refine then_n ?_
         exact ⟨9, g6, F.sub ⟨rfl, rfl, rfl, rfl, rfl, rfl, trivial⟩, (Le.refl _), S, hm⟩
        ·refine wp_condF F rfl hc11 ?_
         refine wp_skip ?_
         refine then_n ?_
         exact ⟨y4, g6, F.sub ⟨rfl, rfl, rfl, rfl, rfl, rfl, trivial⟩, (Le.refl _), S, hm⟩
       ·clear F S hm; rintro a w ⟨x4, g7, F, l7, S, hm⟩
        refine wp_cut (fun a w => ∃ (x5 : Int) (g8 : Gh), Fr 114 a [(9, .i6 x5), (8, bp b3 0), (7, .i6 x2), (3, .i6 (t_.Columns.length : Int)), (2, bp b2 0), (1, bp b1 0)] ∧ Le g7 g8 ∧ St g8 [[bx b3 #[.string y3.Key, v1] 54], [bx b2 #[.i6 0, .i6 0] 28], [bx b1 #[vt_1, vt_2] 25]] fr w ∧ changeforgeref2_TableFault.j4 t_ x2 y3 x5 = some x3) ?_ ?_
        ·refine wp_seq ?_
         refine wp_region_lit ?_
         refine wE (ev_move rfl) F S rfl fun a F=>?_
         refine wE (ev_int rfl rfl (bo_eql _ _ _ _)) F S rfl fun a F=>?_
         refine wpList_nil ?_
         refine then_n ?_
         obtain ⟨hc9, hm⟩ | ⟨hc9, hm⟩ := ite_or hm
         ·refine wp_condT F rfl hc9 ?_
          refine wp_region_lit ?_
          refine wE (ev_fieldAddr' tu54 tf54_1 (z := 0) ts22 rfl ⟨_, rfl⟩ rfl) F S rfl fun a F=>?_
          refine wE (ev_load1 tu22 rfl rfl (box_ptr (cells := [v1]) 0 rfl 1 rfl (lb rfl))) F S rfl fun a F=>?_
          obtain ⟨y7, hy7, hm⟩ := bind_some hm
          refine wl_call0 (wn rfl) rfl F rfl (changeforgeref1_LinesCode_ok (fr := (fl [[bx b3 #[.string y3.Key, v1] 54], [bx b2 #[.i6 0, .i6 0] 28], [bx b1 #[vt_1, vt_2] 25]] fr)) y3.Cells v1 (h1.mono (l6.trans l7)) S hy7) rfl tc44 rfl rfl ?_; clear F a S
          rintro _ a w ⟨g11, l11, S, rfl⟩ F; replace S : St g11 [[bx b3 #[.string y3.Key, v1] 54], [bx b2 #[.i6 0, .i6 0] 28], [bx b1 #[vt_1, vt_2] 25]] fr w := S
          refine wE (ev_assign rfl) F S rfl fun a F=>?_
          refine wpList_nil ?_
          refine then_n ?_
          exact ⟨y7, g11, F.sub ⟨rfl, rfl, rfl, rfl, rfl, rfl, trivial⟩, l11, S, hm⟩
         ·refine wp_condF F rfl hc9 ?_
          refine wp_skip ?_
          refine then_n ?_
          exact ⟨x4, g7, F.sub ⟨rfl, rfl, rfl, rfl, rfl, rfl, trivial⟩, (Le.refl _), S, hm⟩
        ·clear F S hm; rintro a w ⟨x5, g8, F, l8, S, hm⟩
         refine wp_cut (fun a w => ∃ (x6 : Int) (g9 : Gh), Fr 114 a [(9, .i6 x6), (7, .i6 x2), (3, .i6 (t_.Columns.length : Int)), (2, bp b2 0), (1, bp b1 0)] ∧ Le g8 g9 ∧ St g9 [[bx b2 #[.i6 0, .i6 0] 28], [bx b1 #[vt_1, vt_2] 25]] fr w ∧ changeforgeref2_TableFault.j5 x2 x6 = some x3) ?_ ?_
         ·refine wp_seq ?_
          refine wp_quiet mo (by kernel_rfl) S ?_
          refine wq_ev (wn rfl) (ev_move rfl) F rfl rfl ?_; clear F a; intro a F
          refine wq_ev (wn rfl) (ev_int rfl rfl (bo_eql _ _ _ _)) F rfl rfl ?_; clear F a; intro a F
          refine wq_ev (wn rfl) (ev_move rfl) F rfl rfl ?_; clear F a; intro a F
          obtain ⟨x7, hx3, hm⟩ := bind_some hm
          refine wq_cut 3 (fun a => Fr 114 a [(95, .bool x7), (9, .i6 x5), (8, bp b3 0), (7, .i6 x2), (3, .i6 (t_.Columns.length : Int)), (2, bp b2 0), (1, bp b1 0)]) ?_ ?_
          ·clear hm; obtain ⟨hc6, hm⟩ | ⟨hc6, hm⟩ := ite_or hx3
           ·refine wq_ev (wg F rfl rfl rfl rfl hc6) (ev_move rfl) F rfl rfl ?_; clear F a; intro a F
            refine wq_ev (wg F rfl rfl rfl rfl hc6) (ev_int rfl rfl (bo_gtr _ _ _ _)) F rfl rfl ?_; clear F a; intro a F
            refine wq_ev (wn rfl) (ev_pickT rfl hc6 rfl) F rfl rfl ?_; clear F a; intro a F
            obtain rfl := sinj hm
            refine wq_nil ?_; exact F.sub ⟨rfl, rfl, rfl, rfl, rfl, rfl, rfl, trivial⟩
           ·refine wq_skip rfl rfl rfl rfl (ne_tf hc6) F rfl rfl ?_; clear F a; intro a F
            refine wq_skip rfl rfl rfl rfl (ne_tf hc6) F rfl rfl ?_; clear F a; intro a F
            refine wq_ev (wn rfl) (ev_pickF rfl hc6 rfl) F rfl rfl ?_; clear F a; intro a F
            obtain rfl := sinj hm
            refine wq_nil ?_; exact F.sub ⟨rfl, rfl, rfl, rfl, rfl, rfl, rfl, trivial⟩
          clear F; intro a F
          refine wq_ev (wn rfl) (ev_move rfl) F rfl rfl ?_; clear F a; intro a F
          obtain ⟨x8, hx4, hm⟩ := bind_some hm
          refine wq_cut 11 (fun a => Fr 114 a [(107, .bool x8), (9, .i6 x5), (7, .i6 x2), (3, .i6 (t_.Columns.length : Int)), (2, bp b2 0), (1, bp b1 0)]) ?_ ?_
          ·clear hm; obtain ⟨hc7, hm⟩ | ⟨hc7, hm⟩ := ite_or hx4
           ·refine wq_ev (wg F rfl rfl rfl rfl hc7) (ev_fieldAddr' tu54 tf54_0 (z := 0) ts9 rfl ⟨_, rfl⟩ rfl) F rfl rfl ?_; clear F a; intro a F
            refine wq_ev (wg F rfl rfl rfl rfl hc7) (ev_load1 tu9 rfl rfl (box_ptr (cells := [.string y3.Key]) 0 rfl 0 rfl (lb rfl))) F rfl rfl ?_; clear F a; intro a F
            refine wq_ev (wg F rfl rfl rfl rfl hc7) (ev_fieldAddr' tu25 tf25_1 (z := 0) ts23 rfl ⟨_, rfl⟩ rfl) F rfl rfl ?_; clear F a; intro a F
            refine wq_ev (wg F rfl rfl rfl rfl hc7) (ev_load1 tu23 rfl rfl (box_ptr (cells := [vt_2]) 2 rfl 1 rfl (lb rfl))) F rfl rfl ?_; clear F a; intro a F
            refine wq_ev (wg F rfl rfl rfl rfl hc7) (ev_move rfl) F rfl rfl ?_; clear F a; intro a F
            obtain ⟨z2, hz2, hm⟩ := bind_some hm
            refine wq_ev (wg F rfl rfl rfl rfl hc7) (ev_int rfl rfl (bo_sub hz2)) F rfl rfl ?_; clear F a; intro a F
            obtain ⟨y6, hy6, hm⟩ := bind_some hm
            obtain ⟨cs2, hr3, hp2⟩ := elemS (ht_2.mono ((((l3.trans l5).trans l6).trans l7).trans l8)) hy6
            obtain ⟨v2, rfl, h2⟩ := rep_Row hr3
            refine wq_ev (wg F rfl rfl rfl rfl hc7) (ev_idxS (ht_2.mono ((((l3.trans l5).trans l6).trans l7).trans l8)) hy6 tu23 ts54 rfl rfl) F rfl rfl ?_; clear F a; intro a F
            have hp3 := PtrC.field hp2 0 1 (lb rfl)
            have hp3 : PtrC g8 (addP (elemP vt_2 z2 2) 0) [.string y6.Key] := hp3
            refine wq_ev (wg F rfl rfl rfl rfl hc7) (ev_fieldAddr' tu54 tf54_0 (z := 0) ts9 rfl hp2.ptr rfl) F rfl rfl ?_; clear F a; intro a F
            refine wq_ev (wg F rfl rfl rfl rfl hc7) (ev_load1 tu9 rfl rfl (ptr_mono (cks := [[bx b3 #[.string y3.Key, v1] 54], [bx b2 #[.i6 0, .i6 0] 28], [bx b1 #[vt_1, vt_2] 25]]) (fr := fr) hp3 (Le.refl _))) F rfl rfl ?_; clear F a; intro a F
            refine wq_ev (wg F rfl rfl rfl rfl hc7) (ev_str rfl rfl (bs_leq _ _ _)) F rfl rfl ?_; clear F a; intro a F
            refine wq_ev (wn rfl) (ev_pickT rfl hc7 rfl) F rfl rfl ?_; clear F a; intro a F
            obtain rfl := sinj hm
            refine wq_nil ?_; exact F.sub ⟨rfl, rfl, rfl, rfl, rfl, rfl, trivial⟩
           ·refine wq_skip rfl rfl rfl rfl (ne_tf hc7) F rfl rfl ?_; clear F a; intro a F
            refine wq_skip rfl rfl rfl rfl (ne_tf hc7) F rfl rfl ?_; clear F a; intro a F
            refine wq_skip rfl rfl rfl rfl (ne_tf hc7) F rfl rfl ?_; clear F a; intro a F
            refine wq_skip rfl rfl rfl rfl (ne_tf hc7) F rfl rfl ?_; clear F a; intro a F
            refine wq_skip rfl rfl rfl rfl (ne_tf hc7) F rfl rfl ?_; clear F a; intro a F
            refine wq_skip rfl rfl rfl rfl (ne_tf hc7) F rfl rfl ?_; clear F a; intro a F
            refine wq_skip rfl rfl rfl rfl (ne_tf hc7) F rfl rfl ?_; clear F a; intro a F
            refine wq_skip rfl rfl rfl rfl (ne_tf hc7) F rfl rfl ?_; clear F a; intro a F
            refine wq_skip rfl rfl rfl rfl (ne_tf hc7) F rfl rfl ?_; clear F a; intro a F
            refine wq_skip rfl rfl rfl rfl (ne_tf hc7) F rfl rfl ?_; clear F a; intro a F
            refine wq_ev (wn rfl) (ev_pickF rfl hc7 rfl) F rfl rfl ?_; clear F a; intro a F
            obtain rfl := sinj hm
            refine wq_nil ?_; exact F.sub ⟨rfl, rfl, rfl, rfl, rfl, rfl, trivial⟩
          clear F; intro a F
          refine wq_nil ?_; clear S; intro w S
          refine then_n ?_
          obtain ⟨hc8, hm⟩ | ⟨hc8, hm⟩ := ite_or hm
          ·refine wp_condT F rfl hc8 ?_
           refine wp_region_lit ?_
           refine wE (ev_assign rfl) F S rfl fun a F=>?_
           refine wpList_nil ?_
           refine then_n ?_
           replace S : St g8 [[bx b2 #[.i6 0, .i6 0] 28], [bx b1 #[vt_1, vt_2] 25]] fr w := St.tail [[bx b2 #[.i6 0, .i6 0] 28], [bx b1 #[vt_1, vt_2] 25]] _ ((S.frontC 2 rfl).frontC 2 rfl)
           exact ⟨5, g8, F.sub ⟨rfl, rfl, rfl, rfl, rfl, trivial⟩, (Le.refl _), S, hm⟩
          ·refine wp_condF F rfl hc8 ?_
           refine wp_skip ?_
           refine then_n ?_
           replace S : St g8 [[bx b2 #[.i6 0, .i6 0] 28], [bx b1 #[vt_1, vt_2] 25]] fr w := St.tail [[bx b2 #[.i6 0, .i6 0] 28], [bx b1 #[vt_1, vt_2] 25]] _ ((S.frontC 2 rfl).frontC 2 rfl)
           exact ⟨x5, g8, F.sub ⟨rfl, rfl, rfl, rfl, rfl, trivial⟩, (Le.refl _), S, hm⟩
         ·clear F S hm; rintro a w ⟨x6, g9, F, l9, S, hm⟩
          refine wp_seq ?_
          refine wp_region_lit ?_
          refine wE (ev_move rfl) F S rfl fun a F=>?_
          refine wE (ev_int rfl rfl (bo_neq _ _ _ _)) F S rfl fun a F=>?_
          refine wpList_nil ?_
          refine then_n ?_
          obtain ⟨hc5, hm⟩ | ⟨hc5, hm⟩ := ite_or hm
          ·refine wp_condT F rfl hc5 ?_
           refine wp_seq ?_
           refine wp_region_lit ?_
           refine wE (ev_move rfl) F S rfl fun a F=>?_
           refine wE (ev_move rfl) F S rfl fun a F=>?_
           obtain ⟨y5, hy5, hm⟩ := bind_some hm
           refine wl_call0 (wn rfl) rfl F rfl (changeforgeref1_At_ok (fr := (fl [[bx b2 #[.i6 0, .i6 0] 28], [bx b1 #[vt_1, vt_2] 25]] fr)) x6 x2 S hy5) rfl tc34 rfl rfl ?_; clear F a S
           rintro _ a w ⟨g10, l10, S, rfl⟩ F; replace S : St g10 [[bx b2 #[.i6 0, .i6 0] 28], [bx b1 #[vt_1, vt_2] 25]] fr w := S
           refine wl_storeC (wn rfl) rfl F S rfl rfl (vs := [.i6 y5.Code, .i6 y5.Index]) rfl ts28 (one_cons rfl (one_cons rfl one_nil)) (k := 0) rfl (lb rfl) (c' := #[.i6 y5.Code, .i6 y5.Index]) rfl rfl ?_; clear S; intro w S
           refine wpList_nil ?_
           refine then_n ?_
           refine wp_ret ?_
           refine inb_r ?_
           refine then_r ?_
           refine then_r ?_
           refine inb_r ?_
           refine then_r ?_
           obtain rfl := sinj hm
           obtain rfl := hfin1 _ rfl
           clear hm
           have hm : (some y5 : Option Fault) = some _ := hmo1
           obtain rfl := sinj hm
           refine post_r _ F rfl (ar_cons (resA rfl tu28 rfl (box_ptr (cells := [.i6 y5.Code, .i6 y5.Index]) 0 rfl 0 rfl (lb rfl) w S) ts28) ar_nil) ?_
           replace S : St g10 [] fr w := St.tail [] _ S
           exact ⟨_, rfl, g10, ((((((l3.trans l5).trans l6).trans l7).trans l8).trans l9).trans l10), S, rfl⟩
          ·refine wp_condF F rfl hc5 ?_
           refine wp_skip ?_
           refine inb_n ?_
           refine then_n ?_
           refine wp_region_lit ?_
           refine wE (ev_move rfl) F S rfl fun a F=>?_
           obtain ⟨z1, hz1, hm⟩ := bind_some hm
           refine wE (ev_int rfl rfl (bo_add hz1)) F S rfl fun a F=>?_
           refine wE (ev_assign rfl) F S rfl fun a F=>?_
           refine wpList_nil ?_
           refine then_n ?_
           obtain rfl := sinj hm
           refine ⟨_, rfl, ?_⟩
           exact ⟨g9, F.sub ⟨rfl, rfl, rfl, rfl, trivial⟩, ((((l5.trans l6).trans l7).trans l8).trans l9), S⟩
      ·refine wp_condF F rfl hc4 ?_
       refine wp_exit ?_
       refine then_e ?_
       refine then_e ?_
       refine inb_x ?_
       refine then_n ?_
       obtain rfl := sinj hm
       obtain rfl := hfin1 _ rfl
       clear hm
       have hm : (changeforgeref2_TableFault.j2 : Option Fault) = some _ := hmo1
       replace S : St g5 [[bx b2 #[.i6 0, .i6 0] 28]] fr w := St.tail [[bx b2 #[.i6 0, .i6 0] 28]] _ (S.frontC 0 rfl)
       exact ⟨g5, F.sub ⟨rfl, trivial⟩, l5, S, hm⟩
    ·clear F S hm; rintro a w ⟨g4, F, l4, S, hm⟩
     refine wp_seq ?_
     refine wp_region_lit ?_
     refine wE (ev_build (parts := []) (vs := []) rfl (fun w => tb28_  w)) F S rfl fun a F=>?_
     refine wl_storeC (wn rfl) rfl F S rfl rfl (vs := [.i6 0, .i6 0]) rfl ts28 (one_cons rfl (one_cons rfl one_nil)) (k := 0) rfl (lb rfl) (c' := #[.i6 0, .i6 0]) rfl rfl ?_; clear S; intro w S
     refine wpList_nil ?_
     refine then_n ?_
     refine wp_ret ?_
     obtain rfl := sinj hm
     refine post_r _ F rfl (ar_cons (resA rfl tu28 rfl (box_ptr (cells := [.i6 0, .i6 0]) 0 rfl 0 rfl (lb rfl) w S) ts28) ar_nil) ?_
     replace S : St g4 [] fr w := St.tail [] _ S
     exact ⟨_, rfl, g4, (l3.trans l4), S, rfl⟩

theorem changeforgeref1_Equal_ok {g : Gh} {fr : Hl} {w : World} {r : Bool} (a_ : (List ByteArray)) (va_1 : Value) (ha_1 : RepSl g a_ va_1) (b_ : (List ByteArray)) (vb_1 : Value) (hb_1 : RepSl g b_ vb_1) (S : St g [] fr w) (hm : changeforgeref1_Equal a_ b_ = some r) :
  Calls Try.prog 33 [va_1, vb_1].toArray w (fun en w' => ∃ v, en = .returned v ∧ ∃ (g' : Gh), Le g g' ∧ St g' [] fr w' ∧ .bool r = v) := by
 unfold changeforgeref1_Equal at hm
 refine calls_enter (fn := Try.f33) Try.func33 rfl Try.ntmps33 (lb rfl) ?_
 intro a F
 replace F : Fr 26 a [(0, va_1), (1, vb_1)] := F
 refine wp_seq ?_
 refine wp_region_lit ?_
 refine wE (ev_assign rfl) F S rfl fun a F=>?_
 refine wpList_nil ?_
 refine then_n ?_
 refine wp_seq ?_
 refine wp_seq ?_
 refine wp_region_lit ?_
 refine wE (ev_move rfl) F S rfl fun a F=>?_
 refine wE (ev_lenSh ha_1 rfl tu22) F S rfl fun a F=>?_
 refine wE (ev_move rfl) F S rfl fun a F=>?_
 refine wE (ev_lenSh hb_1 rfl tu22) F S rfl fun a F=>?_
 refine wE (ev_int rfl rfl (bo_neq _ _ _ _)) F S rfl fun a F=>?_
 refine wpList_nil ?_
 refine then_n ?_
 obtain ⟨hc1, hm⟩ | ⟨hc1, hm⟩ := ite_or hm
 ·refine wp_condT F rfl hc1 ?_
  refine wp_seq ?_
  refine wp_region_lit ?_
  refine wE (ev_assign rfl) F S rfl fun a F=>?_
  refine wpList_nil ?_
  refine then_n ?_
  refine wp_ret ?_
  refine then_r ?_
  obtain rfl := sinj hm
  refine post_r _ F rfl (ar_cons (resT rfl) ar_nil) ?_
  exact ⟨_, rfl, g, (Le.refl _), S, rfl⟩
 ·refine wp_condF F rfl hc1 ?_
  refine wp_skip ?_
  refine then_n ?_
  refine wp_cut (fun a w => ∃ (g1 : Gh), Fr 26 a [] ∧ Le g g1 ∧ St g1 [] fr w ∧ changeforgeref1_Equal.j1 = some r) ?_ ?_
  ·refine wp_seq ?_
   refine wp_region_lit ?_
   refine wE (ev_assign rfl) F S rfl fun a F=>?_
   refine wpList_nil ?_
   refine then_n ?_
   refine wp_block ?_
   obtain ⟨r1, hr1, hm⟩ := bind_some hm
   have hmo1 := hm; clear hm
   refine wp_iter (σ := Int) (ρ := Bool ⊕ Unit) (m := fun s => changeforgeref1_Equal.l1 a_ b_ s) (I := fun x1 a w => ∃ (g2 : Gh), Fr 26 a [(5, .i6 x1), (0, va_1), (1, vb_1)] ∧ Le g g2 ∧ St g2 [] fr w) hr1 ?_ ?_
   ·exact ⟨g, F.sub ⟨rfl, rfl, rfl, trivial⟩, (Le.refl _), S⟩
   ·clear F S; rintro x1 a w x2 ⟨g2, F, l2, S⟩ hx1 hfin1
    have hm : changeforgeref1_Equal.l1 a_ b_ x1 = some x2 := hx1; clear hx1
    unfold changeforgeref1_Equal.l1 at hm
    refine wp_seq ?_
    refine wp_seq ?_
    refine wp_region_lit ?_
    refine wE (ev_move rfl) F S rfl fun a F=>?_
    refine wE (ev_move rfl) F S rfl fun a F=>?_
    refine wE (ev_lenSh ha_1 rfl tu22) F S rfl fun a F=>?_
    refine wE (ev_int rfl rfl (bo_lss _ _ _ _)) F S rfl fun a F=>?_
    refine wpList_nil ?_
    refine then_n ?_
    obtain ⟨hc2, hm⟩ | ⟨hc2, hm⟩ := ite_or hm
    ·refine wp_condT F rfl hc2 ?_
     refine wp_skip ?_
     refine then_n ?_
     refine wp_seq ?_
     refine wp_block ?_
     refine wp_seq ?_
     refine wp_quiet mo (by kernel_rfl) S ?_
     refine wq_ev (wn rfl) (ev_move rfl) F rfl rfl ?_; clear F a; intro a F
     refine wq_ev (wn rfl) (ev_move rfl) F rfl rfl ?_; clear F a; intro a F
     obtain ⟨y1, hy1, hm⟩ := bind_some hm
     obtain ⟨cs1, hr2, hp1⟩ := elemS (ha_1.mono l2) hy1
     obtain rfl := rep_str hr2
     refine wq_ev (wn rfl) (ev_idxS (ha_1.mono l2) hy1 tu22 ts9 rfl rfl) F rfl rfl ?_; clear F a; intro a F
     refine wq_ev (wn rfl) (ev_load1 tu9 rfl rfl (ptr_mono (cks := []) (fr := fr) hp1 (Le.refl _))) F rfl rfl ?_; clear F a; intro a F
     refine wq_ev (wn rfl) (ev_move rfl) F rfl rfl ?_; clear F a; intro a F
     refine wq_ev (wn rfl) (ev_move rfl) F rfl rfl ?_; clear F a; intro a F
     obtain ⟨y2, hy2, hm⟩ := bind_some hm
     obtain ⟨cs2, hr3, hp2⟩ := elemS (hb_1.mono l2) hy2
     obtain rfl := rep_str hr3
     refine wq_ev (wn rfl) (ev_idxS (hb_1.mono l2) hy2 tu22 ts9 rfl rfl) F rfl rfl ?_; clear F a; intro a F
     refine wq_ev (wn rfl) (ev_load1 tu9 rfl rfl (ptr_mono (cks := []) (fr := fr) hp2 (Le.refl _))) F rfl rfl ?_; clear F a; intro a F
     refine wq_ev (wn rfl) (ev_str rfl rfl (bs_neq _ _ _)) F rfl rfl ?_; clear F a; intro a F
     refine wq_nil ?_; clear S; intro w S
     refine then_n ?_
     obtain ⟨hc3, hm⟩ | ⟨hc3, hm⟩ := ite_or hm
     ·refine wp_condT F rfl hc3 ?_
      refine wp_seq ?_
      refine wp_region_lit ?_
      refine wE (ev_assign rfl) F S rfl fun a F=>?_
      refine wpList_nil ?_
      refine then_n ?_
      refine wp_ret ?_
      refine inb_r ?_
      refine then_r ?_
      refine then_r ?_
      refine inb_r ?_
      refine then_r ?_
      obtain rfl := sinj hm
      obtain rfl := hfin1 _ rfl
      clear hm
      have hm : (some false : Option Bool) = some _ := hmo1
      obtain rfl := sinj hm
      refine post_r _ F rfl (ar_cons (resT rfl) ar_nil) ?_
      exact ⟨_, rfl, g2, l2, S, rfl⟩
     ·refine wp_condF F rfl hc3 ?_
      refine wp_skip ?_
      refine inb_n ?_
      refine then_n ?_
      refine wp_region_lit ?_
      refine wE (ev_move rfl) F S rfl fun a F=>?_
      obtain ⟨z1, hz1, hm⟩ := bind_some hm
      refine wE (ev_int rfl rfl (bo_add hz1)) F S rfl fun a F=>?_
      refine wE (ev_assign rfl) F S rfl fun a F=>?_
      refine wpList_nil ?_
      refine then_n ?_
      obtain rfl := sinj hm
      refine ⟨_, rfl, ?_⟩
      exact ⟨g2, F.sub ⟨rfl, rfl, rfl, trivial⟩, l2, S⟩
    ·refine wp_condF F rfl hc2 ?_
     refine wp_exit ?_
     refine then_e ?_
     refine then_e ?_
     refine inb_x ?_
     refine then_n ?_
     obtain rfl := sinj hm
     obtain rfl := hfin1 _ rfl
     clear hm
     have hm : (changeforgeref1_Equal.j1 : Option Bool) = some _ := hmo1
     exact ⟨g2, F.sub trivial, l2, S, hm⟩
  ·clear F S hm; rintro a w ⟨g1, F, l1, S, hm⟩
   refine wp_seq ?_
   refine wp_region_lit ?_
   refine wE (ev_assign rfl) F S rfl fun a F=>?_
   refine wpList_nil ?_
   refine then_n ?_
   refine wp_ret ?_
   obtain rfl := sinj hm
   refine post_r _ F rfl (ar_cons (resT rfl) ar_nil) ?_
   exact ⟨_, rfl, g1, l1, S, rfl⟩

theorem changeforgeref2_TwoTables_ok {g : Gh} {fr : Hl} {w : World} {r : Fault} (a_ : Table) (va_1 : Value) (ha_1 : RepSl g a_.Columns va_1) (va_2 : Value) (ha_2 : RepSl g a_.Rows va_2) (b_ : Table) (vb_1 : Value) (hb_1 : RepSl g b_.Columns vb_1) (vb_2 : Value) (hb_2 : RepSl g b_.Rows vb_2) (at_ : Int) (S : St g [] fr w) (hm : changeforgeref2_TwoTables a_ b_ at_ = some r) :
  Calls Try.prog 30 [.agg #[va_1, va_2], .agg #[vb_1, vb_2], .i6 at_].toArray w (fun en w' => ∃ v, en = .returned v ∧ ∃ (g' : Gh), Le g g' ∧ St g' [] fr w' ∧ .agg #[.i6 r.Code, .i6 r.Index] = v) := by
 unfold changeforgeref2_TwoTables at hm
 refine calls_enter (fn := Try.f30) Try.func30 rfl Try.ntmps30 (lb rfl) ?_
 intro a F
 replace F : Fr 38 a [(0, .agg #[va_1, va_2]), (1, .agg #[vb_1, vb_2]), (2, .i6 at_)] := F
 refine wp_seq ?_
 refine wp_region_lit ?_
 refine wl_boxC (wn rfl) rfl rfl rfl F S rfl rfl ?_; clear F a S; rintro b1 a w F S
 refine wl_boxC (wn rfl) rfl rfl rfl F S rfl rfl ?_; clear F a S; rintro b2 a w F S
 refine wl_alloc (wn rfl) rfl tz28 (cs := [.i6 0, .i6 0]) rfl F S rfl rfl ?_; clear F a S; rintro b3 a w F S
 refine wpList_nil ?_
 refine then_n ?_
 refine wp_seq ?_
 refine wp_region_lit ?_
 refine wE (ev_loadA tu25 rfl (cs := [va_1, va_2]) ts25 rfl (box_ptr (cells := [va_1, va_2]) 2 rfl 0 rfl (lb rfl))) F S rfl fun a F=>?_
 obtain ⟨y1, hy1, hm⟩ := bind_some hm
 refine wl_call0 (wn rfl) rfl F rfl (changeforgeref2_TableFault_ok (fr := (fl [[bx b3 #[.i6 0, .i6 0] 28], [bx b2 #[vb_1, vb_2] 25], [bx b1 #[va_1, va_2] 25]] fr)) a_ va_1 ha_1 va_2 ha_2 S hy1) rfl tc22 rfl rfl ?_; clear F a S
 rintro _ a w ⟨g1, l1, S, rfl⟩ F; replace S : St g1 [[bx b3 #[.i6 0, .i6 0] 28], [bx b2 #[vb_1, vb_2] 25], [bx b1 #[va_1, va_2] 25]] fr w := S
 refine wl_alloc (wn rfl) rfl tz28 (cs := [.i6 0, .i6 0]) rfl F S rfl rfl ?_; clear F a S; rintro b4 a w F S
 refine wl_storeC (wn rfl) rfl F S rfl rfl (vs := [.i6 y1.Code, .i6 y1.Index]) rfl ts28 (one_cons rfl (one_cons rfl one_nil)) (k := 0) rfl (lb rfl) (c' := #[.i6 y1.Code, .i6 y1.Index]) rfl rfl ?_; clear S; intro w S
 refine wpList_nil ?_
 refine then_n ?_
 refine wp_cut (fun a w => ∃ (x1 : Int) (x2 : Int) (g2 : Gh), Fr 38 a [(7, bp b4 0), (6, bp b3 0), (4, bp b2 0), (3, bp b1 0), (2, .i6 at_)] ∧ Le g1 g2 ∧ St g2 [[bx b4 #[.i6 x1, .i6 x2] 28], [bx b3 #[.i6 0, .i6 0] 28], [bx b2 #[vb_1, vb_2] 25], [bx b1 #[va_1, va_2] 25]] fr w ∧ changeforgeref2_TwoTables.j1 a_ b_ at_ x1 x2 = some r) ?_ ?_
 ·refine wp_seq ?_
  refine wp_region_lit ?_
  refine wE (ev_fieldAddr' tu28 tf28_0 (z := 0) ts3 rfl ⟨_, rfl⟩ rfl) F S rfl fun a F=>?_
  refine wE (ev_load1 tu3 rfl rfl (box_ptr (cells := [.i6 y1.Code]) 0 rfl 0 rfl (lb rfl))) F S rfl fun a F=>?_
  refine wE (ev_int rfl rfl (bo_eql _ _ _ _)) F S rfl fun a F=>?_
  refine wE (ev_move rfl) F S rfl fun a F=>?_
  obtain ⟨x6, hx2, hm⟩ := bind_some hm
  refine wl_cut 5 (fun a w => ∃ g7, Fr 38 a [(18, .bool x6), (7, bp b4 0), (6, bp b3 0), (4, bp b2 0), (3, bp b1 0), (2, .i6 at_)] ∧ Le g1 g7 ∧ St g7 [[bx b4 #[.i6 y1.Code, .i6 y1.Index] 28], [bx b3 #[.i6 0, .i6 0] 28], [bx b2 #[vb_1, vb_2] 25], [bx b1 #[va_1, va_2] 25]] fr w) ?_ ?_
  ·clear hm; obtain ⟨hc3, hm⟩ | ⟨hc3, hm⟩ := ite_or hx2
   ·refine wl_ev (wg F rfl rfl rfl rfl hc3) (ev_loadA tu25 rfl (cs := [vb_1, vb_2]) ts25 rfl (box_ptr (cells := [vb_1, vb_2]) 2 rfl 0 rfl (lb rfl))) F S rfl rfl ?_; clear F a; intro a F
    obtain ⟨y4, hy4, hm⟩ := bind_some hm
    refine wl_call0 (wg F rfl rfl rfl rfl hc3) rfl F rfl (changeforgeref2_TableFault_ok (fr := (fl [[bx b4 #[.i6 y1.Code, .i6 y1.Index] 28], [bx b3 #[.i6 0, .i6 0] 28], [bx b2 #[vb_1, vb_2] 25], [bx b1 #[va_1, va_2] 25]] fr)) b_ vb_1 (hb_1.mono l1) vb_2 (hb_2.mono l1) S hy4) rfl tc22 rfl rfl ?_; clear F a S
    rintro _ a w ⟨g8, l8, S, rfl⟩ F; replace S : St g8 [[bx b4 #[.i6 y1.Code, .i6 y1.Index] 28], [bx b3 #[.i6 0, .i6 0] 28], [bx b2 #[vb_1, vb_2] 25], [bx b1 #[va_1, va_2] 25]] fr w := S
    refine wl_ev (wg F rfl rfl rfl rfl hc3) (ev_field1 tu28 tf28_0 tu3 rfl (cs := [.i6 y4.Code, .i6 y4.Index]) rfl rfl) F S rfl rfl ?_; clear F a; intro a F
    refine wl_ev (wg F rfl rfl rfl rfl hc3) (ev_int rfl rfl (bo_neq _ _ _ _)) F S rfl rfl ?_; clear F a; intro a F
    refine wE (ev_pickT rfl hc3 rfl) F S rfl fun a F=>?_
    obtain rfl := sinj hm
    refine wpList_nil (then_n ?_); exact ⟨g8, F.sub ⟨rfl, rfl, rfl, rfl, rfl, rfl, trivial⟩, l8, S⟩
   ·refine wl_skip rfl rfl rfl rfl (ne_tf hc3) F rfl rfl ?_; clear F a; intro a F
    refine wl_skip rfl rfl rfl rfl (ne_tf hc3) F rfl rfl ?_; clear F a; intro a F
    refine wl_skip rfl rfl rfl rfl (ne_tf hc3) F rfl rfl ?_; clear F a; intro a F
    refine wl_skip rfl rfl rfl rfl (ne_tf hc3) F rfl rfl ?_; clear F a; intro a F
    refine wE (ev_pickF rfl hc3 rfl) F S rfl fun a F=>?_
    obtain rfl := sinj hm
    refine wpList_nil (then_n ?_); exact ⟨g1, F.sub ⟨rfl, rfl, rfl, rfl, rfl, rfl, trivial⟩, (Le.refl _), S⟩
  clear F S; rintro a w ⟨g7, F, l7, S⟩
  refine wpList_nil ?_
  refine then_n ?_
  obtain ⟨hc4, hm⟩ | ⟨hc4, hm⟩ := ite_or hm
  ·refine wp_condT F rfl hc4 ?_
   refine wp_region_lit ?_
   refine wE (ev_loadA tu25 rfl (cs := [vb_1, vb_2]) ts25 rfl (box_ptr (cells := [vb_1, vb_2]) 2 rfl 0 rfl (lb rfl))) F S rfl fun a F=>?_
   obtain ⟨y5, hy5, hm⟩ := bind_some hm
   refine wl_call0 (wn rfl) rfl F rfl (changeforgeref2_TableFault_ok (fr := (fl [[bx b4 #[.i6 y1.Code, .i6 y1.Index] 28], [bx b3 #[.i6 0, .i6 0] 28], [bx b2 #[vb_1, vb_2] 25], [bx b1 #[va_1, va_2] 25]] fr)) b_ vb_1 (hb_1.mono (l1.trans l7)) vb_2 (hb_2.mono (l1.trans l7)) S hy5) rfl tc22 rfl rfl ?_; clear F a S
   rintro _ a w ⟨g9, l9, S, rfl⟩ F; replace S : St g9 [[bx b4 #[.i6 y1.Code, .i6 y1.Index] 28], [bx b3 #[.i6 0, .i6 0] 28], [bx b2 #[vb_1, vb_2] 25], [bx b1 #[va_1, va_2] 25]] fr w := S
   refine wE (ev_field1 tu28 tf28_0 tu3 rfl (cs := [.i6 y5.Code, .i6 y5.Index]) rfl rfl) F S rfl fun a F=>?_
   refine wE (ev_move rfl) F S rfl fun a F=>?_
   obtain ⟨y6, hy6, hm⟩ := bind_some hm
   refine wl_call0 (wn rfl) rfl F rfl (changeforgeref1_At_ok (fr := (fl [[bx b4 #[.i6 y1.Code, .i6 y1.Index] 28], [bx b3 #[.i6 0, .i6 0] 28], [bx b2 #[vb_1, vb_2] 25], [bx b1 #[va_1, va_2] 25]] fr)) y5.Code at_ S hy6) rfl tc34 rfl rfl ?_; clear F a S
   rintro _ a w ⟨g10, l10, S, rfl⟩ F; replace S : St g10 [[bx b4 #[.i6 y1.Code, .i6 y1.Index] 28], [bx b3 #[.i6 0, .i6 0] 28], [bx b2 #[vb_1, vb_2] 25], [bx b1 #[va_1, va_2] 25]] fr w := S
   refine wl_storeC (wn rfl) rfl F S rfl rfl (vs := [.i6 y6.Code, .i6 y6.Index]) rfl ts28 (one_cons rfl (one_cons rfl one_nil)) (k := 0) rfl (lb rfl) (c' := #[.i6 y6.Code, .i6 y6.Index]) rfl rfl ?_; clear S; intro w S
   refine wpList_nil ?_
   refine then_n ?_
   exact ⟨y6.Code, y6.Index, g10, F.sub ⟨rfl, rfl, rfl, rfl, rfl, trivial⟩, ((l7.trans l9).trans l10), S, hm⟩
  ·refine wp_condF F rfl hc4 ?_
   refine wp_skip ?_
   refine then_n ?_
   exact ⟨y1.Code, y1.Index, g7, F.sub ⟨rfl, rfl, rfl, rfl, rfl, trivial⟩, l7, S, hm⟩
 ·clear F S hm; rintro a w ⟨x1, x2, g2, F, l2, S, hm⟩
  refine wp_cut (fun a w => ∃ (x3 : Int) (x4 : Int) (g3 : Gh), Fr 38 a [(7, bp b4 0), (6, bp b3 0)] ∧ Le g2 g3 ∧ St g3 [[bx b4 #[.i6 x3, .i6 x4] 28], [bx b3 #[.i6 0, .i6 0] 28]] fr w ∧ changeforgeref2_TwoTables.j2 x3 x4 = some r) ?_ ?_
  ·refine wp_seq ?_
   refine wp_region_lit ?_
   refine wE (ev_fieldAddr' tu28 tf28_0 (z := 0) ts3 rfl ⟨_, rfl⟩ rfl) F S rfl fun a F=>?_
   refine wE (ev_load1 tu3 rfl rfl (box_ptr (cells := [.i6 x1]) 0 rfl 0 rfl (lb rfl))) F S rfl fun a F=>?_
   refine wE (ev_int rfl rfl (bo_eql _ _ _ _)) F S rfl fun a F=>?_
   refine wE (ev_move rfl) F S rfl fun a F=>?_
   obtain ⟨x5, hx1, hm⟩ := bind_some hm
   refine wl_cut 7 (fun a w => ∃ g4, Fr 38 a [(34, .bool x5), (7, bp b4 0), (6, bp b3 0), (2, .i6 at_)] ∧ Le g2 g4 ∧ St g4 [[bx b4 #[.i6 x1, .i6 x2] 28], [bx b3 #[.i6 0, .i6 0] 28], [bx b2 #[vb_1, vb_2] 25], [bx b1 #[va_1, va_2] 25]] fr w) ?_ ?_
   ·clear hm; obtain ⟨hc1, hm⟩ | ⟨hc1, hm⟩ := ite_or hx1
    ·refine wl_ev (wg F rfl rfl rfl rfl hc1) (ev_fieldAddr' tu25 tf25_0 (z := 0) ts22 rfl ⟨_, rfl⟩ rfl) F S rfl rfl ?_; clear F a; intro a F
     refine wl_ev (wg F rfl rfl rfl rfl hc1) (ev_load1 tu22 rfl rfl (box_ptr (cells := [va_1]) 3 rfl 0 rfl (lb rfl))) F S rfl rfl ?_; clear F a; intro a F
     refine wl_ev (wg F rfl rfl rfl rfl hc1) (ev_fieldAddr' tu25 tf25_0 (z := 0) ts22 rfl ⟨_, rfl⟩ rfl) F S rfl rfl ?_; clear F a; intro a F
     refine wl_ev (wg F rfl rfl rfl rfl hc1) (ev_load1 tu22 rfl rfl (box_ptr (cells := [vb_1]) 2 rfl 0 rfl (lb rfl))) F S rfl rfl ?_; clear F a; intro a F
     obtain ⟨y2, hy2, hm⟩ := bind_some hm
     refine wl_call0 (wg F rfl rfl rfl rfl hc1) rfl F rfl (changeforgeref1_Equal_ok (fr := (fl [[bx b4 #[.i6 x1, .i6 x2] 28], [bx b3 #[.i6 0, .i6 0] 28], [bx b2 #[vb_1, vb_2] 25], [bx b1 #[va_1, va_2] 25]] fr)) a_.Columns va_1 (ha_1.mono (l1.trans l2)) b_.Columns vb_1 (hb_1.mono (l1.trans l2)) S hy2) rfl tc33 rfl rfl ?_; clear F a S
     rintro _ a w ⟨g5, l5, S, rfl⟩ F; replace S : St g5 [[bx b4 #[.i6 x1, .i6 x2] 28], [bx b3 #[.i6 0, .i6 0] 28], [bx b2 #[vb_1, vb_2] 25], [bx b1 #[va_1, va_2] 25]] fr w := S
     refine wl_ev (wg F rfl rfl rfl rfl hc1) (ev_not rfl) F S rfl rfl ?_; clear F a; intro a F
     refine wE (ev_pickT rfl hc1 rfl) F S rfl fun a F=>?_
     obtain rfl := sinj hm
     refine wpList_nil (then_n ?_); exact ⟨g5, F.sub ⟨rfl, rfl, rfl, rfl, trivial⟩, l5, S⟩
    ·refine wl_skip rfl rfl rfl rfl (ne_tf hc1) F rfl rfl ?_; clear F a; intro a F
     refine wl_skip rfl rfl rfl rfl (ne_tf hc1) F rfl rfl ?_; clear F a; intro a F
     refine wl_skip rfl rfl rfl rfl (ne_tf hc1) F rfl rfl ?_; clear F a; intro a F
     refine wl_skip rfl rfl rfl rfl (ne_tf hc1) F rfl rfl ?_; clear F a; intro a F
     refine wl_skip rfl rfl rfl rfl (ne_tf hc1) F rfl rfl ?_; clear F a; intro a F
     refine wl_skip rfl rfl rfl rfl (ne_tf hc1) F rfl rfl ?_; clear F a; intro a F
     refine wE (ev_pickF rfl hc1 rfl) F S rfl fun a F=>?_
     obtain rfl := sinj hm
     refine wpList_nil (then_n ?_); exact ⟨g2, F.sub ⟨rfl, rfl, rfl, rfl, trivial⟩, (Le.refl _), S⟩
   clear F S; rintro a w ⟨g4, F, l4, S⟩
   refine wpList_nil ?_
   refine then_n ?_
   obtain ⟨hc2, hm⟩ | ⟨hc2, hm⟩ := ite_or hm
   ·refine wp_condT F rfl hc2 ?_
    refine wp_region_lit ?_
    refine wE (ev_move rfl) F S rfl fun a F=>?_
    obtain ⟨y3, hy3, hm⟩ := bind_some hm
    refine wl_call0 (wn rfl) rfl F rfl (changeforgeref1_At_ok (fr := (fl [[bx b4 #[.i6 x1, .i6 x2] 28], [bx b3 #[.i6 0, .i6 0] 28], [bx b2 #[vb_1, vb_2] 25], [bx b1 #[va_1, va_2] 25]] fr)) 8 at_ S hy3) rfl tc34 rfl rfl ?_; clear F a S
    rintro _ a w ⟨g6, l6, S, rfl⟩ F; replace S : St g6 [[bx b4 #[.i6 x1, .i6 x2] 28], [bx b3 #[.i6 0, .i6 0] 28], [bx b2 #[vb_1, vb_2] 25], [bx b1 #[va_1, va_2] 25]] fr w := S
    refine wl_storeC (wn rfl) rfl F S rfl rfl (vs := [.i6 y3.Code, .i6 y3.Index]) rfl ts28 (one_cons rfl (one_cons rfl one_nil)) (k := 0) rfl (lb rfl) (c' := #[.i6 y3.Code, .i6 y3.Index]) rfl rfl ?_; clear S; intro w S
    refine wpList_nil ?_
    refine then_n ?_
    replace S : St g6 [[bx b4 #[.i6 y3.Code, .i6 y3.Index] 28], [bx b3 #[.i6 0, .i6 0] 28]] fr w := St.tail [[bx b4 #[.i6 y3.Code, .i6 y3.Index] 28], [bx b3 #[.i6 0, .i6 0] 28]] _ ((S.frontC 1 rfl).frontC 1 rfl)
    exact ⟨y3.Code, y3.Index, g6, F.sub ⟨rfl, rfl, trivial⟩, (l4.trans l6), S, hm⟩
   ·refine wp_condF F rfl hc2 ?_
    refine wp_skip ?_
    refine then_n ?_
    replace S : St g4 [[bx b4 #[.i6 x1, .i6 x2] 28], [bx b3 #[.i6 0, .i6 0] 28]] fr w := St.tail [[bx b4 #[.i6 x1, .i6 x2] 28], [bx b3 #[.i6 0, .i6 0] 28]] _ ((S.frontC 1 rfl).frontC 1 rfl)
    exact ⟨x1, x2, g4, F.sub ⟨rfl, rfl, trivial⟩, l4, S, hm⟩
  ·clear F S hm; rintro a w ⟨x3, x4, g3, F, l3, S, hm⟩
   refine wp_seq ?_
   refine wp_region_lit ?_
   refine wE (ev_loadA tu28 rfl (cs := [.i6 x3, .i6 x4]) ts28 rfl (box_ptr (cells := [.i6 x3, .i6 x4]) 0 rfl 0 rfl (lb rfl))) F S rfl fun a F=>?_
   refine wl_storeC (wn rfl) rfl F S rfl rfl (vs := [.i6 x3, .i6 x4]) rfl ts28 (one_cons rfl (one_cons rfl one_nil)) (k := 1) rfl (lb rfl) (c' := #[.i6 x3, .i6 x4]) rfl rfl ?_; clear S; intro w S
   refine wpList_nil ?_
   refine then_n ?_
   refine wp_ret ?_
   obtain rfl := sinj hm
   refine post_r _ F rfl (ar_cons (resA rfl tu28 rfl (box_ptr (cells := [.i6 x3, .i6 x4]) 1 rfl 0 rfl (lb rfl) w S) ts28) ar_nil) ?_
   replace S : St g3 [] fr w := St.tail [] _ S
   exact ⟨_, rfl, g3, ((l1.trans l2).trans l3), S, rfl⟩

theorem changeforgeref2_Keys_ok {g : Gh} {fr : Hl} {w : World} {r : (List ByteArray)} (a_ : (List Row)) (va_1 : Value) (ha_1 : RepSl g a_ va_1) (b_ : (List Row)) (vb_1 : Value) (hb_1 : RepSl g b_ vb_1) (S : St g [] fr w) (hm : changeforgeref2_Keys a_ b_ = some r) :
  Calls Try.prog 31 [va_1, vb_1].toArray w (fun en w' => ∃ v, en = .returned v ∧ ∃ (g' : Gh) (v1 : Value) (c1 : Hl), Le g g' ∧ St g' [c1] fr w' ∧ OwnS g' r v1 c1 ∧ v1 = v) := by
 unfold changeforgeref2_Keys at hm
 refine calls_enter (fn := Try.f31) Try.func31 rfl Try.ntmps31 (lb rfl) ?_
 intro a F
 replace F : Fr 74 a [(0, va_1), (1, vb_1)] := F
 refine wp_seq ?_
 refine wp_region_lit ?_
 refine wE (ev_assign rfl) F S rfl fun a F=>?_
 refine wpList_nil ?_
 refine then_n ?_
 refine wp_seq ?_
 refine wp_region_lit ?_
 refine wE (ev_assign rfl) F S rfl fun a F=>?_
 refine wpList_nil ?_
 refine then_n ?_
 refine wp_seq ?_
 refine wp_region_lit ?_
 refine wE (ev_assign rfl) F S rfl fun a F=>?_
 refine wpList_nil ?_
 refine then_n ?_
 refine wp_seq ?_
 refine wp_region_lit ?_
 refine wE (ev_assign rfl) F S rfl fun a F=>?_
 refine wpList_nil ?_
 refine then_n ?_
 refine wp_cut (fun a w => ∃ (x1 : List ByteArray) (v1 : Value) (c1 : Hl) (g1 : Gh), Fr 74 a [(5, v1)] ∧ Le g g1 ∧ St g1 [c1] fr w ∧ OwnS g1 x1 v1 c1 ∧ changeforgeref2_Keys.j1 x1 = some r) ?_ ?_
 ·refine wp_block ?_
  obtain ⟨r1, hr1, hm⟩ := bind_some hm
  have hmo1 := hm; clear hm
  refine wp_iter (σ := Int × Int × (List ByteArray)) (ρ := (List ByteArray)) (m := fun s => changeforgeref2_Keys.l1 a_ b_ s.1 s.2.1 s.2.2) (I := fun s a w => match s with | (x2, x3, x4) => ∃ (v2 : Value) (c2 : Hl) (g2 : Gh), Fr 74 a [(7, .i6 x2), (6, .i6 x3), (5, v2), (0, va_1), (1, vb_1)] ∧ Le g g2 ∧ St g2 [c2] fr w ∧ OwnS g2 x4 v2 c2) hr1 ?_ ?_
  ·dsimp only
   replace S : St g [[]] fr w := S
   exact ⟨(nilS), [], g, F.sub ⟨rfl, rfl, rfl, rfl, rfl, trivial⟩, (Le.refl _), S, (OwnS.nil _)⟩
  ·clear F S; rintro ⟨x2, x3, x4⟩ a w x5 ⟨v2, c2, g2, F, l2, S, h2⟩ hx1 hfin1
   have hm : changeforgeref2_Keys.l1 a_ b_ x2 x3 x4 = some x5 := hx1; clear hx1
   unfold changeforgeref2_Keys.l1 at hm
   refine wp_seq ?_
   refine wp_seq ?_
   refine wp_region_lit ?_
   refine wE (ev_move rfl) F S rfl fun a F=>?_
   refine wE (ev_move rfl) F S rfl fun a F=>?_
   refine wE (ev_lenSh ha_1 rfl tu23) F S rfl fun a F=>?_
   refine wE (ev_int rfl rfl (bo_lss _ _ _ _)) F S rfl fun a F=>?_
   refine wE (ev_move rfl) F S rfl fun a F=>?_
   obtain ⟨x6, hx2, hm⟩ := bind_some hm
   refine wl_cut 5 (fun a w' => w = w' ∧ Fr 74 a [(18, .bool x6), (7, .i6 x2), (6, .i6 x3), (5, v2), (0, va_1), (1, vb_1)]) ?_ ?_
   ·clear hm; obtain ⟨hc1, hm⟩ | ⟨hc1, hm⟩ := ite_or hx2
    ·refine wl_skip rfl rfl rfl rfl (ne_ft hc1) F rfl rfl ?_; clear F a; intro a F
     refine wl_skip rfl rfl rfl rfl (ne_ft hc1) F rfl rfl ?_; clear F a; intro a F
     refine wl_skip rfl rfl rfl rfl (ne_ft hc1) F rfl rfl ?_; clear F a; intro a F
     refine wl_skip rfl rfl rfl rfl (ne_ft hc1) F rfl rfl ?_; clear F a; intro a F
     refine wE (ev_pickT rfl hc1 rfl) F S rfl fun a F=>?_
     obtain rfl := sinj hm
     refine wpList_nil (then_n ?_); exact ⟨rfl, F.sub ⟨rfl, rfl, rfl, rfl, rfl, rfl, trivial⟩⟩
    ·refine wl_ev (wg F rfl rfl rfl rfl hc1) (ev_move rfl) F S rfl rfl ?_; clear F a; intro a F
     refine wl_ev (wg F rfl rfl rfl rfl hc1) (ev_move rfl) F S rfl rfl ?_; clear F a; intro a F
     refine wl_ev (wg F rfl rfl rfl rfl hc1) (ev_lenSh hb_1 rfl tu23) F S rfl rfl ?_; clear F a; intro a F
     refine wl_ev (wg F rfl rfl rfl rfl hc1) (ev_int rfl rfl (bo_lss _ _ _ _)) F S rfl rfl ?_; clear F a; intro a F
     refine wE (ev_pickF rfl hc1 rfl) F S rfl fun a F=>?_
     obtain rfl := sinj hm
     refine wpList_nil (then_n ?_); exact ⟨rfl, F.sub ⟨rfl, rfl, rfl, rfl, rfl, rfl, trivial⟩⟩
   clear F; rintro a w' ⟨rfl, F⟩
   refine wpList_nil ?_
   refine then_n ?_
   obtain ⟨hc2, hm⟩ | ⟨hc2, hm⟩ := ite_or hm
   ·refine wp_condT F rfl hc2 ?_
    refine wp_skip ?_
    refine then_n ?_
    refine wp_block ?_
    refine wp_seq ?_
    refine wp_region_lit ?_
    refine wE (ev_assign rfl) F S rfl fun a F=>?_
    refine wpList_nil ?_
    refine then_n ?_
    refine wp_cut (fun a w => ∃ (x7 : Int) (x8 : ByteArray) (x9 : Int) (g3 : Gh), Fr 74 a [(6, .i6 x7), (8, .string x8), (7, .i6 x9), (5, v2), (0, va_1), (1, vb_1)] ∧ Le g2 g3 ∧ St g3 [c2] fr w ∧ changeforgeref2_Keys.j2 x4 x7 x8 x9 = some x5) ?_ ?_
    ·refine wp_seq ?_
     refine wp_quiet mo (by kernel_rfl) S ?_
     refine wq_ev (wn rfl) (ev_move rfl) F rfl rfl ?_; clear F a; intro a F
     refine wq_ev (wn rfl) (ev_move rfl) F rfl rfl ?_; clear F a; intro a F
     refine wq_ev (wn rfl) (ev_lenSh hb_1 rfl tu23) F rfl rfl ?_; clear F a; intro a F
     refine wq_ev (wn rfl) (ev_int rfl rfl (bo_eql _ _ _ _)) F rfl rfl ?_; clear F a; intro a F
     refine wq_ev (wn rfl) (ev_move rfl) F rfl rfl ?_; clear F a; intro a F
     obtain ⟨x11, hx4, hm⟩ := bind_some hm
     refine wq_cut 18 (fun a => Fr 74 a [(41, .bool x11), (7, .i6 x2), (6, .i6 x3), (5, v2), (0, va_1), (1, vb_1)]) ?_ ?_
     ·clear hm; obtain ⟨hc5, hm⟩ | ⟨hc5, hm⟩ := ite_or hx4
      ·refine wq_skip rfl rfl rfl rfl (ne_ft hc5) F rfl rfl ?_; clear F a; intro a F
       refine wq_skip rfl rfl rfl rfl (ne_ft hc5) F rfl rfl ?_; clear F a; intro a F
       refine wq_skip rfl rfl rfl rfl (ne_ft hc5) F rfl rfl ?_; clear F a; intro a F
       refine wq_skip rfl rfl rfl rfl (ne_ft hc5) F rfl rfl ?_; clear F a; intro a F
       refine wq_skip rfl rfl rfl rfl (ne_ft hc5) F rfl rfl ?_; clear F a; intro a F
       refine wq_skipu rfl rfl rfl rfl F rfl rfl ?_; clear F a; intro a F
       refine wq_skipu rfl rfl rfl rfl F rfl rfl ?_; clear F a; intro a F
       refine wq_skipu rfl rfl rfl rfl F rfl rfl ?_; clear F a; intro a F
       refine wq_skipu rfl rfl rfl rfl F rfl rfl ?_; clear F a; intro a F
       refine wq_skipu rfl rfl rfl rfl F rfl rfl ?_; clear F a; intro a F
       refine wq_skipu rfl rfl rfl rfl F rfl rfl ?_; clear F a; intro a F
       refine wq_skipu rfl rfl rfl rfl F rfl rfl ?_; clear F a; intro a F
       refine wq_skipu rfl rfl rfl rfl F rfl rfl ?_; clear F a; intro a F
       refine wq_skipu rfl rfl rfl rfl F rfl rfl ?_; clear F a; intro a F
       refine wq_skipu rfl rfl rfl rfl F rfl rfl ?_; clear F a; intro a F
       refine wq_skipu rfl rfl rfl rfl F rfl rfl ?_; clear F a; intro a F
       refine wq_skip rfl rfl rfl rfl (ne_ft hc5) F rfl rfl ?_; clear F a; intro a F
       refine wq_ev (wn rfl) (ev_pickT rfl hc5 rfl) F rfl rfl ?_; clear F a; intro a F
       obtain rfl := sinj hm
       refine wq_nil ?_; exact F.sub ⟨rfl, rfl, rfl, rfl, rfl, rfl, trivial⟩
      ·refine wq_ev (wg F rfl rfl rfl rfl hc5) (ev_move rfl) F rfl rfl ?_; clear F a; intro a F
       refine wq_ev (wg F rfl rfl rfl rfl hc5) (ev_move rfl) F rfl rfl ?_; clear F a; intro a F
       refine wq_ev (wg F rfl rfl rfl rfl hc5) (ev_lenSh ha_1 rfl tu23) F rfl rfl ?_; clear F a; intro a F
       refine wq_ev (wg F rfl rfl rfl rfl hc5) (ev_int rfl rfl (bo_lss _ _ _ _)) F rfl rfl ?_; clear F a; intro a F
       refine wq_ev (wg F rfl rfl rfl rfl hc5) (ev_move rfl) F rfl rfl ?_; clear F a; intro a F
       obtain ⟨x12, hx5, hm⟩ := bind_some hm
       refine wq_cut 12 (fun a => Fr 74 a [(40, .bool x12), (28, .bool (decide (x3 < (a_.length : Int)))), (27, .bool (decide (x3 < (a_.length : Int)))), (26, .i6 (a_.length : Int)), (25, va_1), (24, .i6 x3), (23, .bool (decide (x2 = (b_.length : Int)))), (7, .i6 x2), (6, .i6 x3), (5, v2), (0, va_1), (1, vb_1)]) ?_ ?_
       ·clear hm; obtain ⟨hc6, hm⟩ | ⟨hc6, hm⟩ := ite_or hx5
        ·refine wq_ev (wg F rfl rfl rfl rfl hc6) (ev_move rfl) F rfl rfl ?_; clear F a; intro a F
         refine wq_ev (wg F rfl rfl rfl rfl hc6) (ev_move rfl) F rfl rfl ?_; clear F a; intro a F
         obtain ⟨y3, hy3, hm⟩ := bind_some hm
         obtain ⟨cs3, hr4, hp1⟩ := elemS (ha_1.mono l2) hy3
         obtain ⟨v5, rfl, h5⟩ := rep_Row hr4
         refine wq_ev (wg F rfl rfl rfl rfl hc6) (ev_idxS (ha_1.mono l2) hy3 tu23 ts54 rfl rfl) F rfl rfl ?_; clear F a; intro a F
         have hp2 := PtrC.field hp1 0 1 (lb rfl)
         have hp2 : PtrC g2 (addP (elemP va_1 x3 2) 0) [.string y3.Key] := hp2
         refine wq_ev (wg F rfl rfl rfl rfl hc6) (ev_fieldAddr' tu54 tf54_0 (z := 0) ts9 rfl hp1.ptr rfl) F rfl rfl ?_; clear F a; intro a F
         refine wq_ev (wg F rfl rfl rfl rfl hc6) (ev_load1 tu9 rfl rfl (ptr_mono (cks := [c2]) (fr := fr) hp2 (Le.refl _))) F rfl rfl ?_; clear F a; intro a F
         refine wq_ev (wg F rfl rfl rfl rfl hc6) (ev_move rfl) F rfl rfl ?_; clear F a; intro a F
         refine wq_ev (wg F rfl rfl rfl rfl hc6) (ev_move rfl) F rfl rfl ?_; clear F a; intro a F
         obtain ⟨y4, hy4, hm⟩ := bind_some hm
         obtain ⟨cs4, hr5, hp3⟩ := elemS (hb_1.mono l2) hy4
         obtain ⟨v6, rfl, h6⟩ := rep_Row hr5
         refine wq_ev (wg F rfl rfl rfl rfl hc6) (ev_idxS (hb_1.mono l2) hy4 tu23 ts54 rfl rfl) F rfl rfl ?_; clear F a; intro a F
         have hp4 := PtrC.field hp3 0 1 (lb rfl)
         have hp4 : PtrC g2 (addP (elemP vb_1 x2 2) 0) [.string y4.Key] := hp4
         refine wq_ev (wg F rfl rfl rfl rfl hc6) (ev_fieldAddr' tu54 tf54_0 (z := 0) ts9 rfl hp3.ptr rfl) F rfl rfl ?_; clear F a; intro a F
         refine wq_ev (wg F rfl rfl rfl rfl hc6) (ev_load1 tu9 rfl rfl (ptr_mono (cks := [c2]) (fr := fr) hp4 (Le.refl _))) F rfl rfl ?_; clear F a; intro a F
         refine wq_ev (wg F rfl rfl rfl rfl hc6) (ev_str rfl rfl (bs_leq _ _ _)) F rfl rfl ?_; clear F a; intro a F
         refine wq_ev (wg F rfl rfl rfl rfl hc5) (ev_pickT rfl hc6 rfl) F rfl rfl ?_; clear F a; intro a F
         obtain rfl := sinj hm
         refine wq_nil ?_; exact F.sub ⟨rfl, rfl, rfl, rfl, rfl, rfl, rfl, rfl, rfl, rfl, rfl, rfl, trivial⟩
        ·refine wq_skip rfl rfl rfl rfl (ne_tf hc6) F rfl rfl ?_; clear F a; intro a F
         refine wq_skip rfl rfl rfl rfl (ne_tf hc6) F rfl rfl ?_; clear F a; intro a F
         refine wq_skip rfl rfl rfl rfl (ne_tf hc6) F rfl rfl ?_; clear F a; intro a F
         refine wq_skip rfl rfl rfl rfl (ne_tf hc6) F rfl rfl ?_; clear F a; intro a F
         refine wq_skip rfl rfl rfl rfl (ne_tf hc6) F rfl rfl ?_; clear F a; intro a F
         refine wq_skip rfl rfl rfl rfl (ne_tf hc6) F rfl rfl ?_; clear F a; intro a F
         refine wq_skip rfl rfl rfl rfl (ne_tf hc6) F rfl rfl ?_; clear F a; intro a F
         refine wq_skip rfl rfl rfl rfl (ne_tf hc6) F rfl rfl ?_; clear F a; intro a F
         refine wq_skip rfl rfl rfl rfl (ne_tf hc6) F rfl rfl ?_; clear F a; intro a F
         refine wq_skip rfl rfl rfl rfl (ne_tf hc6) F rfl rfl ?_; clear F a; intro a F
         refine wq_skip rfl rfl rfl rfl (ne_tf hc6) F rfl rfl ?_; clear F a; intro a F
         refine wq_ev (wg F rfl rfl rfl rfl hc5) (ev_pickF rfl hc6 rfl) F rfl rfl ?_; clear F a; intro a F
         obtain rfl := sinj hm
         refine wq_nil ?_; exact F.sub ⟨rfl, rfl, rfl, rfl, rfl, rfl, rfl, rfl, rfl, rfl, rfl, rfl, trivial⟩
       clear F; intro a F
       refine wq_ev (wn rfl) (ev_pickF rfl hc5 rfl) F rfl rfl ?_; clear F a; intro a F
       obtain rfl := sinj hm
       refine wq_nil ?_; exact F.sub ⟨rfl, rfl, rfl, rfl, rfl, rfl, trivial⟩
     clear F; intro a F
     refine wq_nil ?_; clear S; intro w S
     refine then_n ?_
     obtain ⟨hc7, hm⟩ | ⟨hc7, hm⟩ := ite_or hm
     ·refine wp_condT F rfl hc7 ?_
      refine wp_seq ?_
      refine wp_region_lit ?_
      refine wE (ev_move rfl) F S rfl fun a F=>?_
      refine wE (ev_move rfl) F S rfl fun a F=>?_
      obtain ⟨y5, hy5, hm⟩ := bind_some hm
      obtain ⟨cs5, hr6, hp5⟩ := elemS (ha_1.mono l2) hy5
      obtain ⟨v7, rfl, h7⟩ := rep_Row hr6
      refine wE (ev_idxS (ha_1.mono l2) hy5 tu23 ts54 rfl rfl) F S rfl fun a F=>?_
      have hp6 := PtrC.field hp5 0 1 (lb rfl)
      have hp6 : PtrC g2 (addP (elemP va_1 x3 2) 0) [.string y5.Key] := hp6
      refine wE (ev_fieldAddr' tu54 tf54_0 (z := 0) ts9 rfl hp5.ptr rfl) F S rfl fun a F=>?_
      refine wE (ev_load1 tu9 rfl rfl (ptr_mono (cks := [c2]) (fr := fr) hp6 (Le.refl _))) F S rfl fun a F=>?_
      refine wE (ev_assign rfl) F S rfl fun a F=>?_
      refine wpList_nil ?_
      refine then_n ?_
      refine wp_region_lit ?_
      refine wE (ev_move rfl) F S rfl fun a F=>?_
      obtain ⟨z2, hz2, hm⟩ := bind_some hm
      refine wE (ev_int rfl rfl (bo_add hz2)) F S rfl fun a F=>?_
      refine wE (ev_assign rfl) F S rfl fun a F=>?_
      refine wpList_nil ?_
      refine then_n ?_
      exact ⟨z2, y5.Key, x2, g2, F.sub ⟨rfl, rfl, rfl, rfl, rfl, rfl, trivial⟩, (Le.refl _), S, hm⟩
     ·refine wp_condF F rfl hc7 ?_
      refine wp_seq ?_
      refine wp_region_lit ?_
      refine wE (ev_move rfl) F S rfl fun a F=>?_
      refine wE (ev_move rfl) F S rfl fun a F=>?_
      obtain ⟨y6, hy6, hm⟩ := bind_some hm
      obtain ⟨cs6, hr7, hp7⟩ := elemS (hb_1.mono l2) hy6
      obtain ⟨v8, rfl, h8⟩ := rep_Row hr7
      refine wE (ev_idxS (hb_1.mono l2) hy6 tu23 ts54 rfl rfl) F S rfl fun a F=>?_
      have hp8 := PtrC.field hp7 0 1 (lb rfl)
      have hp8 : PtrC g2 (addP (elemP vb_1 x2 2) 0) [.string y6.Key] := hp8
      refine wE (ev_fieldAddr' tu54 tf54_0 (z := 0) ts9 rfl hp7.ptr rfl) F S rfl fun a F=>?_
      refine wE (ev_load1 tu9 rfl rfl (ptr_mono (cks := [c2]) (fr := fr) hp8 (Le.refl _))) F S rfl fun a F=>?_
      refine wE (ev_assign rfl) F S rfl fun a F=>?_
      refine wpList_nil ?_
      refine then_n ?_
      refine wp_region_lit ?_
      refine wE (ev_move rfl) F S rfl fun a F=>?_
      obtain ⟨z3, hz3, hm⟩ := bind_some hm
      refine wE (ev_int rfl rfl (bo_add hz3)) F S rfl fun a F=>?_
      refine wE (ev_assign rfl) F S rfl fun a F=>?_
      refine wpList_nil ?_
      refine then_n ?_
      exact ⟨x3, y6.Key, z3, g2, F.sub ⟨rfl, rfl, rfl, rfl, rfl, rfl, trivial⟩, (Le.refl _), S, hm⟩
    ·clear F S hm; rintro a w ⟨x7, x8, x9, g3, F, l3, S, hm⟩
     refine wp_seq ?_
     refine wp_region_lit ?_
     refine wE (ev_move rfl) F S rfl fun a F=>?_
     refine wE (ev_lenOw h2 rfl tu22) F S rfl fun a F=>?_
     refine wE (ev_int rfl rfl (bo_eql _ _ _ _)) F S rfl fun a F=>?_
     refine wE (ev_move rfl) F S rfl fun a F=>?_
     obtain ⟨x10, hx3, hm⟩ := bind_some hm
     refine wl_cut 9 (fun a w' => w = w' ∧ Fr 74 a [(68, .bool x10), (6, .i6 x7), (8, .string x8), (7, .i6 x9), (5, v2), (0, va_1), (1, vb_1)]) ?_ ?_
     ·clear hm; obtain ⟨hc3, hm⟩ | ⟨hc3, hm⟩ := ite_or hx3
      ·refine wl_skip rfl rfl rfl rfl (ne_ft hc3) F rfl rfl ?_; clear F a; intro a F
       refine wl_skip rfl rfl rfl rfl (ne_ft hc3) F rfl rfl ?_; clear F a; intro a F
       refine wl_skip rfl rfl rfl rfl (ne_ft hc3) F rfl rfl ?_; clear F a; intro a F
       refine wl_skip rfl rfl rfl rfl (ne_ft hc3) F rfl rfl ?_; clear F a; intro a F
       refine wl_skip rfl rfl rfl rfl (ne_ft hc3) F rfl rfl ?_; clear F a; intro a F
       refine wl_skip rfl rfl rfl rfl (ne_ft hc3) F rfl rfl ?_; clear F a; intro a F
       refine wl_skip rfl rfl rfl rfl (ne_ft hc3) F rfl rfl ?_; clear F a; intro a F
       refine wl_skip rfl rfl rfl rfl (ne_ft hc3) F rfl rfl ?_; clear F a; intro a F
       refine wE (ev_pickT rfl hc3 rfl) F S rfl fun a F=>?_
       obtain rfl := sinj hm
       refine wpList_nil (then_n ?_); exact ⟨rfl, F.sub ⟨rfl, rfl, rfl, rfl, rfl, rfl, rfl, trivial⟩⟩
      ·refine wl_ev (wg F rfl rfl rfl rfl hc3) (ev_move rfl) F S rfl rfl ?_; clear F a; intro a F
       refine wl_ev (wg F rfl rfl rfl rfl hc3) (ev_move rfl) F S rfl rfl ?_; clear F a; intro a F
       refine wl_ev (wg F rfl rfl rfl rfl hc3) (ev_lenOw h2 rfl tu22) F S rfl rfl ?_; clear F a; intro a F
       obtain ⟨z1, hz1, hm⟩ := bind_some hm
       refine wl_ev (wg F rfl rfl rfl rfl hc3) (ev_int rfl rfl (bo_sub hz1)) F S rfl rfl ?_; clear F a; intro a F
       obtain ⟨y1, hy1, hm⟩ := bind_some hm
       refine wl_ev (wg F rfl rfl rfl rfl hc3) (ev_idxO (h2.mono l3) hy1 tu22 ts9 rfl rfl) F S rfl rfl ?_; clear F a; intro a F
       obtain ⟨cs1, hr2, hq1⟩ := elemO (h2.mono l3) hy1
       obtain rfl := rep_str hr2
       refine wl_ev (wg F rfl rfl rfl rfl hc3) (ev_load1 tu9 rfl rfl (hq1 _ _ 0 rfl)) F S rfl rfl ?_; clear F a; intro a F
       refine wl_ev (wg F rfl rfl rfl rfl hc3) (ev_move rfl) F S rfl rfl ?_; clear F a; intro a F
       refine wl_ev (wg F rfl rfl rfl rfl hc3) (ev_str rfl rfl (bs_neq _ _ _)) F S rfl rfl ?_; clear F a; intro a F
       refine wE (ev_pickF rfl hc3 rfl) F S rfl fun a F=>?_
       obtain rfl := sinj hm
       refine wpList_nil (then_n ?_); exact ⟨rfl, F.sub ⟨rfl, rfl, rfl, rfl, rfl, rfl, rfl, trivial⟩⟩
     clear F; rintro a w' ⟨rfl, F⟩
     refine wpList_nil ?_
     refine then_n ?_
     obtain ⟨hc4, hm⟩ | ⟨hc4, hm⟩ := ite_or hm
     ·refine wp_condT F rfl hc4 ?_
      refine wp_region_lit ?_
      refine wE (ev_move rfl) F S rfl fun a F=>?_
      refine wE (ev_move rfl) F S rfl fun a F=>?_
      refine wl_lit (l := ([x8] : List ByteArray)) (vs := [.string x8]) (parts := [(0, .tmp 70)]) (wn rfl) rfl rfl rfl tu22 te9 (sz_cons rfl sz_nil) rfl (Cat.cons (show Rep.rep _ x8 _ from rfl) (Cat.nil _)) (coa_cons rfl coa_nil) rfl F S rfl rfl ?_; clear F a S
      rintro v3 c3 a w h3 F S
      obtain ⟨cs2, hk1, hr3⟩ := OwnS.reads h3
      obtain ⟨y2, hy2, hm⟩ := bind_some hm
      refine wl_append (wn rfl) rfl tu22 tu22 te9 (by decide) (by decide) F S rfl rfl (k := 1) rfl (h2.mono l3) hk1 rfl (hr3 _ _ _ 0 rfl S) hy2 rfl rfl ?_; clear F a S
      rintro v4 c4 a w h4 S F; replace S : St g3 [c3, c4] fr w := S
      refine wE (ev_assign rfl) F S rfl fun a F=>?_
      refine wpList_nil ?_
      refine inb_n ?_
      refine then_n ?_
      obtain rfl := sinj hm
      refine ⟨_, rfl, ?_⟩
      dsimp only
      replace S : St g3 [c4] fr w := St.tail [c4] _ (S.frontC 1 rfl)
      exact ⟨v4, c4, g3, F.sub ⟨rfl, rfl, rfl, rfl, rfl, trivial⟩, (l2.trans l3), S, h4⟩
     ·refine wp_condF F rfl hc4 ?_
      refine wp_skip ?_
      refine inb_n ?_
      refine then_n ?_
      obtain rfl := sinj hm
      refine ⟨_, rfl, ?_⟩
      dsimp only
      exact ⟨v2, c2, g3, F.sub ⟨rfl, rfl, rfl, rfl, rfl, trivial⟩, (l2.trans l3), S, (h2.mono l3)⟩
   ·refine wp_condF F rfl hc2 ?_
    refine wp_exit ?_
    refine then_e ?_
    refine then_e ?_
    refine inb_x ?_
    refine then_n ?_
    obtain rfl := sinj hm
    obtain rfl := hfin1 _ rfl
    clear hm
    have hm : (changeforgeref2_Keys.j1 x4 : Option (List ByteArray)) = some _ := hmo1
    exact ⟨x4, v2, c2, g2, F.sub ⟨rfl, trivial⟩, l2, S, h2, hm⟩
 ·clear F S hm; rintro a w ⟨x1, v1, c1, g1, F, l1, S, h1, hm⟩
  refine wp_seq ?_
  refine wp_region_lit ?_
  refine wE (ev_move rfl) F S rfl fun a F=>?_
  refine wE (ev_assign rfl) F S rfl fun a F=>?_
  refine wpList_nil ?_
  refine then_n ?_
  refine wp_ret ?_
  obtain rfl := sinj hm
  refine post_r _ F rfl (ar_cons (resT rfl) ar_nil) ?_
  exact ⟨_, rfl, g1, v1, c1, l1, S, h1, rfl⟩

theorem changeforgeref2_RowAt_ok {g : Gh} {fr : Hl} {w : World} {r : Int} (t_ : Table) (vt_1 : Value) (ht_1 : RepSl g t_.Columns vt_1) (vt_2 : Value) (ht_2 : RepSl g t_.Rows vt_2) (key : ByteArray) (S : St g [] fr w) (hm : changeforgeref2_RowAt t_ key = some r) :
  Calls Try.prog 48 [.agg #[vt_1, vt_2], .string key].toArray w (fun en w' => ∃ v, en = .returned v ∧ ∃ (g' : Gh), Le g g' ∧ St g' [] fr w' ∧ .i6 r = v) := by
 unfold changeforgeref2_RowAt at hm
 refine calls_enter (fn := Try.f48) Try.func48 rfl Try.ntmps48 (lb rfl) ?_
 intro a F
 replace F : Fr 22 a [(0, .agg #[vt_1, vt_2]), (1, .string key)] := F
 refine wp_seq ?_
 refine wp_region_lit ?_
 refine wl_boxC (wn rfl) rfl rfl rfl F S rfl rfl ?_; clear F a S; rintro b1 a w F S
 refine wE (ev_assign rfl) F S rfl fun a F=>?_
 refine wpList_nil ?_
 refine then_n ?_
 refine wp_cut (fun a w => ∃ (g1 : Gh), Fr 22 a [] ∧ Le g g1 ∧ St g1 [] fr w ∧ changeforgeref2_RowAt.j1 = some r) ?_ ?_
 ·refine wp_seq ?_
  refine wp_region_lit ?_
  refine wE (ev_assign rfl) F S rfl fun a F=>?_
  refine wpList_nil ?_
  refine then_n ?_
  refine wp_block ?_
  obtain ⟨r1, hr1, hm⟩ := bind_some hm
  have hmo1 := hm; clear hm
  refine wp_iter (σ := Int) (ρ := Int ⊕ Unit) (m := fun s => changeforgeref2_RowAt.l1 t_ key s) (I := fun x1 a w => ∃ (g2 : Gh), Fr 22 a [(5, .i6 x1), (2, bp b1 0), (1, .string key)] ∧ Le g g2 ∧ St g2 [[bx b1 #[vt_1, vt_2] 25]] fr w) hr1 ?_ ?_
  ·exact ⟨g, F.sub ⟨rfl, rfl, rfl, trivial⟩, (Le.refl _), S⟩
  ·clear F S; rintro x1 a w x2 ⟨g2, F, l2, S⟩ hx1 hfin1
   have hm : changeforgeref2_RowAt.l1 t_ key x1 = some x2 := hx1; clear hx1
   unfold changeforgeref2_RowAt.l1 at hm
   refine wp_seq ?_
   refine wp_seq ?_
   refine wp_region_lit ?_
   refine wE (ev_move rfl) F S rfl fun a F=>?_
   refine wE (ev_fieldAddr' tu25 tf25_1 (z := 0) ts23 rfl ⟨_, rfl⟩ rfl) F S rfl fun a F=>?_
   refine wE (ev_load1 tu23 rfl rfl (box_ptr (cells := [vt_2]) 0 rfl 1 rfl (lb rfl))) F S rfl fun a F=>?_
   refine wE (ev_lenSh ht_2 rfl tu23) F S rfl fun a F=>?_
   refine wE (ev_int rfl rfl (bo_lss _ _ _ _)) F S rfl fun a F=>?_
   refine wpList_nil ?_
   refine then_n ?_
   obtain ⟨hc1, hm⟩ | ⟨hc1, hm⟩ := ite_or hm
   ·refine wp_condT F rfl hc1 ?_
    refine wp_skip ?_
    refine then_n ?_
    refine wp_seq ?_
    refine wp_block ?_
    refine wp_seq ?_
    refine wp_region_lit ?_
    refine wE (ev_fieldAddr' tu25 tf25_1 (z := 0) ts23 rfl ⟨_, rfl⟩ rfl) F S rfl fun a F=>?_
    refine wE (ev_load1 tu23 rfl rfl (box_ptr (cells := [vt_2]) 0 rfl 1 rfl (lb rfl))) F S rfl fun a F=>?_
    refine wE (ev_move rfl) F S rfl fun a F=>?_
    obtain ⟨y1, hy1, hm⟩ := bind_some hm
    obtain ⟨cs1, hr2, hp1⟩ := elemS (ht_2.mono l2) hy1
    obtain ⟨v1, rfl, h1⟩ := rep_Row hr2
    refine wE (ev_idxS (ht_2.mono l2) hy1 tu23 ts54 rfl rfl) F S rfl fun a F=>?_
    have hp2 := PtrC.field hp1 0 1 (lb rfl)
    have hp2 : PtrC g2 (addP (elemP vt_2 x1 2) 0) [.string y1.Key] := hp2
    refine wE (ev_fieldAddr' tu54 tf54_0 (z := 0) ts9 rfl hp1.ptr rfl) F S rfl fun a F=>?_
    refine wE (ev_load1 tu9 rfl rfl (ptr_mono (cks := [[bx b1 #[vt_1, vt_2] 25]]) (fr := fr) hp2 (Le.refl _))) F S rfl fun a F=>?_
    refine wE (ev_move rfl) F S rfl fun a F=>?_
    refine wE (ev_str rfl rfl (bs_eql _ _ _)) F S rfl fun a F=>?_
    refine wpList_nil ?_
    refine then_n ?_
    obtain ⟨hc2, hm⟩ | ⟨hc2, hm⟩ := ite_or hm
    ·refine wp_condT F rfl hc2 ?_
     refine wp_seq ?_
     refine wp_region_lit ?_
     refine wE (ev_move rfl) F S rfl fun a F=>?_
     refine wE (ev_assign rfl) F S rfl fun a F=>?_
     refine wpList_nil ?_
     refine then_n ?_
     refine wp_ret ?_
     refine inb_r ?_
     refine then_r ?_
     refine then_r ?_
     refine inb_r ?_
     refine then_r ?_
     obtain rfl := sinj hm
     obtain rfl := hfin1 _ rfl
     clear hm
     have hm : (some x1 : Option Int) = some _ := hmo1
     obtain rfl := sinj hm
     refine post_r _ F rfl (ar_cons (resT rfl) ar_nil) ?_
     replace S : St g2 [] fr w := St.tail [] _ S
     exact ⟨_, rfl, g2, l2, S, rfl⟩
    ·refine wp_condF F rfl hc2 ?_
     refine wp_skip ?_
     refine inb_n ?_
     refine then_n ?_
     refine wp_region_lit ?_
     refine wE (ev_move rfl) F S rfl fun a F=>?_
     obtain ⟨z1, hz1, hm⟩ := bind_some hm
     refine wE (ev_int rfl rfl (bo_add hz1)) F S rfl fun a F=>?_
     refine wE (ev_assign rfl) F S rfl fun a F=>?_
     refine wpList_nil ?_
     refine then_n ?_
     obtain rfl := sinj hm
     refine ⟨_, rfl, ?_⟩
     exact ⟨g2, F.sub ⟨rfl, rfl, rfl, trivial⟩, l2, S⟩
   ·refine wp_condF F rfl hc1 ?_
    refine wp_exit ?_
    refine then_e ?_
    refine then_e ?_
    refine inb_x ?_
    refine then_n ?_
    obtain rfl := sinj hm
    obtain rfl := hfin1 _ rfl
    clear hm
    have hm : (changeforgeref2_RowAt.j1 : Option Int) = some _ := hmo1
    replace S : St g2 [] fr w := St.tail [] _ S
    exact ⟨g2, F.sub trivial, l2, S, hm⟩
 ·clear F S hm; rintro a w ⟨g1, F, l1, S, hm⟩
  refine wp_seq ?_
  refine wp_region_lit ?_
  refine wE (ev_assign rfl) F S rfl fun a F=>?_
  refine wpList_nil ?_
  refine then_n ?_
  refine wp_ret ?_
  obtain rfl := sinj hm
  refine post_r _ F rfl (ar_cons (resT rfl) ar_nil) ?_
  exact ⟨_, rfl, g1, l1, S, rfl⟩

theorem changeforgeref2_cellsOf_ok {g : Gh} {fr : Hl} {w : World} {r : (List ByteArray)} (t_ : Table) (vt_1 : Value) (ht_1 : RepSl g t_.Columns vt_1) (vt_2 : Value) (ht_2 : RepSl g t_.Rows vt_2) (key : ByteArray) (S : St g [] fr w) (hm : changeforgeref2_cellsOf t_ key = some r) :
  Calls Try.prog 32 [.agg #[vt_1, vt_2], .string key].toArray w (fun en w' => ∃ v, en = .returned v ∧ ∃ (g' : Gh) (v1 : Value), Le g g' ∧ St g' [] fr w' ∧ RepSl g' r v1 ∧ v1 = v) := by
 unfold changeforgeref2_cellsOf at hm
 refine calls_enter (fn := Try.f32) Try.func32 rfl Try.ntmps32 (lb rfl) ?_
 intro a F
 replace F : Fr 17 a [(0, .agg #[vt_1, vt_2]), (1, .string key)] := F
 refine wp_seq ?_
 refine wp_region_lit ?_
 refine wl_boxC (wn rfl) rfl rfl rfl F S rfl rfl ?_; clear F a S; rintro b1 a w F S
 refine wE (ev_assign rfl) F S rfl fun a F=>?_
 refine wpList_nil ?_
 refine then_n ?_
 refine wp_seq ?_
 refine wp_seq ?_
 refine wp_region_lit ?_
 refine wE (ev_loadA tu25 rfl (cs := [vt_1, vt_2]) ts25 rfl (box_ptr (cells := [vt_1, vt_2]) 0 rfl 0 rfl (lb rfl))) F S rfl fun a F=>?_
 refine wE (ev_move rfl) F S rfl fun a F=>?_
 obtain ⟨y1, hy1, hm⟩ := bind_some hm
 refine wl_call0 (wn rfl) rfl F rfl (changeforgeref2_RowAt_ok (fr := (fl [[bx b1 #[vt_1, vt_2] 25]] fr)) t_ vt_1 ht_1 vt_2 ht_2 key S hy1) rfl tc48 rfl rfl ?_; clear F a S
 rintro _ a w ⟨g1, l1, S, rfl⟩ F; replace S : St g1 [[bx b1 #[vt_1, vt_2] 25]] fr w := S
 refine wE (ev_assign rfl) F S rfl fun a F=>?_
 refine wpList_nil ?_
 refine then_n ?_
 refine wp_seq ?_
 refine wp_region_lit ?_
 refine wE (ev_move rfl) F S rfl fun a F=>?_
 refine wE (ev_int rfl rfl (bo_geq _ _ _ _)) F S rfl fun a F=>?_
 refine wpList_nil ?_
 refine then_n ?_
 obtain ⟨hc1, hm⟩ | ⟨hc1, hm⟩ := ite_or hm
 ·refine wp_condT F rfl hc1 ?_
  refine wp_seq ?_
  refine wp_region_lit ?_
  refine wE (ev_fieldAddr' tu25 tf25_1 (z := 0) ts23 rfl ⟨_, rfl⟩ rfl) F S rfl fun a F=>?_
  refine wE (ev_load1 tu23 rfl rfl (box_ptr (cells := [vt_2]) 0 rfl 1 rfl (lb rfl))) F S rfl fun a F=>?_
  refine wE (ev_move rfl) F S rfl fun a F=>?_
  obtain ⟨y2, hy2, hm⟩ := bind_some hm
  obtain ⟨cs1, hr1, hp1⟩ := elemS (ht_2.mono l1) hy2
  obtain ⟨v1, rfl, h1⟩ := rep_Row hr1
  refine wE (ev_idxS (ht_2.mono l1) hy2 tu23 ts54 rfl rfl) F S rfl fun a F=>?_
  have hp2 := PtrC.field hp1 1 1 (lb rfl)
  have hp2 : PtrC g1 (addP (elemP vt_2 y1 2) 1) [v1] := hp2
  refine wE (ev_fieldAddr' tu54 tf54_1 (z := 0) ts22 rfl hp1.ptr rfl) F S rfl fun a F=>?_
  refine wE (ev_load1 tu22 rfl rfl (ptr_mono (cks := [[bx b1 #[vt_1, vt_2] 25]]) (fr := fr) hp2 (Le.refl _))) F S rfl fun a F=>?_
  refine wE (ev_assign rfl) F S rfl fun a F=>?_
  refine wpList_nil ?_
  refine then_n ?_
  refine wp_ret ?_
  refine then_r ?_
  obtain rfl := sinj hm
  refine post_r _ F rfl (ar_cons (resT rfl) ar_nil) ?_
  replace S : St g1 [] fr w := St.tail [] _ S
  exact ⟨_, rfl, g1, v1, l1, S, h1, rfl⟩
 ·refine wp_condF F rfl hc1 ?_
  refine wp_skip ?_
  refine then_n ?_
  refine wp_seq ?_
  refine wp_region_lit ?_
  refine wE (ev_assign rfl) F S rfl fun a F=>?_
  refine wpList_nil ?_
  refine then_n ?_
  refine wp_ret ?_
  obtain rfl := sinj hm
  refine post_r _ F rfl (ar_cons (resT rfl) ar_nil) ?_
  replace S : St g1 [] fr w := St.tail [] _ S
  exact ⟨_, rfl, g1, (nilS), l1, S, (RepSl.nil _), rfl⟩
end Go.Dc
