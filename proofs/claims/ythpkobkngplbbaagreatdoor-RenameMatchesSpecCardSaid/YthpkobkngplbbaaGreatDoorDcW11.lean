/- Walks: each function comes to what its model says. -/
import Derived.Test.YthpkobkngplbbaaGreatDoorDcTab
import Derived.Test.YthpkobkngplbbaaGreatDoorDcM
namespace Go.Dc
open Go Go.Proofs
set_option maxRecDepth 100000
set_option maxHeartbeats 4000000
set_option linter.unusedVariables false
theorem changeforgeref1_At_ok {g : Gh} {fr : Hl} {w : World} {r : Fault} (code : Int) (index : Int) (S : St g [] fr w) (hm : changeforgeref1_At code index = some r) :
  Calls Tryz.prog 47 [.i6 code, .i6 index].toArray w (fun en w' => ∃ v, en = .returned v ∧ ∃ (g' : Gh), Le g g' ∧ St g' [] fr w' ∧ .agg #[.i6 r.Code, .i6 r.Index] = v) := by
 unfold changeforgeref1_At at hm
 refine calls_enter (fn := Tryz.f47) Tryz.func47 rfl Tryz.ntmps47 (lb rfl) ?_
 intro a F
 replace F : Fr 8 a [(0, .i6 code), (1, .i6 index)] := F
 refine wp_seq ?_
 refine wp_region_lit ?_
 refine wl_alloc (wn rfl) rfl tz32 (cs := [.i6 0, .i6 0]) rfl F S rfl rfl ?_; clear F a S; rintro b1 a w F S
 refine wpList_nil ?_
 refine then_n ?_
 refine wp_seq ?_
 refine wp_region_lit ?_
 refine wE (ev_move rfl) F S rfl fun a F=>?_
 refine wE (ev_move rfl) F S rfl fun a F=>?_
 refine wE (ev_build (parts := [(0, .tmp 5), (1, .tmp 6)]) (vs := [(0, .i6 code), (1, .i6 index)]) rfl (fun w => tb32_0_1 code index w)) F S rfl fun a F=>?_
 refine wl_storeC (wn rfl) rfl F S rfl rfl (vs := [.i6 code, .i6 index]) rfl ts32 (one_cons rfl (one_cons rfl one_nil)) (k := 0) rfl (lb rfl) (c' := #[.i6 code, .i6 index]) rfl rfl ?_; clear S; intro w S
 refine wpList_nil ?_
 refine then_n ?_
 refine wp_ret ?_
 obtain rfl := sinj hm
 refine post_r _ F rfl (ar_cons (resA rfl tu32 rfl (box_ptr (cells := [.i6 code, .i6 index]) 0 rfl 0 rfl (lb rfl) w S) ts32) ar_nil) ?_
 replace S : St g [] fr w := St.tail [] _ S
 exact ⟨_, rfl, g, (Le.refl _), S, rfl⟩

theorem changeforgeref1_LinesFault_ok {g : Gh} {fr : Hl} {w : World} {r : Fault} (l_ : (List ByteArray)) (vl_1 : Value) (hl_1 : RepSl g l_ vl_1) (S : St g [] fr w) (hm : changeforgeref1_LinesFault l_ = some r) :
  Calls Tryz.prog 14 [vl_1].toArray w (fun en w' => ∃ v, en = .returned v ∧ ∃ (g' : Gh), Le g g' ∧ St g' [] fr w' ∧ .agg #[.i6 r.Code, .i6 r.Index] = v) := by
 unfold changeforgeref1_LinesFault at hm
 refine calls_enter (fn := Tryz.f14) Tryz.func14 rfl Tryz.ntmps14 (lb rfl) ?_
 intro a F
 replace F : Fr 42 a [(0, vl_1)] := F
 refine wp_seq ?_
 refine wp_region_lit ?_
 refine wl_alloc (wn rfl) rfl tz32 (cs := [.i6 0, .i6 0]) rfl F S rfl rfl ?_; clear F a S; rintro b1 a w F S
 refine wpList_nil ?_
 refine then_n ?_
 refine wp_seq ?_
 refine wp_seq ?_
 refine wp_region_lit ?_
 refine wE (ev_move rfl) F S rfl fun a F=>?_
 refine wE (ev_lenSh hl_1 rfl tu28) F S rfl fun a F=>?_
 refine wE (ev_int rfl rfl (bo_gtr _ _ _ _)) F S rfl fun a F=>?_
 refine wpList_nil ?_
 refine then_n ?_
 obtain ⟨hc1, hm⟩ | ⟨hc1, hm⟩ := ite_or hm
 ·refine wp_condT F rfl hc1 ?_
  refine wp_seq ?_
  refine wp_region_lit ?_
  obtain ⟨y1, hy1, hm⟩ := bind_some hm
  refine wl_call0 (wn rfl) rfl F rfl (changeforgeref1_At_ok (fr := (fl [[bx b1 #[.i6 0, .i6 0] 32]] fr)) 2 (-1) S hy1) rfl tc47 rfl rfl ?_; clear F a S
  rintro _ a w ⟨g1, l1, S, rfl⟩ F; replace S : St g1 [[bx b1 #[.i6 0, .i6 0] 32]] fr w := S
  refine wl_storeC (wn rfl) rfl F S rfl rfl (vs := [.i6 y1.Code, .i6 y1.Index]) rfl ts32 (one_cons rfl (one_cons rfl one_nil)) (k := 0) rfl (lb rfl) (c' := #[.i6 y1.Code, .i6 y1.Index]) rfl rfl ?_; clear S; intro w S
  refine wpList_nil ?_
  refine then_n ?_
  refine wp_ret ?_
  refine then_r ?_
  obtain rfl := sinj hm
  refine post_r _ F rfl (ar_cons (resA rfl tu32 rfl (box_ptr (cells := [.i6 y1.Code, .i6 y1.Index]) 0 rfl 0 rfl (lb rfl) w S) ts32) ar_nil) ?_
  replace S : St g1 [] fr w := St.tail [] _ S
  exact ⟨_, rfl, g1, l1, S, rfl⟩
 ·refine wp_condF F rfl hc1 ?_
  refine wp_skip ?_
  refine then_n ?_
  refine wp_cut (fun a w => ∃ (g2 : Gh), Fr 42 a [(2, bp b1 0)] ∧ Le g g2 ∧ St g2 [[bx b1 #[.i6 0, .i6 0] 32]] fr w ∧ changeforgeref1_LinesFault.j1 = some r) ?_ ?_
  ·refine wp_seq ?_
   refine wp_region_lit ?_
   refine wE (ev_assign rfl) F S rfl fun a F=>?_
   refine wpList_nil ?_
   refine then_n ?_
   refine wp_block ?_
   obtain ⟨r1, hr1, hm⟩ := bind_some hm
   have hmo1 := hm; clear hm
   refine wp_iter (σ := Int) (ρ := Fault ⊕ Unit) (m := fun s => changeforgeref1_LinesFault.l1 l_ s) (I := fun x1 a w => ∃ (g3 : Gh), Fr 42 a [(3, .i6 x1), (2, bp b1 0), (0, vl_1)] ∧ Le g g3 ∧ St g3 [[bx b1 #[.i6 0, .i6 0] 32]] fr w) hr1 ?_ ?_
   ·exact ⟨g, F.sub ⟨rfl, rfl, rfl, trivial⟩, (Le.refl _), S⟩
   ·clear F S; rintro x1 a w x2 ⟨g3, F, l3, S⟩ hx1 hfin1
    have hm : changeforgeref1_LinesFault.l1 l_ x1 = some x2 := hx1; clear hx1
    unfold changeforgeref1_LinesFault.l1 at hm
    refine wp_seq ?_
    refine wp_seq ?_
    refine wp_region_lit ?_
    refine wE (ev_move rfl) F S rfl fun a F=>?_
    refine wE (ev_move rfl) F S rfl fun a F=>?_
    refine wE (ev_lenSh hl_1 rfl tu28) F S rfl fun a F=>?_
    refine wE (ev_int rfl rfl (bo_lss _ _ _ _)) F S rfl fun a F=>?_
    refine wpList_nil ?_
    refine then_n ?_
    obtain ⟨hc2, hm⟩ | ⟨hc2, hm⟩ := ite_or hm
    ·refine wp_condT F rfl hc2 ?_
     refine wp_skip ?_
     refine then_n ?_
     refine wp_cut (fun a w => ∃ (g4 : Gh), Fr 42 a [(3, .i6 x1), (2, bp b1 0), (0, vl_1)] ∧ Le g3 g4 ∧ St g4 [[bx b1 #[.i6 0, .i6 0] 32]] fr w ∧ changeforgeref1_LinesFault.j2 x1 = some x2) ?_ ?_
     ·refine wp_block ?_
      refine wp_seq ?_
      refine wp_seq ?_
      refine wp_region_lit ?_
      refine wE (ev_move rfl) F S rfl fun a F=>?_
      refine wE (ev_move rfl) F S rfl fun a F=>?_
      obtain ⟨y2, hy2, hm⟩ := bind_some hm
      obtain ⟨cs1, hr2, hp1⟩ := elemS (hl_1.mono l3) hy2
      obtain rfl := rep_str hr2
      refine wE (ev_idxS (hl_1.mono l3) hy2 tu28 ts9 rfl rfl) F S rfl fun a F=>?_
      refine wE (ev_load1 tu9 rfl rfl (ptr_mono (cks := [[bx b1 #[.i6 0, .i6 0] 32]]) (fr := fr) hp1 (Le.refl _))) F S rfl fun a F=>?_
      refine wE (ev_lenS rfl tu9) F S rfl fun a F=>?_
      refine wE (ev_int rfl rfl (bo_gtr _ _ _ _)) F S rfl fun a F=>?_
      refine wpList_nil ?_
      refine then_n ?_
      obtain ⟨hc3, hm⟩ | ⟨hc3, hm⟩ := ite_or hm
      ·refine wp_condT F rfl hc3 ?_
       refine wp_seq ?_
       refine wp_region_lit ?_
       refine wE (ev_move rfl) F S rfl fun a F=>?_
       obtain ⟨y3, hy3, hm⟩ := bind_some hm
       refine wl_call0 (wn rfl) rfl F rfl (changeforgeref1_At_ok (fr := (fl [[bx b1 #[.i6 0, .i6 0] 32]] fr)) 2 x1 S hy3) rfl tc47 rfl rfl ?_; clear F a S
       rintro _ a w ⟨g5, l5, S, rfl⟩ F; replace S : St g5 [[bx b1 #[.i6 0, .i6 0] 32]] fr w := S
       refine wl_storeC (wn rfl) rfl F S rfl rfl (vs := [.i6 y3.Code, .i6 y3.Index]) rfl ts32 (one_cons rfl (one_cons rfl one_nil)) (k := 0) rfl (lb rfl) (c' := #[.i6 y3.Code, .i6 y3.Index]) rfl rfl ?_; clear S; intro w S
       refine wpList_nil ?_
       refine then_n ?_
       refine wp_ret ?_
       refine then_r ?_
       refine inb_r ?_
       refine then_r ?_
       refine then_r ?_
       refine inb_r ?_
       refine then_r ?_
       obtain rfl := sinj hm
       obtain rfl := hfin1 _ rfl
       clear hm
       have hm : (some y3 : Option Fault) = some _ := hmo1
       obtain rfl := sinj hm
       refine post_r _ F rfl (ar_cons (resA rfl tu32 rfl (box_ptr (cells := [.i6 y3.Code, .i6 y3.Index]) 0 rfl 0 rfl (lb rfl) w S) ts32) ar_nil) ?_
       replace S : St g5 [] fr w := St.tail [] _ S
       exact ⟨_, rfl, g5, (l3.trans l5), S, rfl⟩
      ·refine wp_condF F rfl hc3 ?_
       refine wp_skip ?_
       refine then_n ?_
       refine wp_seq ?_
       refine wp_region_lit ?_
       refine wE (ev_assign rfl) F S rfl fun a F=>?_
       refine wpList_nil ?_
       refine then_n ?_
       refine wp_cut1 (fun a w => ∃ (g6 : Gh), Fr 42 a [(3, .i6 x1), (2, bp b1 0), (0, vl_1)] ∧ Le g3 g6 ∧ St g6 [[bx b1 #[.i6 0, .i6 0] 32]] fr w ∧ changeforgeref1_LinesFault.j3 x1 = some x2) ?_ ?_
       ·refine wp_block ?_
        obtain ⟨r2, hr3, hm⟩ := bind_some hm
        have hmo2 := hm; clear hm
        refine wp_iter (σ := Int) (ρ := Fault ⊕ Unit) (m := fun s => changeforgeref1_LinesFault.l2 l_ x1 s) (I := fun x3 a w => ∃ (g7 : Gh), Fr 42 a [(4, .i6 x3), (3, .i6 x1), (2, bp b1 0), (0, vl_1)] ∧ Le g3 g7 ∧ St g7 [[bx b1 #[.i6 0, .i6 0] 32]] fr w) hr3 ?_ ?_
        ·exact ⟨g3, F.sub ⟨rfl, rfl, rfl, rfl, trivial⟩, (Le.refl _), S⟩
        ·clear F S; rintro x3 a w x4 ⟨g7, F, l7, S⟩ hx2 hfin2
         have hm : changeforgeref1_LinesFault.l2 l_ x1 x3 = some x4 := hx2; clear hx2
         unfold changeforgeref1_LinesFault.l2 at hm
         refine wp_seq ?_
         refine wp_seq ?_
         refine wp_region_lit ?_
         refine wE (ev_move rfl) F S rfl fun a F=>?_
         refine wE (ev_move rfl) F S rfl fun a F=>?_
         refine wE (ev_move rfl) F S rfl fun a F=>?_
         obtain ⟨y4, hy4, hm⟩ := bind_some hm
         obtain ⟨cs2, hr4, hp2⟩ := elemS (hl_1.mono (l3.trans l7)) hy4
         obtain rfl := rep_str hr4
         refine wE (ev_idxS (hl_1.mono (l3.trans l7)) hy4 tu28 ts9 rfl rfl) F S rfl fun a F=>?_
         refine wE (ev_load1 tu9 rfl rfl (ptr_mono (cks := [[bx b1 #[.i6 0, .i6 0] 32]]) (fr := fr) hp2 (Le.refl _))) F S rfl fun a F=>?_
         refine wE (ev_lenS rfl tu9) F S rfl fun a F=>?_
         refine wE (ev_int rfl rfl (bo_lss _ _ _ _)) F S rfl fun a F=>?_
         refine wpList_nil ?_
         refine then_n ?_
         obtain ⟨hc4, hm⟩ | ⟨hc4, hm⟩ := ite_or hm
         ·refine wp_condT F rfl hc4 ?_
          refine wp_skip ?_
          refine then_n ?_
          refine wp_seq ?_
          refine wp_block ?_
          refine wp_seq ?_
          refine wp_region_lit ?_
          refine wE (ev_move rfl) F S rfl fun a F=>?_
          refine wE (ev_move rfl) F S rfl fun a F=>?_
          obtain ⟨y5, hy5, hm⟩ := bind_some hm
          obtain ⟨cs3, hr5, hp3⟩ := elemS (hl_1.mono (l3.trans l7)) hy5
          obtain rfl := rep_str hr5
          refine wE (ev_idxS (hl_1.mono (l3.trans l7)) hy5 tu28 ts9 rfl rfl) F S rfl fun a F=>?_
          refine wE (ev_load1 tu9 rfl rfl (ptr_mono (cks := [[bx b1 #[.i6 0, .i6 0] 32]]) (fr := fr) hp3 (Le.refl _))) F S rfl fun a F=>?_
          refine wE (ev_move rfl) F S rfl fun a F=>?_
          obtain ⟨y6, hy6, hm⟩ := bind_some hm
          refine wE (ev_sAt hy6 tu9 rfl rfl) F S rfl fun a F=>?_
          refine wE (ev_int rfl rfl (bo_eql _ _ _ _)) F S rfl fun a F=>?_
          refine wpList_nil ?_
          refine then_n ?_
          obtain ⟨hc5, hm⟩ | ⟨hc5, hm⟩ := ite_or hm
          ·refine wp_condT F rfl hc5 ?_
           refine wp_seq ?_
           refine wp_region_lit ?_
           refine wE (ev_move rfl) F S rfl fun a F=>?_
           obtain ⟨y7, hy7, hm⟩ := bind_some hm
           refine wl_call0 (wn rfl) rfl F rfl (changeforgeref1_At_ok (fr := (fl [[bx b1 #[.i6 0, .i6 0] 32]] fr)) 5 x1 S hy7) rfl tc47 rfl rfl ?_; clear F a S
           rintro _ a w ⟨g8, l8, S, rfl⟩ F; replace S : St g8 [[bx b1 #[.i6 0, .i6 0] 32]] fr w := S
           refine wl_storeC (wn rfl) rfl F S rfl rfl (vs := [.i6 y7.Code, .i6 y7.Index]) rfl ts32 (one_cons rfl (one_cons rfl one_nil)) (k := 0) rfl (lb rfl) (c' := #[.i6 y7.Code, .i6 y7.Index]) rfl rfl ?_; clear S; intro w S
           refine wpList_nil ?_
           refine then_n ?_
           refine wp_ret ?_
           refine inb_r ?_
           refine then_r ?_
           refine then_r ?_
           refine inb_r ?_
           refine then_r ?_
           refine inb_r ?_
           refine then_r ?_
           refine then_r ?_
           refine inb_r ?_
           refine then_r ?_
           obtain rfl := sinj hm
           obtain rfl := hfin2 _ rfl
           clear hm
           have hm : (some (Step.done (Sum.inl y7)) : Option (Step Int (Fault ⊕ Unit))) = some _ := hmo2
           obtain rfl := sinj hm
           obtain rfl := hfin1 _ rfl
           clear hm
           have hm : (some y7 : Option Fault) = some _ := hmo1
           obtain rfl := sinj hm
           refine post_r _ F rfl (ar_cons (resA rfl tu32 rfl (box_ptr (cells := [.i6 y7.Code, .i6 y7.Index]) 0 rfl 0 rfl (lb rfl) w S) ts32) ar_nil) ?_
           replace S : St g8 [] fr w := St.tail [] _ S
           exact ⟨_, rfl, g8, ((l3.trans l7).trans l8), S, rfl⟩
          ·refine wp_condF F rfl hc5 ?_
           refine wp_skip ?_
           refine inb_n ?_
           refine then_n ?_
           refine wp_region_lit ?_
           refine wE (ev_move rfl) F S rfl fun a F=>?_
           obtain ⟨z2, hz2, hm⟩ := bind_some hm
           refine wE (ev_int rfl rfl (bo_add hz2)) F S rfl fun a F=>?_
           refine wE (ev_assign rfl) F S rfl fun a F=>?_
           refine wpList_nil ?_
           refine then_n ?_
           obtain rfl := sinj hm
           refine ⟨_, rfl, ?_⟩
           exact ⟨g7, F.sub ⟨rfl, rfl, rfl, rfl, trivial⟩, l7, S⟩
         ·refine wp_condF F rfl hc4 ?_
          refine wp_exit ?_
          refine then_e ?_
          refine then_e ?_
          refine inb_x ?_
          refine then_n ?_
          obtain rfl := sinj hm
          obtain rfl := hfin2 _ rfl
          clear hm
          have hm : (changeforgeref1_LinesFault.j3 x1 : Option (Step Int (Fault ⊕ Unit))) = some _ := hmo2
          exact ⟨g7, F.sub ⟨rfl, rfl, rfl, trivial⟩, l7, S, hm⟩
       ·clear F S hm; rintro a w ⟨g6, F, l6, S, hm⟩
        refine inb_n ?_
        refine then_n ?_
        exact ⟨g6, F.sub ⟨rfl, rfl, rfl, trivial⟩, l6, S, hm⟩
     ·clear F S hm; rintro a w ⟨g4, F, l4, S, hm⟩
      refine wp_region_lit ?_
      refine wE (ev_move rfl) F S rfl fun a F=>?_
      obtain ⟨z1, hz1, hm⟩ := bind_some hm
      refine wE (ev_int rfl rfl (bo_add hz1)) F S rfl fun a F=>?_
      refine wE (ev_assign rfl) F S rfl fun a F=>?_
      refine wpList_nil ?_
      refine then_n ?_
      obtain rfl := sinj hm
      refine ⟨_, rfl, ?_⟩
      exact ⟨g4, F.sub ⟨rfl, rfl, rfl, trivial⟩, (l3.trans l4), S⟩
    ·refine wp_condF F rfl hc2 ?_
     refine wp_exit ?_
     refine then_e ?_
     refine then_e ?_
     refine inb_x ?_
     refine then_n ?_
     obtain rfl := sinj hm
     obtain rfl := hfin1 _ rfl
     clear hm
     have hm : (changeforgeref1_LinesFault.j1 : Option Fault) = some _ := hmo1
     exact ⟨g3, F.sub ⟨rfl, trivial⟩, l3, S, hm⟩
  ·clear F S hm; rintro a w ⟨g2, F, l2, S, hm⟩
   refine wp_seq ?_
   refine wp_region_lit ?_
   refine wE (ev_build (parts := []) (vs := []) rfl (fun w => tb32_  w)) F S rfl fun a F=>?_
   refine wl_storeC (wn rfl) rfl F S rfl rfl (vs := [.i6 0, .i6 0]) rfl ts32 (one_cons rfl (one_cons rfl one_nil)) (k := 0) rfl (lb rfl) (c' := #[.i6 0, .i6 0]) rfl rfl ?_; clear S; intro w S
   refine wpList_nil ?_
   refine then_n ?_
   refine wp_ret ?_
   obtain rfl := sinj hm
   refine post_r _ F rfl (ar_cons (resA rfl tu32 rfl (box_ptr (cells := [.i6 0, .i6 0]) 0 rfl 0 rfl (lb rfl) w S) ts32) ar_nil) ?_
   replace S : St g2 [] fr w := St.tail [] _ S
   exact ⟨_, rfl, g2, l2, S, rfl⟩

theorem changeforgeref1_LinesCode_ok {g : Gh} {fr : Hl} {w : World} {r : Int} (l_ : (List ByteArray)) (vl_1 : Value) (hl_1 : RepSl g l_ vl_1) (S : St g [] fr w) (hm : changeforgeref1_LinesCode l_ = some r) :
  Calls Tryz.prog 49 [vl_1].toArray w (fun en w' => ∃ v, en = .returned v ∧ ∃ (g' : Gh), Le g g' ∧ St g' [] fr w' ∧ .i6 r = v) := by
 unfold changeforgeref1_LinesCode at hm
 refine calls_enter (fn := Tryz.f49) Tryz.func49 rfl Tryz.ntmps49 (lb rfl) ?_
 intro a F
 replace F : Fr 6 a [(0, vl_1)] := F
 refine wp_seq ?_
 refine wp_region_lit ?_
 refine wE (ev_assign rfl) F S rfl fun a F=>?_
 refine wpList_nil ?_
 refine then_n ?_
 refine wp_seq ?_
 refine wp_region_lit ?_
 refine wE (ev_move rfl) F S rfl fun a F=>?_
 obtain ⟨y1, hy1, hm⟩ := bind_some hm
 refine wl_call0 (wn rfl) rfl F rfl (changeforgeref1_LinesFault_ok l_ vl_1 hl_1 S hy1) rfl tc14 rfl rfl ?_; clear F a S
 rintro _ a w ⟨g1, l1, S, rfl⟩ F; replace S : St g1 [] fr w := S
 refine wE (ev_field1 tu32 tf32_0 tu3 rfl (cs := [.i6 y1.Code, .i6 y1.Index]) rfl rfl) F S rfl fun a F=>?_
 refine wE (ev_assign rfl) F S rfl fun a F=>?_
 refine wpList_nil ?_
 refine then_n ?_
 refine wp_ret ?_
 obtain rfl := sinj hm
 refine post_r _ F rfl (ar_cons (resT rfl) ar_nil) ?_
 exact ⟨_, rfl, g1, l1, S, rfl⟩

theorem changeforgeref2_pathByte_ok {g : Gh} {fr : Hl} {w : World} {r : Bool} (c_ : Int) (S : St g [] fr w) (hm : changeforgeref2_pathByte c_ = some r) :
  Calls Tryz.prog 146 [.int .u8 c_].toArray w (fun en w' => ∃ v, en = .returned v ∧ ∃ (g' : Gh), Le g g' ∧ St g' [] fr w' ∧ .bool r = v) := by
 unfold changeforgeref2_pathByte at hm
 refine calls_enter (fn := Tryz.f146) Tryz.func146 rfl Tryz.ntmps146 (lb rfl) ?_
 intro a F
 replace F : Fr 37 a [(0, .int .u8 c_)] := F
 refine wp_seq ?_
 refine wp_region_lit ?_
 refine wE (ev_assign rfl) F S rfl fun a F=>?_
 refine wpList_nil ?_
 refine then_n ?_
 refine wp_seq ?_
 refine wp_region_lit ?_
 refine wE (ev_move rfl) F S rfl fun a F=>?_
 refine wE (ev_int rfl rfl (bo_geq _ _ _ _)) F S rfl fun a F=>?_
 refine wE (ev_move rfl) F S rfl fun a F=>?_
 obtain ⟨x1, hx1, hm⟩ := bind_some hm
 refine wl_cut 3 (fun a w' => w = w' ∧ Fr 37 a [(8, .bool x1), (2, .bool false), (0, .int .u8 c_)]) ?_ ?_
 ·clear hm; obtain ⟨hc1, hm⟩ | ⟨hc1, hm⟩ := ite_or hx1
  ·refine wl_ev (wg F rfl rfl rfl rfl hc1) (ev_move rfl) F S rfl rfl ?_; clear F a; intro a F
   refine wl_ev (wg F rfl rfl rfl rfl hc1) (ev_int rfl rfl (bo_leq _ _ _ _)) F S rfl rfl ?_; clear F a; intro a F
   refine wE (ev_pickT rfl hc1 rfl) F S rfl fun a F=>?_
   obtain rfl := sinj hm
   refine wpList_nil (then_n ?_); exact ⟨rfl, F.sub ⟨rfl, rfl, rfl, trivial⟩⟩
  ·refine wl_skip rfl rfl rfl rfl (ne_tf hc1) F rfl rfl ?_; clear F a; intro a F
   refine wl_skip rfl rfl rfl rfl (ne_tf hc1) F rfl rfl ?_; clear F a; intro a F
   refine wE (ev_pickF rfl hc1 rfl) F S rfl fun a F=>?_
   obtain rfl := sinj hm
   refine wpList_nil (then_n ?_); exact ⟨rfl, F.sub ⟨rfl, rfl, rfl, trivial⟩⟩
 clear F; rintro a w' ⟨rfl, F⟩
 refine wE (ev_move rfl) F S rfl fun a F=>?_
 obtain ⟨x2, hx2, hm⟩ := bind_some hm
 refine wl_cut 7 (fun a w' => w = w' ∧ Fr 37 a [(16, .bool x2), (2, .bool false), (0, .int .u8 c_)]) ?_ ?_
 ·clear hm; obtain ⟨hc2, hm⟩ | ⟨hc2, hm⟩ := ite_or hx2
  ·refine wl_skip rfl rfl rfl rfl (ne_ft hc2) F rfl rfl ?_; clear F a; intro a F
   refine wl_skip rfl rfl rfl rfl (ne_ft hc2) F rfl rfl ?_; clear F a; intro a F
   refine wl_skip rfl rfl rfl rfl (ne_ft hc2) F rfl rfl ?_; clear F a; intro a F
   refine wl_skipu rfl rfl rfl rfl F rfl rfl ?_; clear F a; intro a F
   refine wl_skipu rfl rfl rfl rfl F rfl rfl ?_; clear F a; intro a F
   refine wl_skip rfl rfl rfl rfl (ne_ft hc2) F rfl rfl ?_; clear F a; intro a F
   refine wE (ev_pickT rfl hc2 rfl) F S rfl fun a F=>?_
   obtain rfl := sinj hm
   refine wpList_nil (then_n ?_); exact ⟨rfl, F.sub ⟨rfl, rfl, rfl, trivial⟩⟩
  ·refine wl_ev (wg F rfl rfl rfl rfl hc2) (ev_move rfl) F S rfl rfl ?_; clear F a; intro a F
   refine wl_ev (wg F rfl rfl rfl rfl hc2) (ev_int rfl rfl (bo_geq _ _ _ _)) F S rfl rfl ?_; clear F a; intro a F
   refine wl_ev (wg F rfl rfl rfl rfl hc2) (ev_move rfl) F S rfl rfl ?_; clear F a; intro a F
   obtain ⟨x3, hx3, hm⟩ := bind_some hm
   refine wl_cut 3 (fun a w' => w = w' ∧ Fr 37 a [(15, .bool x3), (9, .bool x1), (2, .bool false), (0, .int .u8 c_)]) ?_ ?_
   ·clear hm; obtain ⟨hc3, hm⟩ | ⟨hc3, hm⟩ := ite_or hx3
    ·refine wl_ev (wg F rfl rfl rfl rfl hc3) (ev_move rfl) F S rfl rfl ?_; clear F a; intro a F
     refine wl_ev (wg F rfl rfl rfl rfl hc3) (ev_int rfl rfl (bo_leq _ _ _ _)) F S rfl rfl ?_; clear F a; intro a F
     refine wl_ev (wg F rfl rfl rfl rfl hc2) (ev_pickT rfl hc3 rfl) F S rfl rfl ?_; clear F a; intro a F
     obtain rfl := sinj hm
     refine wpList_nil (then_n ?_); exact ⟨rfl, F.sub ⟨rfl, rfl, rfl, rfl, trivial⟩⟩
    ·refine wl_skip rfl rfl rfl rfl (ne_tf hc3) F rfl rfl ?_; clear F a; intro a F
     refine wl_skip rfl rfl rfl rfl (ne_tf hc3) F rfl rfl ?_; clear F a; intro a F
     refine wl_ev (wg F rfl rfl rfl rfl hc2) (ev_pickF rfl hc3 rfl) F S rfl rfl ?_; clear F a; intro a F
     obtain rfl := sinj hm
     refine wpList_nil (then_n ?_); exact ⟨rfl, F.sub ⟨rfl, rfl, rfl, rfl, trivial⟩⟩
   clear F; rintro a w' ⟨rfl, F⟩
   refine wE (ev_pickF rfl hc2 rfl) F S rfl fun a F=>?_
   obtain rfl := sinj hm
   refine wpList_nil (then_n ?_); exact ⟨rfl, F.sub ⟨rfl, rfl, rfl, trivial⟩⟩
 clear F; rintro a w' ⟨rfl, F⟩
 refine wE (ev_move rfl) F S rfl fun a F=>?_
 obtain ⟨x4, hx4, hm⟩ := bind_some hm
 refine wl_cut 7 (fun a w' => w = w' ∧ Fr 37 a [(24, .bool x4), (2, .bool false), (0, .int .u8 c_)]) ?_ ?_
 ·clear hm; obtain ⟨hc4, hm⟩ | ⟨hc4, hm⟩ := ite_or hx4
  ·refine wl_skip rfl rfl rfl rfl (ne_ft hc4) F rfl rfl ?_; clear F a; intro a F
   refine wl_skip rfl rfl rfl rfl (ne_ft hc4) F rfl rfl ?_; clear F a; intro a F
   refine wl_skip rfl rfl rfl rfl (ne_ft hc4) F rfl rfl ?_; clear F a; intro a F
   refine wl_skipu rfl rfl rfl rfl F rfl rfl ?_; clear F a; intro a F
   refine wl_skipu rfl rfl rfl rfl F rfl rfl ?_; clear F a; intro a F
   refine wl_skip rfl rfl rfl rfl (ne_ft hc4) F rfl rfl ?_; clear F a; intro a F
   refine wE (ev_pickT rfl hc4 rfl) F S rfl fun a F=>?_
   obtain rfl := sinj hm
   refine wpList_nil (then_n ?_); exact ⟨rfl, F.sub ⟨rfl, rfl, rfl, trivial⟩⟩
  ·refine wl_ev (wg F rfl rfl rfl rfl hc4) (ev_move rfl) F S rfl rfl ?_; clear F a; intro a F
   refine wl_ev (wg F rfl rfl rfl rfl hc4) (ev_int rfl rfl (bo_geq _ _ _ _)) F S rfl rfl ?_; clear F a; intro a F
   refine wl_ev (wg F rfl rfl rfl rfl hc4) (ev_move rfl) F S rfl rfl ?_; clear F a; intro a F
   obtain ⟨x5, hx5, hm⟩ := bind_some hm
   refine wl_cut 3 (fun a w' => w = w' ∧ Fr 37 a [(23, .bool x5), (17, .bool x2), (2, .bool false), (0, .int .u8 c_)]) ?_ ?_
   ·clear hm; obtain ⟨hc5, hm⟩ | ⟨hc5, hm⟩ := ite_or hx5
    ·refine wl_ev (wg F rfl rfl rfl rfl hc5) (ev_move rfl) F S rfl rfl ?_; clear F a; intro a F
     refine wl_ev (wg F rfl rfl rfl rfl hc5) (ev_int rfl rfl (bo_leq _ _ _ _)) F S rfl rfl ?_; clear F a; intro a F
     refine wl_ev (wg F rfl rfl rfl rfl hc4) (ev_pickT rfl hc5 rfl) F S rfl rfl ?_; clear F a; intro a F
     obtain rfl := sinj hm
     refine wpList_nil (then_n ?_); exact ⟨rfl, F.sub ⟨rfl, rfl, rfl, rfl, trivial⟩⟩
    ·refine wl_skip rfl rfl rfl rfl (ne_tf hc5) F rfl rfl ?_; clear F a; intro a F
     refine wl_skip rfl rfl rfl rfl (ne_tf hc5) F rfl rfl ?_; clear F a; intro a F
     refine wl_ev (wg F rfl rfl rfl rfl hc4) (ev_pickF rfl hc5 rfl) F S rfl rfl ?_; clear F a; intro a F
     obtain rfl := sinj hm
     refine wpList_nil (then_n ?_); exact ⟨rfl, F.sub ⟨rfl, rfl, rfl, rfl, trivial⟩⟩
   clear F; rintro a w' ⟨rfl, F⟩
   refine wE (ev_pickF rfl hc4 rfl) F S rfl fun a F=>?_
   obtain rfl := sinj hm
   refine wpList_nil (then_n ?_); exact ⟨rfl, F.sub ⟨rfl, rfl, rfl, trivial⟩⟩
 clear F; rintro a w' ⟨rfl, F⟩
 refine wE (ev_move rfl) F S rfl fun a F=>?_
 obtain ⟨x6, hx6, hm⟩ := bind_some hm
 refine wl_cut 3 (fun a w' => w = w' ∧ Fr 37 a [(28, .bool x6), (2, .bool false), (0, .int .u8 c_)]) ?_ ?_
 ·clear hm; obtain ⟨hc6, hm⟩ | ⟨hc6, hm⟩ := ite_or hx6
  ·refine wl_skip rfl rfl rfl rfl (ne_ft hc6) F rfl rfl ?_; clear F a; intro a F
   refine wl_skip rfl rfl rfl rfl (ne_ft hc6) F rfl rfl ?_; clear F a; intro a F
   refine wE (ev_pickT rfl hc6 rfl) F S rfl fun a F=>?_
   obtain rfl := sinj hm
   refine wpList_nil (then_n ?_); exact ⟨rfl, F.sub ⟨rfl, rfl, rfl, trivial⟩⟩
  ·refine wl_ev (wg F rfl rfl rfl rfl hc6) (ev_move rfl) F S rfl rfl ?_; clear F a; intro a F
   refine wl_ev (wg F rfl rfl rfl rfl hc6) (ev_int rfl rfl (bo_eql _ _ _ _)) F S rfl rfl ?_; clear F a; intro a F
   refine wE (ev_pickF rfl hc6 rfl) F S rfl fun a F=>?_
   obtain rfl := sinj hm
   refine wpList_nil (then_n ?_); exact ⟨rfl, F.sub ⟨rfl, rfl, rfl, trivial⟩⟩
 clear F; rintro a w' ⟨rfl, F⟩
 refine wE (ev_move rfl) F S rfl fun a F=>?_
 obtain ⟨x7, hx7, hm⟩ := bind_some hm
 refine wl_cut 3 (fun a w' => w = w' ∧ Fr 37 a [(32, .bool x7), (2, .bool false), (0, .int .u8 c_)]) ?_ ?_
 ·clear hm; obtain ⟨hc7, hm⟩ | ⟨hc7, hm⟩ := ite_or hx7
  ·refine wl_skip rfl rfl rfl rfl (ne_ft hc7) F rfl rfl ?_; clear F a; intro a F
   refine wl_skip rfl rfl rfl rfl (ne_ft hc7) F rfl rfl ?_; clear F a; intro a F
   refine wE (ev_pickT rfl hc7 rfl) F S rfl fun a F=>?_
   obtain rfl := sinj hm
   refine wpList_nil (then_n ?_); exact ⟨rfl, F.sub ⟨rfl, rfl, rfl, trivial⟩⟩
  ·refine wl_ev (wg F rfl rfl rfl rfl hc7) (ev_move rfl) F S rfl rfl ?_; clear F a; intro a F
   refine wl_ev (wg F rfl rfl rfl rfl hc7) (ev_int rfl rfl (bo_eql _ _ _ _)) F S rfl rfl ?_; clear F a; intro a F
   refine wE (ev_pickF rfl hc7 rfl) F S rfl fun a F=>?_
   obtain rfl := sinj hm
   refine wpList_nil (then_n ?_); exact ⟨rfl, F.sub ⟨rfl, rfl, rfl, trivial⟩⟩
 clear F; rintro a w' ⟨rfl, F⟩
 refine wE (ev_move rfl) F S rfl fun a F=>?_
 obtain ⟨x8, hx8, hm⟩ := bind_some hm
 refine wl_cut 3 (fun a w' => w = w' ∧ Fr 37 a [(36, .bool x8), (2, .bool false)]) ?_ ?_
 ·clear hm; obtain ⟨hc8, hm⟩ | ⟨hc8, hm⟩ := ite_or hx8
  ·refine wl_skip rfl rfl rfl rfl (ne_ft hc8) F rfl rfl ?_; clear F a; intro a F
   refine wl_skip rfl rfl rfl rfl (ne_ft hc8) F rfl rfl ?_; clear F a; intro a F
   refine wE (ev_pickT rfl hc8 rfl) F S rfl fun a F=>?_
   obtain rfl := sinj hm
   refine wpList_nil (then_n ?_); exact ⟨rfl, F.sub ⟨rfl, rfl, trivial⟩⟩
  ·refine wl_ev (wg F rfl rfl rfl rfl hc8) (ev_move rfl) F S rfl rfl ?_; clear F a; intro a F
   refine wl_ev (wg F rfl rfl rfl rfl hc8) (ev_int rfl rfl (bo_eql _ _ _ _)) F S rfl rfl ?_; clear F a; intro a F
   refine wE (ev_pickF rfl hc8 rfl) F S rfl fun a F=>?_
   obtain rfl := sinj hm
   refine wpList_nil (then_n ?_); exact ⟨rfl, F.sub ⟨rfl, rfl, trivial⟩⟩
 clear F; rintro a w' ⟨rfl, F⟩
 refine wE (ev_assign rfl) F S rfl fun a F=>?_
 refine wpList_nil ?_
 refine then_n ?_
 refine wp_ret ?_
 obtain rfl := sinj hm
 refine post_r _ F rfl (ar_cons (resT rfl) ar_nil) ?_
 exact ⟨_, rfl, g, (Le.refl _), S, rfl⟩

theorem changeforgeref2_PathValid_ok {g : Gh} {fr : Hl} {w : World} {r : Bool} (s_ : ByteArray) (S : St g [] fr w) (hm : changeforgeref2_PathValid s_ = some r) :
  Calls Tryz.prog 129 [.string s_].toArray w (fun en w' => ∃ v, en = .returned v ∧ ∃ (g' : Gh), Le g g' ∧ St g' [] fr w' ∧ .bool r = v) := by
 unfold changeforgeref2_PathValid at hm
 refine calls_enter (fn := Tryz.f129) Tryz.func129 rfl Tryz.ntmps129 (lb rfl) ?_
 intro a F
 replace F : Fr 47 a [(0, .string s_)] := F
 refine wp_seq ?_
 refine wp_region_lit ?_
 refine wE (ev_assign rfl) F S rfl fun a F=>?_
 refine wpList_nil ?_
 refine then_n ?_
 refine wp_seq ?_
 refine wp_seq ?_
 refine wp_region_lit ?_
 refine wE (ev_move rfl) F S rfl fun a F=>?_
 refine wE (ev_lenS rfl tu9) F S rfl fun a F=>?_
 refine wE (ev_int rfl rfl (bo_gtr _ _ _ _)) F S rfl fun a F=>?_
 refine wpList_nil ?_
 refine then_n ?_
 obtain ⟨hc1, hm⟩ | ⟨hc1, hm⟩ := ite_or hm
 ·refine wp_condT F rfl hc1 ?_
  refine wp_seq ?_
  refine wp_region_lit ?_
  refine wE (ev_assign rfl) F S rfl fun a F=>?_
  refine wpList_nil ?_
  refine then_n ?_
  refine wp_ret ?_
  refine then_r ?_
  obtain rfl := sinj hm
  refine post_r _ F rfl (ar_cons (resT rfl) ar_nil) ?_
  exact ⟨_, rfl, g, (Le.refl _), S, rfl⟩
 ·refine wp_condF F rfl hc1 ?_
  refine wp_skip ?_
  refine then_n ?_
  refine wp_seq ?_
  refine wp_region_lit ?_
  refine wE (ev_move rfl) F S rfl fun a F=>?_
  refine wE (ev_lenS rfl tu9) F S rfl fun a F=>?_
  refine wE (ev_assign rfl) F S rfl fun a F=>?_
  refine wpList_nil ?_
  refine then_n ?_
  refine wp_cut (fun a w => ∃ (g1 : Gh), Fr 47 a [] ∧ Le g g1 ∧ St g1 [] fr w ∧ changeforgeref2_PathValid.j1 = some r) ?_ ?_
  ·refine wp_seq ?_
   refine wp_region_lit ?_
   refine wE (ev_move rfl) F S rfl fun a F=>?_
   refine wE (ev_lenS rfl tu9) F S rfl fun a F=>?_
   obtain ⟨z1, hz1, hm⟩ := bind_some hm
   refine wE (ev_int rfl rfl (bo_sub hz1)) F S rfl fun a F=>?_
   refine wE (ev_assign rfl) F S rfl fun a F=>?_
   refine wpList_nil ?_
   refine then_n ?_
   refine wp_block ?_
   obtain ⟨r1, hr1, hm⟩ := bind_some hm
   have hmo1 := hm; clear hm
   refine wp_iter (σ := Int × Int) (ρ := Bool ⊕ Unit) (m := fun s => changeforgeref2_PathValid.l1 s_ s.1 s.2) (I := fun s a w => match s with | (x1, x2) => ∃ (g2 : Gh), Fr 47 a [(4, .i6 x1), (3, .i6 x2), (0, .string s_)] ∧ Le g g2 ∧ St g2 [] fr w) hr1 ?_ ?_
   ·dsimp only
    exact ⟨g, F.sub ⟨rfl, rfl, rfl, trivial⟩, (Le.refl _), S⟩
   ·clear F S; rintro ⟨x1, x2⟩ a w x3 ⟨g2, F, l2, S⟩ hx1 hfin1
    have hm : changeforgeref2_PathValid.l1 s_ x1 x2 = some x3 := hx1; clear hx1
    unfold changeforgeref2_PathValid.l1 at hm
    refine wp_seq ?_
    refine wp_seq ?_
    refine wp_region_lit ?_
    refine wE (ev_move rfl) F S rfl fun a F=>?_
    refine wE (ev_int rfl rfl (bo_geq _ _ _ _)) F S rfl fun a F=>?_
    refine wpList_nil ?_
    refine then_n ?_
    obtain ⟨hc2, hm⟩ | ⟨hc2, hm⟩ := ite_or hm
    ·refine wp_condT F rfl hc2 ?_
     refine wp_skip ?_
     refine then_n ?_
     refine wp_cut (fun a w => ∃ (x4 : Int) (g3 : Gh), Fr 47 a [(4, .i6 x1), (3, .i6 x4), (0, .string s_)] ∧ Le g2 g3 ∧ St g3 [] fr w ∧ changeforgeref2_PathValid.j2 x1 x4 = some x3) ?_ ?_
     ·refine wp_block ?_
      refine wp_seq ?_
      refine wp_seq ?_
      refine wp_region_lit ?_
      refine wE (ev_move rfl) F S rfl fun a F=>?_
      refine wE (ev_int rfl rfl (bo_geq _ _ _ _)) F S rfl fun a F=>?_
      refine wE (ev_move rfl) F S rfl fun a F=>?_
      obtain ⟨x5, hx2, hm⟩ := bind_some hm
      refine wl_cut 5 (fun a w' => w = w' ∧ Fr 47 a [(25, .bool x5), (4, .i6 x1), (3, .i6 x2), (0, .string s_)]) ?_ ?_
      ·clear hm; obtain ⟨hc3, hm⟩ | ⟨hc3, hm⟩ := ite_or hx2
       ·refine wl_ev (wg F rfl rfl rfl rfl hc3) (ev_move rfl) F S rfl rfl ?_; clear F a; intro a F
        refine wl_ev (wg F rfl rfl rfl rfl hc3) (ev_move rfl) F S rfl rfl ?_; clear F a; intro a F
        obtain ⟨y1, hy1, hm⟩ := bind_some hm
        refine wl_ev (wg F rfl rfl rfl rfl hc3) (ev_sAt hy1 tu9 rfl rfl) F S rfl rfl ?_; clear F a; intro a F
        refine wl_ev (wg F rfl rfl rfl rfl hc3) (ev_int rfl rfl (bo_neq _ _ _ _)) F S rfl rfl ?_; clear F a; intro a F
        refine wE (ev_pickT rfl hc3 rfl) F S rfl fun a F=>?_
        obtain rfl := sinj hm
        refine wpList_nil (then_n ?_); exact ⟨rfl, F.sub ⟨rfl, rfl, rfl, rfl, trivial⟩⟩
       ·refine wl_skip rfl rfl rfl rfl (ne_tf hc3) F rfl rfl ?_; clear F a; intro a F
        refine wl_skip rfl rfl rfl rfl (ne_tf hc3) F rfl rfl ?_; clear F a; intro a F
        refine wl_skip rfl rfl rfl rfl (ne_tf hc3) F rfl rfl ?_; clear F a; intro a F
        refine wl_skip rfl rfl rfl rfl (ne_tf hc3) F rfl rfl ?_; clear F a; intro a F
        refine wE (ev_pickF rfl hc3 rfl) F S rfl fun a F=>?_
        obtain rfl := sinj hm
        refine wpList_nil (then_n ?_); exact ⟨rfl, F.sub ⟨rfl, rfl, rfl, rfl, trivial⟩⟩
      clear F; rintro a w' ⟨rfl, F⟩
      refine wpList_nil ?_
      refine then_n ?_
      obtain ⟨hc4, hm⟩ | ⟨hc4, hm⟩ := ite_or hm
      ·refine wp_condT F rfl hc4 ?_
       refine wp_seq ?_
       refine wp_seq ?_
       refine wp_region_lit ?_
       refine wE (ev_move rfl) F S rfl fun a F=>?_
       refine wE (ev_move rfl) F S rfl fun a F=>?_
       obtain ⟨y2, hy2, hm⟩ := bind_some hm
       refine wE (ev_sAt hy2 tu9 rfl rfl) F S rfl fun a F=>?_
       obtain ⟨y3, hy3, hm⟩ := bind_some hm
       refine wl_call0 (wn rfl) rfl F rfl (changeforgeref2_pathByte_ok y2 S hy3) rfl tc146 rfl rfl ?_; clear F a S
       rintro _ a w ⟨g4, l4, S, rfl⟩ F; replace S : St g4 [] fr w := S
       refine wE (ev_not rfl) F S rfl fun a F=>?_
       refine wpList_nil ?_
       refine then_n ?_
       obtain ⟨hc5, hm⟩ | ⟨hc5, hm⟩ := ite_or hm
       ·refine wp_condT F rfl hc5 ?_
        refine wp_seq ?_
        refine wp_region_lit ?_
        refine wE (ev_assign rfl) F S rfl fun a F=>?_
        refine wpList_nil ?_
        refine then_n ?_
        refine wp_ret ?_
        refine then_r ?_
        refine then_r ?_
        refine inb_r ?_
        refine then_r ?_
        refine then_r ?_
        refine inb_r ?_
        refine then_r ?_
        obtain rfl := sinj hm
        obtain rfl := hfin1 _ rfl
        clear hm
        have hm : (some false : Option Bool) = some _ := hmo1
        obtain rfl := sinj hm
        refine post_r _ F rfl (ar_cons (resT rfl) ar_nil) ?_
        exact ⟨_, rfl, g4, (l2.trans l4), S, rfl⟩
       ·refine wp_condF F rfl hc5 ?_
        refine wp_skip ?_
        refine then_n ?_
        refine wp_exit ?_
        refine then_e ?_
        refine inb_x ?_
        refine then_n ?_
        exact ⟨x2, g4, F.sub ⟨rfl, rfl, rfl, trivial⟩, l4, S, hm⟩
      ·refine wp_condF F rfl hc4 ?_
       refine wp_skip ?_
       refine then_n ?_
       refine wp_seq ?_
       refine wp_region_lit ?_
       refine wE (ev_move rfl) F S rfl fun a F=>?_
       refine wE (ev_move rfl) F S rfl fun a F=>?_
       obtain ⟨z3, hz3, hm⟩ := bind_some hm
       refine wE (ev_int rfl rfl (bo_add hz3)) F S rfl fun a F=>?_
       refine wE (ev_move rfl) F S rfl fun a F=>?_
       obtain ⟨y4, hy4, hm⟩ := bind_some hm
       refine wE (ev_scut hy4 tu9 rfl (bndV rfl) (bndV rfl)) F S rfl fun a F=>?_
       refine wE (ev_assign rfl) F S rfl fun a F=>?_
       refine wpList_nil ?_
       refine then_n ?_
       refine wp_seq ?_
       refine wp_seq ?_
       refine wp_region_lit ?_
       refine wE (ev_move rfl) F S rfl fun a F=>?_
       refine wE (ev_str rfl rfl (bs_eql _ _ _)) F S rfl fun a F=>?_
       refine wE (ev_move rfl) F S rfl fun a F=>?_
       obtain ⟨x6, hx3, hm⟩ := bind_some hm
       refine wl_cut 3 (fun a w' => w = w' ∧ Fr 47 a [(41, .bool x6), (5, .string y4), (4, .i6 x1), (0, .string s_)]) ?_ ?_
       ·clear hm; obtain ⟨hc6, hm⟩ | ⟨hc6, hm⟩ := ite_or hx3
        ·refine wl_skip rfl rfl rfl rfl (ne_ft hc6) F rfl rfl ?_; clear F a; intro a F
         refine wl_skip rfl rfl rfl rfl (ne_ft hc6) F rfl rfl ?_; clear F a; intro a F
         refine wE (ev_pickT rfl hc6 rfl) F S rfl fun a F=>?_
         obtain rfl := sinj hm
         refine wpList_nil (then_n ?_); exact ⟨rfl, F.sub ⟨rfl, rfl, rfl, rfl, trivial⟩⟩
        ·refine wl_ev (wg F rfl rfl rfl rfl hc6) (ev_move rfl) F S rfl rfl ?_; clear F a; intro a F
         refine wl_ev (wg F rfl rfl rfl rfl hc6) (ev_str rfl rfl (bs_eql _ _ _)) F S rfl rfl ?_; clear F a; intro a F
         refine wE (ev_pickF rfl hc6 rfl) F S rfl fun a F=>?_
         obtain rfl := sinj hm
         refine wpList_nil (then_n ?_); exact ⟨rfl, F.sub ⟨rfl, rfl, rfl, rfl, trivial⟩⟩
       clear F; rintro a w' ⟨rfl, F⟩
       refine wE (ev_move rfl) F S rfl fun a F=>?_
       obtain ⟨x7, hx4, hm⟩ := bind_some hm
       refine wl_cut 3 (fun a w' => w = w' ∧ Fr 47 a [(45, .bool x7), (4, .i6 x1), (0, .string s_)]) ?_ ?_
       ·clear hm; obtain ⟨hc7, hm⟩ | ⟨hc7, hm⟩ := ite_or hx4
        ·refine wl_skip rfl rfl rfl rfl (ne_ft hc7) F rfl rfl ?_; clear F a; intro a F
         refine wl_skip rfl rfl rfl rfl (ne_ft hc7) F rfl rfl ?_; clear F a; intro a F
         refine wE (ev_pickT rfl hc7 rfl) F S rfl fun a F=>?_
         obtain rfl := sinj hm
         refine wpList_nil (then_n ?_); exact ⟨rfl, F.sub ⟨rfl, rfl, rfl, trivial⟩⟩
        ·refine wl_ev (wg F rfl rfl rfl rfl hc7) (ev_move rfl) F S rfl rfl ?_; clear F a; intro a F
         refine wl_ev (wg F rfl rfl rfl rfl hc7) (ev_str rfl rfl (bs_eql _ _ _)) F S rfl rfl ?_; clear F a; intro a F
         refine wE (ev_pickF rfl hc7 rfl) F S rfl fun a F=>?_
         obtain rfl := sinj hm
         refine wpList_nil (then_n ?_); exact ⟨rfl, F.sub ⟨rfl, rfl, rfl, trivial⟩⟩
       clear F; rintro a w' ⟨rfl, F⟩
       refine wpList_nil ?_
       refine then_n ?_
       obtain ⟨hc8, hm⟩ | ⟨hc8, hm⟩ := ite_or hm
       ·refine wp_condT F rfl hc8 ?_
        refine wp_seq ?_
        refine wp_region_lit ?_
        refine wE (ev_assign rfl) F S rfl fun a F=>?_
        refine wpList_nil ?_
        refine then_n ?_
        refine wp_ret ?_
        refine then_r ?_
        refine inb_r ?_
        refine then_r ?_
        refine then_r ?_
        refine inb_r ?_
        refine then_r ?_
        obtain rfl := sinj hm
        obtain rfl := hfin1 _ rfl
        clear hm
        have hm : (some false : Option Bool) = some _ := hmo1
        obtain rfl := sinj hm
        refine post_r _ F rfl (ar_cons (resT rfl) ar_nil) ?_
        exact ⟨_, rfl, g2, l2, S, rfl⟩
       ·refine wp_condF F rfl hc8 ?_
        refine wp_skip ?_
        refine then_n ?_
        refine wp_region_lit ?_
        refine wE (ev_move rfl) F S rfl fun a F=>?_
        refine wE (ev_assign rfl) F S rfl fun a F=>?_
        refine wpList_nil ?_
        refine inb_n ?_
        refine then_n ?_
        exact ⟨x1, g2, F.sub ⟨rfl, rfl, rfl, trivial⟩, (Le.refl _), S, hm⟩
     ·clear F S hm; rintro a w ⟨x4, g3, F, l3, S, hm⟩
      refine wp_region_lit ?_
      refine wE (ev_move rfl) F S rfl fun a F=>?_
      obtain ⟨z2, hz2, hm⟩ := bind_some hm
      refine wE (ev_int rfl rfl (bo_sub hz2)) F S rfl fun a F=>?_
      refine wE (ev_assign rfl) F S rfl fun a F=>?_
      refine wpList_nil ?_
      refine then_n ?_
      obtain rfl := sinj hm
      refine ⟨_, rfl, ?_⟩
      dsimp only
      exact ⟨g3, F.sub ⟨rfl, rfl, rfl, trivial⟩, (l2.trans l3), S⟩
    ·refine wp_condF F rfl hc2 ?_
     refine wp_exit ?_
     refine then_e ?_
     refine then_e ?_
     refine inb_x ?_
     refine then_n ?_
     obtain rfl := sinj hm
     obtain rfl := hfin1 _ rfl
     clear hm
     have hm : (changeforgeref2_PathValid.j1 : Option Bool) = some _ := hmo1
     exact ⟨g2, F.sub trivial, l2, S, hm⟩
  ·clear F S hm; rintro a w ⟨g1, F, l1, S, hm⟩
   refine wp_seq ?_
   refine wp_region_lit ?_
   refine wE (ev_assign rfl) F S rfl fun a F=>?_
   refine wpList_nil ?_
   refine then_n ?_
   refine wp_ret ?_
   obtain rfl := sinj hm
   refine post_r _ F rfl (ar_cons (resT rfl) ar_nil) ?_
   exact ⟨_, rfl, g1, l1, S, rfl⟩

theorem changeforgeref2_Related.body_ok {rec_ : ByteArray → ByteArray → Option Bool} (hrec : ∀ {g : Gh} {fr : Hl} {w : World} {r : Bool} (a_ : ByteArray) (b_ : ByteArray) (S : St g [] fr w) (hm : rec_ a_ b_ = some r), Calls Tryz.prog 130 [.string a_, .string b_].toArray w (fun en w' => ∃ v, en = .returned v ∧ ∃ (g' : Gh), Le g g' ∧ St g' [] fr w' ∧ .bool r = v)) {g : Gh} {fr : Hl} {w : World} {r : Bool} (a_ : ByteArray) (b_ : ByteArray) (S : St g [] fr w) (hm : changeforgeref2_Related.body rec_ a_ b_ = some r) :
  Calls Tryz.prog 130 [.string a_, .string b_].toArray w (fun en w' => ∃ v, en = .returned v ∧ ∃ (g' : Gh), Le g g' ∧ St g' [] fr w' ∧ .bool r = v) := by
 unfold changeforgeref2_Related.body at hm
 refine calls_enter (fn := Tryz.f130) Tryz.func130 rfl Tryz.ntmps130 (lb rfl) ?_
 intro a F
 replace F : Fr 33 a [(0, .string a_), (1, .string b_)] := F
 refine wp_seq ?_
 refine wp_region_lit ?_
 refine wE (ev_assign rfl) F S rfl fun a F=>?_
 refine wpList_nil ?_
 refine then_n ?_
 refine wp_seq ?_
 refine wp_seq ?_
 refine wp_region_lit ?_
 refine wE (ev_move rfl) F S rfl fun a F=>?_
 refine wE (ev_lenS rfl tu9) F S rfl fun a F=>?_
 refine wE (ev_move rfl) F S rfl fun a F=>?_
 refine wE (ev_lenS rfl tu9) F S rfl fun a F=>?_
 refine wE (ev_int rfl rfl (bo_gtr _ _ _ _)) F S rfl fun a F=>?_
 refine wpList_nil ?_
 refine then_n ?_
 obtain ⟨hc1, hm⟩ | ⟨hc1, hm⟩ := ite_or hm
 ·refine wp_condT F rfl hc1 ?_
  refine wp_seq ?_
  refine wp_region_lit ?_
  refine wE (ev_move rfl) F S rfl fun a F=>?_
  refine wE (ev_move rfl) F S rfl fun a F=>?_
  obtain ⟨y1, hy1, hm⟩ := bind_some hm
  refine wl_call0 (wn rfl) rfl F rfl (hrec b_ a_ S hy1) rfl tc130 rfl rfl ?_; clear F a S
  rintro _ a w ⟨g1, l1, S, rfl⟩ F; replace S : St g1 [] fr w := S
  refine wE (ev_assign rfl) F S rfl fun a F=>?_
  refine wpList_nil ?_
  refine then_n ?_
  refine wp_ret ?_
  refine then_r ?_
  obtain rfl := sinj hm
  refine post_r _ F rfl (ar_cons (resT rfl) ar_nil) ?_
  exact ⟨_, rfl, g1, l1, S, rfl⟩
 ·refine wp_condF F rfl hc1 ?_
  refine wp_skip ?_
  refine then_n ?_
  refine wp_seq ?_
  refine wp_region_lit ?_
  refine wE (ev_move rfl) F S rfl fun a F=>?_
  refine wE (ev_move rfl) F S rfl fun a F=>?_
  refine wE (ev_lenS rfl tu9) F S rfl fun a F=>?_
  obtain ⟨y2, hy2, hm⟩ := bind_some hm
  refine wE (ev_scut hy2 tu9 rfl (bnd0 _) (bndV rfl)) F S rfl fun a F=>?_
  refine wE (ev_move rfl) F S rfl fun a F=>?_
  refine wE (ev_str rfl rfl (bs_eql _ _ _)) F S rfl fun a F=>?_
  refine wE (ev_move rfl) F S rfl fun a F=>?_
  obtain ⟨x1, hx1, hm⟩ := bind_some hm
  refine wl_cut 13 (fun a w' => w = w' ∧ Fr 33 a [(32, .bool x1), (4, .bool false)]) ?_ ?_
  ·clear hm; obtain ⟨hc2, hm⟩ | ⟨hc2, hm⟩ := ite_or hx1
   ·refine wl_ev (wg F rfl rfl rfl rfl hc2) (ev_move rfl) F S rfl rfl ?_; clear F a; intro a F
    refine wl_ev (wg F rfl rfl rfl rfl hc2) (ev_lenS rfl tu9) F S rfl rfl ?_; clear F a; intro a F
    refine wl_ev (wg F rfl rfl rfl rfl hc2) (ev_move rfl) F S rfl rfl ?_; clear F a; intro a F
    refine wl_ev (wg F rfl rfl rfl rfl hc2) (ev_lenS rfl tu9) F S rfl rfl ?_; clear F a; intro a F
    refine wl_ev (wg F rfl rfl rfl rfl hc2) (ev_int rfl rfl (bo_eql _ _ _ _)) F S rfl rfl ?_; clear F a; intro a F
    refine wl_ev (wg F rfl rfl rfl rfl hc2) (ev_move rfl) F S rfl rfl ?_; clear F a; intro a F
    obtain ⟨x2, hx2, hm⟩ := bind_some hm
    refine wl_cut 6 (fun a w' => w = w' ∧ Fr 33 a [(31, .bool x2), (19, .bool (decide (y2 = a_))), (4, .bool false)]) ?_ ?_
    ·clear hm; obtain ⟨hc3, hm⟩ | ⟨hc3, hm⟩ := ite_or hx2
     ·refine wl_skip rfl rfl rfl rfl (ne_ft hc3) F rfl rfl ?_; clear F a; intro a F
      refine wl_skip rfl rfl rfl rfl (ne_ft hc3) F rfl rfl ?_; clear F a; intro a F
      refine wl_skip rfl rfl rfl rfl (ne_ft hc3) F rfl rfl ?_; clear F a; intro a F
      refine wl_skip rfl rfl rfl rfl (ne_ft hc3) F rfl rfl ?_; clear F a; intro a F
      refine wl_skip rfl rfl rfl rfl (ne_ft hc3) F rfl rfl ?_; clear F a; intro a F
      refine wl_ev (wg F rfl rfl rfl rfl hc2) (ev_pickT rfl hc3 rfl) F S rfl rfl ?_; clear F a; intro a F
      obtain rfl := sinj hm
      refine wpList_nil (then_n ?_); exact ⟨rfl, F.sub ⟨rfl, rfl, rfl, trivial⟩⟩
     ·refine wl_ev (wg F rfl rfl rfl rfl hc3) (ev_move rfl) F S rfl rfl ?_; clear F a; intro a F
      refine wl_ev (wg F rfl rfl rfl rfl hc3) (ev_move rfl) F S rfl rfl ?_; clear F a; intro a F
      refine wl_ev (wg F rfl rfl rfl rfl hc3) (ev_lenS rfl tu9) F S rfl rfl ?_; clear F a; intro a F
      obtain ⟨y3, hy3, hm⟩ := bind_some hm
      refine wl_ev (wg F rfl rfl rfl rfl hc3) (ev_sAt hy3 tu9 rfl rfl) F S rfl rfl ?_; clear F a; intro a F
      refine wl_ev (wg F rfl rfl rfl rfl hc3) (ev_int rfl rfl (bo_eql _ _ _ _)) F S rfl rfl ?_; clear F a; intro a F
      refine wl_ev (wg F rfl rfl rfl rfl hc2) (ev_pickF rfl hc3 rfl) F S rfl rfl ?_; clear F a; intro a F
      obtain rfl := sinj hm
      refine wpList_nil (then_n ?_); exact ⟨rfl, F.sub ⟨rfl, rfl, rfl, trivial⟩⟩
    clear F; rintro a w' ⟨rfl, F⟩
    refine wE (ev_pickT rfl hc2 rfl) F S rfl fun a F=>?_
    obtain rfl := sinj hm
    refine wpList_nil (then_n ?_); exact ⟨rfl, F.sub ⟨rfl, rfl, trivial⟩⟩
   ·refine wl_skip rfl rfl rfl rfl (ne_tf hc2) F rfl rfl ?_; clear F a; intro a F
    refine wl_skip rfl rfl rfl rfl (ne_tf hc2) F rfl rfl ?_; clear F a; intro a F
    refine wl_skip rfl rfl rfl rfl (ne_tf hc2) F rfl rfl ?_; clear F a; intro a F
    refine wl_skip rfl rfl rfl rfl (ne_tf hc2) F rfl rfl ?_; clear F a; intro a F
    refine wl_skip rfl rfl rfl rfl (ne_tf hc2) F rfl rfl ?_; clear F a; intro a F
    refine wl_skip rfl rfl rfl rfl (ne_tf hc2) F rfl rfl ?_; clear F a; intro a F
    refine wl_skipu rfl rfl rfl rfl F rfl rfl ?_; clear F a; intro a F
    refine wl_skipu rfl rfl rfl rfl F rfl rfl ?_; clear F a; intro a F
    refine wl_skipu rfl rfl rfl rfl F rfl rfl ?_; clear F a; intro a F
    refine wl_skipu rfl rfl rfl rfl F rfl rfl ?_; clear F a; intro a F
    refine wl_skipu rfl rfl rfl rfl F rfl rfl ?_; clear F a; intro a F
    refine wl_skip rfl rfl rfl rfl (ne_tf hc2) F rfl rfl ?_; clear F a; intro a F
    refine wE (ev_pickF rfl hc2 rfl) F S rfl fun a F=>?_
    obtain rfl := sinj hm
    refine wpList_nil (then_n ?_); exact ⟨rfl, F.sub ⟨rfl, rfl, trivial⟩⟩
  clear F; rintro a w' ⟨rfl, F⟩
  refine wE (ev_assign rfl) F S rfl fun a F=>?_
  refine wpList_nil ?_
  refine then_n ?_
  refine wp_ret ?_
  obtain rfl := sinj hm
  refine post_r _ F rfl (ar_cons (resT rfl) ar_nil) ?_
  exact ⟨_, rfl, g, (Le.refl _), S, rfl⟩

theorem changeforgeref2_Related.m_ok : ∀ (fu_ : Nat) {g : Gh} {fr : Hl} {w : World} {r : Bool} (a_ : ByteArray) (b_ : ByteArray) (S : St g [] fr w) (hm : changeforgeref2_Related.m fu_ a_ b_ = some r), Calls Tryz.prog 130 [.string a_, .string b_].toArray w (fun en w' => ∃ v, en = .returned v ∧ ∃ (g' : Gh), Le g g' ∧ St g' [] fr w' ∧ .bool r = v)
 | 0 => by intros; rename_i hm; cases hm
 | fu_ + 1 => changeforgeref2_Related.body_ok (changeforgeref2_Related.m_ok fu_)

theorem changeforgeref2_Related_ok {g : Gh} {fr : Hl} {w : World} {r : Bool} (a_ : ByteArray) (b_ : ByteArray) (S : St g [] fr w) (hm : changeforgeref2_Related a_ b_ = some r) :
  Calls Tryz.prog 130 [.string a_, .string b_].toArray w (fun en w' => ∃ v, en = .returned v ∧ ∃ (g' : Gh), Le g g' ∧ St g' [] fr w' ∧ .bool r = v) := changeforgeref2_Related.m_ok _ a_ b_ S hm

theorem changeforgeref2_TreeFault_ok {g : Gh} {fr : Hl} {w : World} {r : Fault} (t_ : FileTree) (vt_1 : Value) (ht_1 : RepSl g t_.Files vt_1) (S : St g [] fr w) (hm : changeforgeref2_TreeFault t_ = some r) :
  Calls Tryz.prog 90 [.agg #[vt_1]].toArray w (fun en w' => ∃ v, en = .returned v ∧ ∃ (g' : Gh), Le g g' ∧ St g' [] fr w' ∧ .agg #[.i6 r.Code, .i6 r.Index] = v) := by
 unfold changeforgeref2_TreeFault at hm
 refine calls_enter (fn := Tryz.f90) Tryz.func90 rfl Tryz.ntmps90 (lb rfl) ?_
 intro a F
 replace F : Fr 71 a [(0, .agg #[vt_1])] := F
 refine wp_seq ?_
 refine wp_region_lit ?_
 refine wl_boxC (wn rfl) rfl rfl rfl F S rfl rfl ?_; clear F a S; rintro b1 a w F S
 refine wl_alloc (wn rfl) rfl tz32 (cs := [.i6 0, .i6 0]) rfl F S rfl rfl ?_; clear F a S; rintro b2 a w F S
 refine wpList_nil ?_
 refine then_n ?_
 refine wp_seq ?_
 refine wp_seq ?_
 refine wp_region_lit ?_
 refine wE (ev_fieldAddr' tu24 tf24_0 (z := 0) ts22 rfl ⟨_, rfl⟩ rfl) F S rfl fun a F=>?_
 refine wE (ev_load1 tu22 rfl rfl (box_ptr (cells := [vt_1]) 1 rfl 0 rfl (lb rfl))) F S rfl fun a F=>?_
 refine wE (ev_lenSh ht_1 rfl tu22) F S rfl fun a F=>?_
 refine wE (ev_int rfl rfl (bo_gtr _ _ _ _)) F S rfl fun a F=>?_
 refine wpList_nil ?_
 refine then_n ?_
 obtain ⟨hc1, hm⟩ | ⟨hc1, hm⟩ := ite_or hm
 ·refine wp_condT F rfl hc1 ?_
  refine wp_seq ?_
  refine wp_region_lit ?_
  obtain ⟨y1, hy1, hm⟩ := bind_some hm
  refine wl_call0 (wn rfl) rfl F rfl (changeforgeref1_At_ok (fr := (fl [[bx b2 #[.i6 0, .i6 0] 32], [bx b1 #[vt_1] 24]] fr)) 2 (-1) S hy1) rfl tc47 rfl rfl ?_; clear F a S
  rintro _ a w ⟨g1, l1, S, rfl⟩ F; replace S : St g1 [[bx b2 #[.i6 0, .i6 0] 32], [bx b1 #[vt_1] 24]] fr w := S
  refine wl_storeC (wn rfl) rfl F S rfl rfl (vs := [.i6 y1.Code, .i6 y1.Index]) rfl ts32 (one_cons rfl (one_cons rfl one_nil)) (k := 0) rfl (lb rfl) (c' := #[.i6 y1.Code, .i6 y1.Index]) rfl rfl ?_; clear S; intro w S
  refine wpList_nil ?_
  refine then_n ?_
  refine wp_ret ?_
  refine then_r ?_
  obtain rfl := sinj hm
  refine post_r _ F rfl (ar_cons (resA rfl tu32 rfl (box_ptr (cells := [.i6 y1.Code, .i6 y1.Index]) 0 rfl 0 rfl (lb rfl) w S) ts32) ar_nil) ?_
  replace S : St g1 [] fr w := St.tail [] _ S
  exact ⟨_, rfl, g1, l1, S, rfl⟩
 ·refine wp_condF F rfl hc1 ?_
  refine wp_skip ?_
  refine then_n ?_
  refine wp_cut (fun a w => ∃ (g2 : Gh), Fr 71 a [(2, bp b2 0)] ∧ Le g g2 ∧ St g2 [[bx b2 #[.i6 0, .i6 0] 32]] fr w ∧ changeforgeref2_TreeFault.j1 = some r) ?_ ?_
  ·refine wp_seq ?_
   refine wp_region_lit ?_
   refine wE (ev_assign rfl) F S rfl fun a F=>?_
   refine wpList_nil ?_
   refine then_n ?_
   refine wp_block ?_
   obtain ⟨r1, hr1, hm⟩ := bind_some hm
   have hmo1 := hm; clear hm
   refine wp_iter (σ := Int) (ρ := Fault ⊕ Unit) (m := fun s => changeforgeref2_TreeFault.l1 t_ s) (I := fun x1 a w => ∃ (g3 : Gh), Fr 71 a [(3, .i6 x1), (2, bp b2 0), (1, bp b1 0)] ∧ Le g g3 ∧ St g3 [[bx b2 #[.i6 0, .i6 0] 32], [bx b1 #[vt_1] 24]] fr w) hr1 ?_ ?_
   ·exact ⟨g, F.sub ⟨rfl, rfl, rfl, trivial⟩, (Le.refl _), S⟩
   ·clear F S; rintro x1 a w x2 ⟨g3, F, l3, S⟩ hx1 hfin1
    have hm : changeforgeref2_TreeFault.l1 t_ x1 = some x2 := hx1; clear hx1
    unfold changeforgeref2_TreeFault.l1 at hm
    refine wp_seq ?_
    refine wp_seq ?_
    refine wp_region_lit ?_
    refine wE (ev_move rfl) F S rfl fun a F=>?_
    refine wE (ev_fieldAddr' tu24 tf24_0 (z := 0) ts22 rfl ⟨_, rfl⟩ rfl) F S rfl fun a F=>?_
    refine wE (ev_load1 tu22 rfl rfl (box_ptr (cells := [vt_1]) 1 rfl 0 rfl (lb rfl))) F S rfl fun a F=>?_
    refine wE (ev_lenSh ht_1 rfl tu22) F S rfl fun a F=>?_
    refine wE (ev_int rfl rfl (bo_lss _ _ _ _)) F S rfl fun a F=>?_
    refine wpList_nil ?_
    refine then_n ?_
    obtain ⟨hc2, hm⟩ | ⟨hc2, hm⟩ := ite_or hm
    ·refine wp_condT F rfl hc2 ?_
     refine wp_skip ?_
     refine then_n ?_
     refine wp_cut (fun a w => ∃ (g4 : Gh), Fr 71 a [(3, .i6 x1), (2, bp b2 0), (1, bp b1 0)] ∧ Le g3 g4 ∧ St g4 [[bx b2 #[.i6 0, .i6 0] 32], [bx b1 #[vt_1] 24]] fr w ∧ changeforgeref2_TreeFault.j2 x1 = some x2) ?_ ?_
     ·refine wp_block ?_
      refine wp_seq ?_
      refine wp_region_lit ?_
      refine wE (ev_fieldAddr' tu24 tf24_0 (z := 0) ts22 rfl ⟨_, rfl⟩ rfl) F S rfl fun a F=>?_
      refine wE (ev_load1 tu22 rfl rfl (box_ptr (cells := [vt_1]) 1 rfl 0 rfl (lb rfl))) F S rfl fun a F=>?_
      refine wE (ev_move rfl) F S rfl fun a F=>?_
      obtain ⟨y2, hy2, hm⟩ := bind_some hm
      obtain ⟨cs1, hr2, hp1⟩ := elemS (ht_1.mono l3) hy2
      obtain ⟨v1, rfl, h1⟩ := rep_File hr2
      refine wE (ev_idxS (ht_1.mono l3) hy2 tu22 ts70 rfl rfl) F S rfl fun a F=>?_
      refine wE (ev_loadA tu70 rfl (cs := [.string y2.Path, v1]) ts70 rfl (ptr_mono (cks := [[bx b2 #[.i6 0, .i6 0] 32], [bx b1 #[vt_1] 24]]) (fr := fr) hp1 (Le.refl _))) F S rfl fun a F=>?_
      refine wl_alloc (wn rfl) rfl tz70 (cs := [.string ByteArray.empty, nilS]) rfl F S rfl rfl ?_; clear F a S; rintro b3 a w F S
      refine wl_storeC (wn rfl) rfl F S rfl rfl (vs := [.string y2.Path, v1]) rfl ts70 (one_cons rfl (one_cons h1.one one_nil)) (k := 0) rfl (lb rfl) (c' := #[.string y2.Path, v1]) rfl rfl ?_; clear S; intro w S
      refine wpList_nil ?_
      refine then_n ?_
      refine wp_seq ?_
      refine wp_seq ?_
      refine wp_region_lit ?_
      refine wE (ev_fieldAddr' tu70 tf70_0 (z := 0) ts9 rfl ⟨_, rfl⟩ rfl) F S rfl fun a F=>?_
      refine wE (ev_load1 tu9 rfl rfl (box_ptr (cells := [.string y2.Path]) 0 rfl 0 rfl (lb rfl))) F S rfl fun a F=>?_
      obtain ⟨y3, hy3, hm⟩ := bind_some hm
      refine wl_call0 (wn rfl) rfl F rfl (changeforgeref2_PathValid_ok (fr := (fl [[bx b3 #[.string y2.Path, v1] 70], [bx b2 #[.i6 0, .i6 0] 32], [bx b1 #[vt_1] 24]] fr)) y2.Path S hy3) rfl tc129 rfl rfl ?_; clear F a S
      rintro _ a w ⟨g5, l5, S, rfl⟩ F; replace S : St g5 [[bx b3 #[.string y2.Path, v1] 70], [bx b2 #[.i6 0, .i6 0] 32], [bx b1 #[vt_1] 24]] fr w := S
      refine wE (ev_not rfl) F S rfl fun a F=>?_
      refine wpList_nil ?_
      refine then_n ?_
      obtain ⟨hc3, hm⟩ | ⟨hc3, hm⟩ := ite_or hm
      ·refine wp_condT F rfl hc3 ?_
       refine wp_seq ?_
       refine wp_region_lit ?_
       refine wE (ev_move rfl) F S rfl fun a F=>?_
       obtain ⟨y4, hy4, hm⟩ := bind_some hm
       refine wl_call0 (wn rfl) rfl F rfl (changeforgeref1_At_ok (fr := (fl [[bx b3 #[.string y2.Path, v1] 70], [bx b2 #[.i6 0, .i6 0] 32], [bx b1 #[vt_1] 24]] fr)) 12 x1 S hy4) rfl tc47 rfl rfl ?_; clear F a S
       rintro _ a w ⟨g6, l6, S, rfl⟩ F; replace S : St g6 [[bx b3 #[.string y2.Path, v1] 70], [bx b2 #[.i6 0, .i6 0] 32], [bx b1 #[vt_1] 24]] fr w := S
       refine wl_storeC (wn rfl) rfl F S rfl rfl (vs := [.i6 y4.Code, .i6 y4.Index]) rfl ts32 (one_cons rfl (one_cons rfl one_nil)) (k := 1) rfl (lb rfl) (c' := #[.i6 y4.Code, .i6 y4.Index]) rfl rfl ?_; clear S; intro w S
       refine wpList_nil ?_
       refine then_n ?_
       refine wp_ret ?_
       refine then_r ?_
       refine inb_r ?_
       refine then_r ?_
       refine then_r ?_
       refine inb_r ?_
       refine then_r ?_
       obtain rfl := sinj hm
       obtain rfl := hfin1 _ rfl
       clear hm
       have hm : (some y4 : Option Fault) = some _ := hmo1
       obtain rfl := sinj hm
       refine post_r _ F rfl (ar_cons (resA rfl tu32 rfl (box_ptr (cells := [.i6 y4.Code, .i6 y4.Index]) 1 rfl 0 rfl (lb rfl) w S) ts32) ar_nil) ?_
       replace S : St g6 [] fr w := St.tail [] _ S
       exact ⟨_, rfl, g6, ((l3.trans l5).trans l6), S, rfl⟩
      ·refine wp_condF F rfl hc3 ?_
       refine wp_skip ?_
       refine then_n ?_
       refine wp_seq ?_
       refine wp_seq ?_
       refine wp_quiet mo (by kernel_rfl) S ?_
       refine wq_ev (wn rfl) (ev_move rfl) F rfl rfl ?_; clear F a; intro a F
       refine wq_ev (wn rfl) (ev_int rfl rfl (bo_gtr _ _ _ _)) F rfl rfl ?_; clear F a; intro a F
       refine wq_ev (wn rfl) (ev_move rfl) F rfl rfl ?_; clear F a; intro a F
       obtain ⟨x3, hx2, hm⟩ := bind_some hm
       refine wq_cut 11 (fun a => Fr 71 a [(43, .bool x3), (4, bp b3 0), (3, .i6 x1), (2, bp b2 0), (1, bp b1 0)]) ?_ ?_
       ·clear hm; obtain ⟨hc4, hm⟩ | ⟨hc4, hm⟩ := ite_or hx2
        ·refine wq_ev (wg F rfl rfl rfl rfl hc4) (ev_fieldAddr' tu70 tf70_0 (z := 0) ts9 rfl ⟨_, rfl⟩ rfl) F rfl rfl ?_; clear F a; intro a F
         refine wq_ev (wg F rfl rfl rfl rfl hc4) (ev_load1 tu9 rfl rfl (box_ptr (cells := [.string y2.Path]) 0 rfl 0 rfl (lb rfl))) F rfl rfl ?_; clear F a; intro a F
         refine wq_ev (wg F rfl rfl rfl rfl hc4) (ev_fieldAddr' tu24 tf24_0 (z := 0) ts22 rfl ⟨_, rfl⟩ rfl) F rfl rfl ?_; clear F a; intro a F
         refine wq_ev (wg F rfl rfl rfl rfl hc4) (ev_load1 tu22 rfl rfl (box_ptr (cells := [vt_1]) 2 rfl 0 rfl (lb rfl))) F rfl rfl ?_; clear F a; intro a F
         refine wq_ev (wg F rfl rfl rfl rfl hc4) (ev_move rfl) F rfl rfl ?_; clear F a; intro a F
         obtain ⟨z2, hz2, hm⟩ := bind_some hm
         refine wq_ev (wg F rfl rfl rfl rfl hc4) (ev_int rfl rfl (bo_sub hz2)) F rfl rfl ?_; clear F a; intro a F
         obtain ⟨y5, hy5, hm⟩ := bind_some hm
         obtain ⟨cs2, hr3, hp2⟩ := elemS (ht_1.mono (l3.trans l5)) hy5
         obtain ⟨v2, rfl, h2⟩ := rep_File hr3
         refine wq_ev (wg F rfl rfl rfl rfl hc4) (ev_idxS (ht_1.mono (l3.trans l5)) hy5 tu22 ts70 rfl rfl) F rfl rfl ?_; clear F a; intro a F
         have hp3 := PtrC.field hp2 0 1 (lb rfl)
         have hp3 : PtrC g5 (addP (elemP vt_1 z2 2) 0) [.string y5.Path] := hp3
         refine wq_ev (wg F rfl rfl rfl rfl hc4) (ev_fieldAddr' tu70 tf70_0 (z := 0) ts9 rfl hp2.ptr rfl) F rfl rfl ?_; clear F a; intro a F
         refine wq_ev (wg F rfl rfl rfl rfl hc4) (ev_load1 tu9 rfl rfl (ptr_mono (cks := [[bx b3 #[.string y2.Path, v1] 70], [bx b2 #[.i6 0, .i6 0] 32], [bx b1 #[vt_1] 24]]) (fr := fr) hp3 (Le.refl _))) F rfl rfl ?_; clear F a; intro a F
         refine wq_ev (wg F rfl rfl rfl rfl hc4) (ev_str rfl rfl (bs_leq _ _ _)) F rfl rfl ?_; clear F a; intro a F
         refine wq_ev (wn rfl) (ev_pickT rfl hc4 rfl) F rfl rfl ?_; clear F a; intro a F
         obtain rfl := sinj hm
         refine wq_nil ?_; exact F.sub ⟨rfl, rfl, rfl, rfl, rfl, trivial⟩
        ·refine wq_skip rfl rfl rfl rfl (ne_tf hc4) F rfl rfl ?_; clear F a; intro a F
         refine wq_skip rfl rfl rfl rfl (ne_tf hc4) F rfl rfl ?_; clear F a; intro a F
         refine wq_skip rfl rfl rfl rfl (ne_tf hc4) F rfl rfl ?_; clear F a; intro a F
         refine wq_skip rfl rfl rfl rfl (ne_tf hc4) F rfl rfl ?_; clear F a; intro a F
         refine wq_skip rfl rfl rfl rfl (ne_tf hc4) F rfl rfl ?_; clear F a; intro a F
         refine wq_skip rfl rfl rfl rfl (ne_tf hc4) F rfl rfl ?_; clear F a; intro a F
         refine wq_skip rfl rfl rfl rfl (ne_tf hc4) F rfl rfl ?_; clear F a; intro a F
         refine wq_skip rfl rfl rfl rfl (ne_tf hc4) F rfl rfl ?_; clear F a; intro a F
         refine wq_skip rfl rfl rfl rfl (ne_tf hc4) F rfl rfl ?_; clear F a; intro a F
         refine wq_skip rfl rfl rfl rfl (ne_tf hc4) F rfl rfl ?_; clear F a; intro a F
         refine wq_ev (wn rfl) (ev_pickF rfl hc4 rfl) F rfl rfl ?_; clear F a; intro a F
         obtain rfl := sinj hm
         refine wq_nil ?_; exact F.sub ⟨rfl, rfl, rfl, rfl, rfl, trivial⟩
       clear F; intro a F
       refine wq_nil ?_; clear S; intro w S
       refine then_n ?_
       obtain ⟨hc5, hm⟩ | ⟨hc5, hm⟩ := ite_or hm
       ·refine wp_condT F rfl hc5 ?_
        refine wp_seq ?_
        refine wp_region_lit ?_
        refine wE (ev_move rfl) F S rfl fun a F=>?_
        obtain ⟨y6, hy6, hm⟩ := bind_some hm
        refine wl_call0 (wn rfl) rfl F rfl (changeforgeref1_At_ok (fr := (fl [[bx b3 #[.string y2.Path, v1] 70], [bx b2 #[.i6 0, .i6 0] 32], [bx b1 #[vt_1] 24]] fr)) 5 x1 S hy6) rfl tc47 rfl rfl ?_; clear F a S
        rintro _ a w ⟨g7, l7, S, rfl⟩ F; replace S : St g7 [[bx b3 #[.string y2.Path, v1] 70], [bx b2 #[.i6 0, .i6 0] 32], [bx b1 #[vt_1] 24]] fr w := S
        refine wl_storeC (wn rfl) rfl F S rfl rfl (vs := [.i6 y6.Code, .i6 y6.Index]) rfl ts32 (one_cons rfl (one_cons rfl one_nil)) (k := 1) rfl (lb rfl) (c' := #[.i6 y6.Code, .i6 y6.Index]) rfl rfl ?_; clear S; intro w S
        refine wpList_nil ?_
        refine then_n ?_
        refine wp_ret ?_
        refine then_r ?_
        refine inb_r ?_
        refine then_r ?_
        refine then_r ?_
        refine inb_r ?_
        refine then_r ?_
        obtain rfl := sinj hm
        obtain rfl := hfin1 _ rfl
        clear hm
        have hm : (some y6 : Option Fault) = some _ := hmo1
        obtain rfl := sinj hm
        refine post_r _ F rfl (ar_cons (resA rfl tu32 rfl (box_ptr (cells := [.i6 y6.Code, .i6 y6.Index]) 1 rfl 0 rfl (lb rfl) w S) ts32) ar_nil) ?_
        replace S : St g7 [] fr w := St.tail [] _ S
        exact ⟨_, rfl, g7, ((l3.trans l5).trans l7), S, rfl⟩
       ·refine wp_condF F rfl hc5 ?_
        refine wp_skip ?_
        refine then_n ?_
        refine wp_cut (fun a w => ∃ (g8 : Gh), Fr 71 a [(4, bp b3 0), (3, .i6 x1), (2, bp b2 0), (1, bp b1 0)] ∧ Le g5 g8 ∧ St g8 [[bx b3 #[.string y2.Path, v1] 70], [bx b2 #[.i6 0, .i6 0] 32], [bx b1 #[vt_1] 24]] fr w ∧ changeforgeref2_TreeFault.j3 x1 y2 = some x2) ?_ ?_
        ·refine wp_seq ?_
         refine wp_region_lit ?_
         refine wE (ev_assign rfl) F S rfl fun a F=>?_
         refine wpList_nil ?_
         refine then_n ?_
         refine wp_block ?_
         obtain ⟨r2, hr4, hm⟩ := bind_some hm
         have hmo2 := hm; clear hm
         refine wp_iter (σ := Int) (ρ := Fault ⊕ Unit) (m := fun s => changeforgeref2_TreeFault.l2 t_ x1 y2 s) (I := fun x4 a w => ∃ (g11 : Gh), Fr 71 a [(5, .i6 x4), (4, bp b3 0), (3, .i6 x1), (2, bp b2 0), (1, bp b1 0)] ∧ Le g5 g11 ∧ St g11 [[bx b3 #[.string y2.Path, v1] 70], [bx b2 #[.i6 0, .i6 0] 32], [bx b1 #[vt_1] 24]] fr w) hr4 ?_ ?_
         ·exact ⟨g5, F.sub ⟨rfl, rfl, rfl, rfl, rfl, trivial⟩, (Le.refl _), S⟩
         ·clear F S; rintro x4 a w x5 ⟨g11, F, l11, S⟩ hx3 hfin2
          have hm : changeforgeref2_TreeFault.l2 t_ x1 y2 x4 = some x5 := hx3; clear hx3
          unfold changeforgeref2_TreeFault.l2 at hm
          refine wp_seq ?_
          refine wp_seq ?_
          refine wp_region_lit ?_
          refine wE (ev_move rfl) F S rfl fun a F=>?_
          refine wE (ev_move rfl) F S rfl fun a F=>?_
          refine wE (ev_int rfl rfl (bo_lss _ _ _ _)) F S rfl fun a F=>?_
          refine wpList_nil ?_
          refine then_n ?_
          obtain ⟨hc7, hm⟩ | ⟨hc7, hm⟩ := ite_or hm
          ·refine wp_condT F rfl hc7 ?_
           refine wp_skip ?_
           refine then_n ?_
           refine wp_seq ?_
           refine wp_block ?_
           refine wp_seq ?_
           refine wp_quiet mo (by kernel_rfl) S ?_
           refine wq_ev (wn rfl) (ev_fieldAddr' tu24 tf24_0 (z := 0) ts22 rfl ⟨_, rfl⟩ rfl) F rfl rfl ?_; clear F a; intro a F
           refine wq_ev (wn rfl) (ev_load1 tu22 rfl rfl (box_ptr (cells := [vt_1]) 2 rfl 0 rfl (lb rfl))) F rfl rfl ?_; clear F a; intro a F
           refine wq_ev (wn rfl) (ev_move rfl) F rfl rfl ?_; clear F a; intro a F
           obtain ⟨y9, hy9, hm⟩ := bind_some hm
           obtain ⟨cs3, hr5, hp4⟩ := elemS (ht_1.mono ((l3.trans l5).trans l11)) hy9
           obtain ⟨v3, rfl, h3⟩ := rep_File hr5
           refine wq_ev (wn rfl) (ev_idxS (ht_1.mono ((l3.trans l5).trans l11)) hy9 tu22 ts70 rfl rfl) F rfl rfl ?_; clear F a; intro a F
           have hp5 := PtrC.field hp4 0 1 (lb rfl)
           have hp5 : PtrC g11 (addP (elemP vt_1 x4 2) 0) [.string y9.Path] := hp5
           refine wq_ev (wn rfl) (ev_fieldAddr' tu70 tf70_0 (z := 0) ts9 rfl hp4.ptr rfl) F rfl rfl ?_; clear F a; intro a F
           refine wq_ev (wn rfl) (ev_load1 tu9 rfl rfl (ptr_mono (cks := [[bx b3 #[.string y2.Path, v1] 70], [bx b2 #[.i6 0, .i6 0] 32], [bx b1 #[vt_1] 24]]) (fr := fr) hp5 (Le.refl _))) F rfl rfl ?_; clear F a; intro a F
           refine wq_ev (wn rfl) (ev_fieldAddr' tu70 tf70_0 (z := 0) ts9 rfl ⟨_, rfl⟩ rfl) F rfl rfl ?_; clear F a; intro a F
           refine wq_ev (wn rfl) (ev_load1 tu9 rfl rfl (box_ptr (cells := [.string y2.Path]) 0 rfl 0 rfl (lb rfl))) F rfl rfl ?_; clear F a; intro a F
           obtain ⟨y10, hy10, hm⟩ := bind_some hm
           refine wq_call (wn rfl) rfl (xs := [.tmp 56, .tmp 58]) (vs := [.string y9.Path, .string y2.Path]) (cap := []) F rfl rfl tc130 (v := .bool y10) (fun w S => (changeforgeref2_Related_ok (g := g11) (fr := (fl [[bx b3 #[.string y2.Path, v1] 70], [bx b2 #[.i6 0, .i6 0] 32], [bx b1 #[vt_1] 24]] fr)) (w := w) y9.Path y2.Path S hy10).mono (by rintro en w' ⟨_, rfl, g2, l2, S2, rfl⟩; exact ⟨rfl, S2.weak l2⟩)) rfl rfl ?_; clear F a; intro a F
           refine wq_nil ?_; clear S; intro w S
           refine then_n ?_
           obtain ⟨hc8, hm⟩ | ⟨hc8, hm⟩ := ite_or hm
           ·refine wp_condT F rfl hc8 ?_
            refine wp_seq ?_
            refine wp_region_lit ?_
            refine wE (ev_move rfl) F S rfl fun a F=>?_
            obtain ⟨y11, hy11, hm⟩ := bind_some hm
            refine wl_call0 (wn rfl) rfl F rfl (changeforgeref1_At_ok (fr := (fl [[bx b3 #[.string y2.Path, v1] 70], [bx b2 #[.i6 0, .i6 0] 32], [bx b1 #[vt_1] 24]] fr)) 7 x1 S hy11) rfl tc47 rfl rfl ?_; clear F a S
            rintro _ a w ⟨g13, l13, S, rfl⟩ F; replace S : St g13 [[bx b3 #[.string y2.Path, v1] 70], [bx b2 #[.i6 0, .i6 0] 32], [bx b1 #[vt_1] 24]] fr w := S
            refine wl_storeC (wn rfl) rfl F S rfl rfl (vs := [.i6 y11.Code, .i6 y11.Index]) rfl ts32 (one_cons rfl (one_cons rfl one_nil)) (k := 1) rfl (lb rfl) (c' := #[.i6 y11.Code, .i6 y11.Index]) rfl rfl ?_; clear S; intro w S
            refine wpList_nil ?_
            refine then_n ?_
            refine wp_ret ?_
            refine inb_r ?_
            refine then_r ?_
            refine then_r ?_
            refine inb_r ?_
            refine then_r ?_
            refine inb_r ?_
            refine then_r ?_
            refine then_r ?_
            refine inb_r ?_
            refine then_r ?_
            obtain rfl := sinj hm
            obtain rfl := hfin2 _ rfl
            clear hm
            have hm : (some (Step.done (Sum.inl y11)) : Option (Step Int (Fault ⊕ Unit))) = some _ := hmo2
            obtain rfl := sinj hm
            obtain rfl := hfin1 _ rfl
            clear hm
            have hm : (some y11 : Option Fault) = some _ := hmo1
            obtain rfl := sinj hm
            refine post_r _ F rfl (ar_cons (resA rfl tu32 rfl (box_ptr (cells := [.i6 y11.Code, .i6 y11.Index]) 1 rfl 0 rfl (lb rfl) w S) ts32) ar_nil) ?_
            replace S : St g13 [] fr w := St.tail [] _ S
            exact ⟨_, rfl, g13, (((l3.trans l5).trans l11).trans l13), S, rfl⟩
           ·refine wp_condF F rfl hc8 ?_
            refine wp_skip ?_
            refine inb_n ?_
            refine then_n ?_
            refine wp_region_lit ?_
            refine wE (ev_move rfl) F S rfl fun a F=>?_
            obtain ⟨z3, hz3, hm⟩ := bind_some hm
            refine wE (ev_int rfl rfl (bo_add hz3)) F S rfl fun a F=>?_
            refine wE (ev_assign rfl) F S rfl fun a F=>?_
            refine wpList_nil ?_
            refine then_n ?_
            obtain rfl := sinj hm
            refine ⟨_, rfl, ?_⟩
            exact ⟨g11, F.sub ⟨rfl, rfl, rfl, rfl, rfl, trivial⟩, l11, S⟩
          ·refine wp_condF F rfl hc7 ?_
           refine wp_exit ?_
           refine then_e ?_
           refine then_e ?_
           refine inb_x ?_
           refine then_n ?_
           obtain rfl := sinj hm
           obtain rfl := hfin2 _ rfl
           clear hm
           have hm : (changeforgeref2_TreeFault.j3 x1 y2 : Option (Step Int (Fault ⊕ Unit))) = some _ := hmo2
           exact ⟨g11, F.sub ⟨rfl, rfl, rfl, rfl, trivial⟩, l11, S, hm⟩
        ·clear F S hm; rintro a w ⟨g8, F, l8, S, hm⟩
         refine wp_seq ?_
         refine wp_region_lit ?_
         refine wE (ev_fieldAddr' tu70 tf70_1 (z := 0) ts28 rfl ⟨_, rfl⟩ rfl) F S rfl fun a F=>?_
         refine wE (ev_load1 tu28 rfl rfl (box_ptr (cells := [v1]) 0 rfl 1 rfl (lb rfl))) F S rfl fun a F=>?_
         obtain ⟨y7, hy7, hm⟩ := bind_some hm
         refine wl_call0 (wn rfl) rfl F rfl (changeforgeref1_LinesCode_ok (fr := (fl [[bx b3 #[.string y2.Path, v1] 70], [bx b2 #[.i6 0, .i6 0] 32], [bx b1 #[vt_1] 24]] fr)) y2.Lines v1 (h1.mono (l5.trans l8)) S hy7) rfl tc49 rfl rfl ?_; clear F a S
         rintro _ a w ⟨g9, l9, S, rfl⟩ F; replace S : St g9 [[bx b3 #[.string y2.Path, v1] 70], [bx b2 #[.i6 0, .i6 0] 32], [bx b1 #[vt_1] 24]] fr w := S
         refine wE (ev_assign rfl) F S rfl fun a F=>?_
         refine wpList_nil ?_
         refine then_n ?_
         refine wp_seq ?_
         refine wp_region_lit ?_
         refine wE (ev_move rfl) F S rfl fun a F=>?_
         refine wE (ev_int rfl rfl (bo_neq _ _ _ _)) F S rfl fun a F=>?_
         refine wpList_nil ?_
         refine then_n ?_
         obtain ⟨hc6, hm⟩ | ⟨hc6, hm⟩ := ite_or hm
         ·refine wp_condT F rfl hc6 ?_
          refine wp_seq ?_
          refine wp_region_lit ?_
          refine wE (ev_move rfl) F S rfl fun a F=>?_
          refine wE (ev_move rfl) F S rfl fun a F=>?_
          obtain ⟨y8, hy8, hm⟩ := bind_some hm
          refine wl_call0 (wn rfl) rfl F rfl (changeforgeref1_At_ok (fr := (fl [[bx b3 #[.string y2.Path, v1] 70], [bx b2 #[.i6 0, .i6 0] 32], [bx b1 #[vt_1] 24]] fr)) y7 x1 S hy8) rfl tc47 rfl rfl ?_; clear F a S
          rintro _ a w ⟨g10, l10, S, rfl⟩ F; replace S : St g10 [[bx b3 #[.string y2.Path, v1] 70], [bx b2 #[.i6 0, .i6 0] 32], [bx b1 #[vt_1] 24]] fr w := S
          refine wl_storeC (wn rfl) rfl F S rfl rfl (vs := [.i6 y8.Code, .i6 y8.Index]) rfl ts32 (one_cons rfl (one_cons rfl one_nil)) (k := 1) rfl (lb rfl) (c' := #[.i6 y8.Code, .i6 y8.Index]) rfl rfl ?_; clear S; intro w S
          refine wpList_nil ?_
          refine then_n ?_
          refine wp_ret ?_
          refine inb_r ?_
          refine then_r ?_
          refine then_r ?_
          refine inb_r ?_
          refine then_r ?_
          obtain rfl := sinj hm
          obtain rfl := hfin1 _ rfl
          clear hm
          have hm : (some y8 : Option Fault) = some _ := hmo1
          obtain rfl := sinj hm
          refine post_r _ F rfl (ar_cons (resA rfl tu32 rfl (box_ptr (cells := [.i6 y8.Code, .i6 y8.Index]) 1 rfl 0 rfl (lb rfl) w S) ts32) ar_nil) ?_
          replace S : St g10 [] fr w := St.tail [] _ S
          exact ⟨_, rfl, g10, ((((l3.trans l5).trans l8).trans l9).trans l10), S, rfl⟩
         ·refine wp_condF F rfl hc6 ?_
          refine wp_skip ?_
          refine inb_n ?_
          refine then_n ?_
          replace S : St g9 [[bx b2 #[.i6 0, .i6 0] 32], [bx b1 #[vt_1] 24]] fr w := St.tail [[bx b2 #[.i6 0, .i6 0] 32], [bx b1 #[vt_1] 24]] _ ((S.frontC 2 rfl).frontC 2 rfl)
          exact ⟨g9, F.sub ⟨rfl, rfl, rfl, trivial⟩, ((l5.trans l8).trans l9), S, hm⟩
     ·clear F S hm; rintro a w ⟨g4, F, l4, S, hm⟩
      refine wp_region_lit ?_
      refine wE (ev_move rfl) F S rfl fun a F=>?_
      obtain ⟨z1, hz1, hm⟩ := bind_some hm
      refine wE (ev_int rfl rfl (bo_add hz1)) F S rfl fun a F=>?_
      refine wE (ev_assign rfl) F S rfl fun a F=>?_
      refine wpList_nil ?_
      refine then_n ?_
      obtain rfl := sinj hm
      refine ⟨_, rfl, ?_⟩
      exact ⟨g4, F.sub ⟨rfl, rfl, rfl, trivial⟩, (l3.trans l4), S⟩
    ·refine wp_condF F rfl hc2 ?_
     refine wp_exit ?_
     refine then_e ?_
     refine then_e ?_
     refine inb_x ?_
     refine then_n ?_
     obtain rfl := sinj hm
     obtain rfl := hfin1 _ rfl
     clear hm
     have hm : (changeforgeref2_TreeFault.j1 : Option Fault) = some _ := hmo1
     replace S : St g3 [[bx b2 #[.i6 0, .i6 0] 32]] fr w := St.tail [[bx b2 #[.i6 0, .i6 0] 32]] _ (S.frontC 0 rfl)
     exact ⟨g3, F.sub ⟨rfl, trivial⟩, l3, S, hm⟩
  ·clear F S hm; rintro a w ⟨g2, F, l2, S, hm⟩
   refine wp_seq ?_
   refine wp_region_lit ?_
   refine wE (ev_build (parts := []) (vs := []) rfl (fun w => tb32_  w)) F S rfl fun a F=>?_
   refine wl_storeC (wn rfl) rfl F S rfl rfl (vs := [.i6 0, .i6 0]) rfl ts32 (one_cons rfl (one_cons rfl one_nil)) (k := 0) rfl (lb rfl) (c' := #[.i6 0, .i6 0]) rfl rfl ?_; clear S; intro w S
   refine wpList_nil ?_
   refine then_n ?_
   refine wp_ret ?_
   obtain rfl := sinj hm
   refine post_r _ F rfl (ar_cons (resA rfl tu32 rfl (box_ptr (cells := [.i6 0, .i6 0]) 0 rfl 0 rfl (lb rfl) w S) ts32) ar_nil) ?_
   replace S : St g2 [] fr w := St.tail [] _ S
   exact ⟨_, rfl, g2, l2, S, rfl⟩

theorem changeforgeref2_TwoTrees_ok {g : Gh} {fr : Hl} {w : World} {r : Fault} (a_ : FileTree) (va_1 : Value) (ha_1 : RepSl g a_.Files va_1) (b_ : FileTree) (vb_1 : Value) (hb_1 : RepSl g b_.Files vb_1) (S : St g [] fr w) (hm : changeforgeref2_TwoTrees a_ b_ = some r) :
  Calls Tryz.prog 46 [.agg #[va_1], .agg #[vb_1]].toArray w (fun en w' => ∃ v, en = .returned v ∧ ∃ (g' : Gh), Le g g' ∧ St g' [] fr w' ∧ .agg #[.i6 r.Code, .i6 r.Index] = v) := by
 unfold changeforgeref2_TwoTrees at hm
 refine calls_enter (fn := Tryz.f46) Tryz.func46 rfl Tryz.ntmps46 (lb rfl) ?_
 intro a F
 replace F : Fr 22 a [(0, .agg #[va_1]), (1, .agg #[vb_1])] := F
 refine wp_seq ?_
 refine wp_region_lit ?_
 refine wl_boxC (wn rfl) rfl rfl rfl F S rfl rfl ?_; clear F a S; rintro b1 a w F S
 refine wl_boxC (wn rfl) rfl rfl rfl F S rfl rfl ?_; clear F a S; rintro b2 a w F S
 refine wl_alloc (wn rfl) rfl tz32 (cs := [.i6 0, .i6 0]) rfl F S rfl rfl ?_; clear F a S; rintro b3 a w F S
 refine wpList_nil ?_
 refine then_n ?_
 refine wp_seq ?_
 refine wp_region_lit ?_
 refine wE (ev_loadA tu24 rfl (cs := [va_1]) ts24 rfl (box_ptr (cells := [va_1]) 2 rfl 0 rfl (lb rfl))) F S rfl fun a F=>?_
 obtain ⟨y1, hy1, hm⟩ := bind_some hm
 refine wl_call0 (wn rfl) rfl F rfl (changeforgeref2_TreeFault_ok (fr := (fl [[bx b3 #[.i6 0, .i6 0] 32], [bx b2 #[vb_1] 24], [bx b1 #[va_1] 24]] fr)) a_ va_1 ha_1 S hy1) rfl tc90 rfl rfl ?_; clear F a S
 rintro _ a w ⟨g1, l1, S, rfl⟩ F; replace S : St g1 [[bx b3 #[.i6 0, .i6 0] 32], [bx b2 #[vb_1] 24], [bx b1 #[va_1] 24]] fr w := S
 refine wl_alloc (wn rfl) rfl tz32 (cs := [.i6 0, .i6 0]) rfl F S rfl rfl ?_; clear F a S; rintro b4 a w F S
 refine wl_storeC (wn rfl) rfl F S rfl rfl (vs := [.i6 y1.Code, .i6 y1.Index]) rfl ts32 (one_cons rfl (one_cons rfl one_nil)) (k := 0) rfl (lb rfl) (c' := #[.i6 y1.Code, .i6 y1.Index]) rfl rfl ?_; clear S; intro w S
 refine wpList_nil ?_
 refine then_n ?_
 refine wp_cut (fun a w => ∃ (x1 : Int) (x2 : Int) (g2 : Gh), Fr 22 a [(5, bp b4 0), (4, bp b3 0)] ∧ Le g1 g2 ∧ St g2 [[bx b4 #[.i6 x1, .i6 x2] 32], [bx b3 #[.i6 0, .i6 0] 32]] fr w ∧ changeforgeref2_TwoTrees.j1 x1 x2 = some r) ?_ ?_
 ·refine wp_seq ?_
  refine wp_region_lit ?_
  refine wE (ev_fieldAddr' tu32 tf32_0 (z := 0) ts3 rfl ⟨_, rfl⟩ rfl) F S rfl fun a F=>?_
  refine wE (ev_load1 tu3 rfl rfl (box_ptr (cells := [.i6 y1.Code]) 0 rfl 0 rfl (lb rfl))) F S rfl fun a F=>?_
  refine wE (ev_int rfl rfl (bo_eql _ _ _ _)) F S rfl fun a F=>?_
  refine wE (ev_move rfl) F S rfl fun a F=>?_
  obtain ⟨x3, hx1, hm⟩ := bind_some hm
  refine wl_cut 5 (fun a w => ∃ g3, Fr 22 a [(16, .bool x3), (5, bp b4 0), (4, bp b3 0), (3, bp b2 0)] ∧ Le g1 g3 ∧ St g3 [[bx b4 #[.i6 y1.Code, .i6 y1.Index] 32], [bx b3 #[.i6 0, .i6 0] 32], [bx b2 #[vb_1] 24], [bx b1 #[va_1] 24]] fr w) ?_ ?_
  ·clear hm; obtain ⟨hc1, hm⟩ | ⟨hc1, hm⟩ := ite_or hx1
   ·refine wl_ev (wg F rfl rfl rfl rfl hc1) (ev_loadA tu24 rfl (cs := [vb_1]) ts24 rfl (box_ptr (cells := [vb_1]) 2 rfl 0 rfl (lb rfl))) F S rfl rfl ?_; clear F a; intro a F
    obtain ⟨y2, hy2, hm⟩ := bind_some hm
    refine wl_call0 (wg F rfl rfl rfl rfl hc1) rfl F rfl (changeforgeref2_TreeFault_ok (fr := (fl [[bx b4 #[.i6 y1.Code, .i6 y1.Index] 32], [bx b3 #[.i6 0, .i6 0] 32], [bx b2 #[vb_1] 24], [bx b1 #[va_1] 24]] fr)) b_ vb_1 (hb_1.mono l1) S hy2) rfl tc90 rfl rfl ?_; clear F a S
    rintro _ a w ⟨g4, l4, S, rfl⟩ F; replace S : St g4 [[bx b4 #[.i6 y1.Code, .i6 y1.Index] 32], [bx b3 #[.i6 0, .i6 0] 32], [bx b2 #[vb_1] 24], [bx b1 #[va_1] 24]] fr w := S
    refine wl_ev (wg F rfl rfl rfl rfl hc1) (ev_field1 tu32 tf32_0 tu3 rfl (cs := [.i6 y2.Code, .i6 y2.Index]) rfl rfl) F S rfl rfl ?_; clear F a; intro a F
    refine wl_ev (wg F rfl rfl rfl rfl hc1) (ev_int rfl rfl (bo_neq _ _ _ _)) F S rfl rfl ?_; clear F a; intro a F
    refine wE (ev_pickT rfl hc1 rfl) F S rfl fun a F=>?_
    obtain rfl := sinj hm
    refine wpList_nil (then_n ?_); exact ⟨g4, F.sub ⟨rfl, rfl, rfl, rfl, trivial⟩, l4, S⟩
   ·refine wl_skip rfl rfl rfl rfl (ne_tf hc1) F rfl rfl ?_; clear F a; intro a F
    refine wl_skip rfl rfl rfl rfl (ne_tf hc1) F rfl rfl ?_; clear F a; intro a F
    refine wl_skip rfl rfl rfl rfl (ne_tf hc1) F rfl rfl ?_; clear F a; intro a F
    refine wl_skip rfl rfl rfl rfl (ne_tf hc1) F rfl rfl ?_; clear F a; intro a F
    refine wE (ev_pickF rfl hc1 rfl) F S rfl fun a F=>?_
    obtain rfl := sinj hm
    refine wpList_nil (then_n ?_); exact ⟨g1, F.sub ⟨rfl, rfl, rfl, rfl, trivial⟩, (Le.refl _), S⟩
  clear F S; rintro a w ⟨g3, F, l3, S⟩
  refine wpList_nil ?_
  refine then_n ?_
  obtain ⟨hc2, hm⟩ | ⟨hc2, hm⟩ := ite_or hm
  ·refine wp_condT F rfl hc2 ?_
   refine wp_region_lit ?_
   refine wE (ev_loadA tu24 rfl (cs := [vb_1]) ts24 rfl (box_ptr (cells := [vb_1]) 2 rfl 0 rfl (lb rfl))) F S rfl fun a F=>?_
   obtain ⟨y3, hy3, hm⟩ := bind_some hm
   refine wl_call0 (wn rfl) rfl F rfl (changeforgeref2_TreeFault_ok (fr := (fl [[bx b4 #[.i6 y1.Code, .i6 y1.Index] 32], [bx b3 #[.i6 0, .i6 0] 32], [bx b2 #[vb_1] 24], [bx b1 #[va_1] 24]] fr)) b_ vb_1 (hb_1.mono (l1.trans l3)) S hy3) rfl tc90 rfl rfl ?_; clear F a S
   rintro _ a w ⟨g5, l5, S, rfl⟩ F; replace S : St g5 [[bx b4 #[.i6 y1.Code, .i6 y1.Index] 32], [bx b3 #[.i6 0, .i6 0] 32], [bx b2 #[vb_1] 24], [bx b1 #[va_1] 24]] fr w := S
   refine wE (ev_field1 tu32 tf32_0 tu3 rfl (cs := [.i6 y3.Code, .i6 y3.Index]) rfl rfl) F S rfl fun a F=>?_
   obtain ⟨y4, hy4, hm⟩ := bind_some hm
   refine wl_call0 (wn rfl) rfl F rfl (changeforgeref1_At_ok (fr := (fl [[bx b4 #[.i6 y1.Code, .i6 y1.Index] 32], [bx b3 #[.i6 0, .i6 0] 32], [bx b2 #[vb_1] 24], [bx b1 #[va_1] 24]] fr)) y3.Code (-2) S hy4) rfl tc47 rfl rfl ?_; clear F a S
   rintro _ a w ⟨g6, l6, S, rfl⟩ F; replace S : St g6 [[bx b4 #[.i6 y1.Code, .i6 y1.Index] 32], [bx b3 #[.i6 0, .i6 0] 32], [bx b2 #[vb_1] 24], [bx b1 #[va_1] 24]] fr w := S
   refine wl_storeC (wn rfl) rfl F S rfl rfl (vs := [.i6 y4.Code, .i6 y4.Index]) rfl ts32 (one_cons rfl (one_cons rfl one_nil)) (k := 0) rfl (lb rfl) (c' := #[.i6 y4.Code, .i6 y4.Index]) rfl rfl ?_; clear S; intro w S
   refine wpList_nil ?_
   refine then_n ?_
   replace S : St g6 [[bx b4 #[.i6 y4.Code, .i6 y4.Index] 32], [bx b3 #[.i6 0, .i6 0] 32]] fr w := St.tail [[bx b4 #[.i6 y4.Code, .i6 y4.Index] 32], [bx b3 #[.i6 0, .i6 0] 32]] _ ((S.frontC 1 rfl).frontC 1 rfl)
   exact ⟨y4.Code, y4.Index, g6, F.sub ⟨rfl, rfl, trivial⟩, ((l3.trans l5).trans l6), S, hm⟩
  ·refine wp_condF F rfl hc2 ?_
   refine wp_skip ?_
   refine then_n ?_
   replace S : St g3 [[bx b4 #[.i6 y1.Code, .i6 y1.Index] 32], [bx b3 #[.i6 0, .i6 0] 32]] fr w := St.tail [[bx b4 #[.i6 y1.Code, .i6 y1.Index] 32], [bx b3 #[.i6 0, .i6 0] 32]] _ ((S.frontC 1 rfl).frontC 1 rfl)
   exact ⟨y1.Code, y1.Index, g3, F.sub ⟨rfl, rfl, trivial⟩, l3, S, hm⟩
 ·clear F S hm; rintro a w ⟨x1, x2, g2, F, l2, S, hm⟩
  refine wp_seq ?_
  refine wp_region_lit ?_
  refine wE (ev_loadA tu32 rfl (cs := [.i6 x1, .i6 x2]) ts32 rfl (box_ptr (cells := [.i6 x1, .i6 x2]) 0 rfl 0 rfl (lb rfl))) F S rfl fun a F=>?_
  refine wl_storeC (wn rfl) rfl F S rfl rfl (vs := [.i6 x1, .i6 x2]) rfl ts32 (one_cons rfl (one_cons rfl one_nil)) (k := 1) rfl (lb rfl) (c' := #[.i6 x1, .i6 x2]) rfl rfl ?_; clear S; intro w S
  refine wpList_nil ?_
  refine then_n ?_
  refine wp_ret ?_
  obtain rfl := sinj hm
  refine post_r _ F rfl (ar_cons (resA rfl tu32 rfl (box_ptr (cells := [.i6 x1, .i6 x2]) 1 rfl 0 rfl (lb rfl) w S) ts32) ar_nil) ?_
  replace S : St g2 [] fr w := St.tail [] _ S
  exact ⟨_, rfl, g2, (l1.trans l2), S, rfl⟩

theorem changeforgeref2_FileAt_ok {g : Gh} {fr : Hl} {w : World} {r : Int} (t_ : FileTree) (vt_1 : Value) (ht_1 : RepSl g t_.Files vt_1) (path : ByteArray) (S : St g [] fr w) (hm : changeforgeref2_FileAt t_ path = some r) :
  Calls Tryz.prog 48 [.agg #[vt_1], .string path].toArray w (fun en w' => ∃ v, en = .returned v ∧ ∃ (g' : Gh), Le g g' ∧ St g' [] fr w' ∧ .i6 r = v) := by
 unfold changeforgeref2_FileAt at hm
 refine calls_enter (fn := Tryz.f48) Tryz.func48 rfl Tryz.ntmps48 (lb rfl) ?_
 intro a F
 replace F : Fr 22 a [(0, .agg #[vt_1]), (1, .string path)] := F
 refine wp_seq ?_
 refine wp_region_lit ?_
 refine wl_boxC (wn rfl) rfl rfl rfl F S rfl rfl ?_; clear F a S; rintro b1 a w F S
 refine wE (ev_assign rfl) F S rfl fun a F=>?_
 refine wpList_nil ?_
 refine then_n ?_
 refine wp_cut (fun a w => ∃ (g1 : Gh), Fr 22 a [] ∧ Le g g1 ∧ St g1 [] fr w ∧ changeforgeref2_FileAt.j1 = some r) ?_ ?_
 ·refine wp_seq ?_
  refine wp_region_lit ?_
  refine wE (ev_assign rfl) F S rfl fun a F=>?_
  refine wpList_nil ?_
  refine then_n ?_
  refine wp_block ?_
  obtain ⟨r1, hr1, hm⟩ := bind_some hm
  have hmo1 := hm; clear hm
  refine wp_iter (σ := Int) (ρ := Int ⊕ Unit) (m := fun s => changeforgeref2_FileAt.l1 t_ path s) (I := fun x1 a w => ∃ (g2 : Gh), Fr 22 a [(5, .i6 x1), (2, bp b1 0), (1, .string path)] ∧ Le g g2 ∧ St g2 [[bx b1 #[vt_1] 24]] fr w) hr1 ?_ ?_
  ·exact ⟨g, F.sub ⟨rfl, rfl, rfl, trivial⟩, (Le.refl _), S⟩
  ·clear F S; rintro x1 a w x2 ⟨g2, F, l2, S⟩ hx1 hfin1
   have hm : changeforgeref2_FileAt.l1 t_ path x1 = some x2 := hx1; clear hx1
   unfold changeforgeref2_FileAt.l1 at hm
   refine wp_seq ?_
   refine wp_seq ?_
   refine wp_region_lit ?_
   refine wE (ev_move rfl) F S rfl fun a F=>?_
   refine wE (ev_fieldAddr' tu24 tf24_0 (z := 0) ts22 rfl ⟨_, rfl⟩ rfl) F S rfl fun a F=>?_
   refine wE (ev_load1 tu22 rfl rfl (box_ptr (cells := [vt_1]) 0 rfl 0 rfl (lb rfl))) F S rfl fun a F=>?_
   refine wE (ev_lenSh ht_1 rfl tu22) F S rfl fun a F=>?_
   refine wE (ev_int rfl rfl (bo_lss _ _ _ _)) F S rfl fun a F=>?_
   refine wpList_nil ?_
   refine then_n ?_
   obtain ⟨hc1, hm⟩ | ⟨hc1, hm⟩ := ite_or hm
   ·refine wp_condT F rfl hc1 ?_
    refine wp_skip ?_
    refine then_n ?_
    refine wp_seq ?_
    refine wp_block ?_
    refine wp_seq ?_
    refine wp_region_lit ?_
    refine wE (ev_fieldAddr' tu24 tf24_0 (z := 0) ts22 rfl ⟨_, rfl⟩ rfl) F S rfl fun a F=>?_
    refine wE (ev_load1 tu22 rfl rfl (box_ptr (cells := [vt_1]) 0 rfl 0 rfl (lb rfl))) F S rfl fun a F=>?_
    refine wE (ev_move rfl) F S rfl fun a F=>?_
    obtain ⟨y1, hy1, hm⟩ := bind_some hm
    obtain ⟨cs1, hr2, hp1⟩ := elemS (ht_1.mono l2) hy1
    obtain ⟨v1, rfl, h1⟩ := rep_File hr2
    refine wE (ev_idxS (ht_1.mono l2) hy1 tu22 ts70 rfl rfl) F S rfl fun a F=>?_
    have hp2 := PtrC.field hp1 0 1 (lb rfl)
    have hp2 : PtrC g2 (addP (elemP vt_1 x1 2) 0) [.string y1.Path] := hp2
    refine wE (ev_fieldAddr' tu70 tf70_0 (z := 0) ts9 rfl hp1.ptr rfl) F S rfl fun a F=>?_
    refine wE (ev_load1 tu9 rfl rfl (ptr_mono (cks := [[bx b1 #[vt_1] 24]]) (fr := fr) hp2 (Le.refl _))) F S rfl fun a F=>?_
    refine wE (ev_move rfl) F S rfl fun a F=>?_
    refine wE (ev_str rfl rfl (bs_eql _ _ _)) F S rfl fun a F=>?_
    refine wpList_nil ?_
    refine then_n ?_
    obtain ⟨hc2, hm⟩ | ⟨hc2, hm⟩ := ite_or hm
    ·refine wp_condT F rfl hc2 ?_
     refine wp_seq ?_
     refine wp_region_lit ?_
     refine wE (ev_move rfl) F S rfl fun a F=>?_
     refine wE (ev_assign rfl) F S rfl fun a F=>?_
     refine wpList_nil ?_
     refine then_n ?_
     refine wp_ret ?_
     refine inb_r ?_
     refine then_r ?_
     refine then_r ?_
     refine inb_r ?_
     refine then_r ?_
     obtain rfl := sinj hm
     obtain rfl := hfin1 _ rfl
     clear hm
     have hm : (some x1 : Option Int) = some _ := hmo1
     obtain rfl := sinj hm
     refine post_r _ F rfl (ar_cons (resT rfl) ar_nil) ?_
     replace S : St g2 [] fr w := St.tail [] _ S
     exact ⟨_, rfl, g2, l2, S, rfl⟩
    ·refine wp_condF F rfl hc2 ?_
     refine wp_skip ?_
     refine inb_n ?_
     refine then_n ?_
     refine wp_region_lit ?_
     refine wE (ev_move rfl) F S rfl fun a F=>?_
     obtain ⟨z1, hz1, hm⟩ := bind_some hm
     refine wE (ev_int rfl rfl (bo_add hz1)) F S rfl fun a F=>?_
     refine wE (ev_assign rfl) F S rfl fun a F=>?_
     refine wpList_nil ?_
     refine then_n ?_
     obtain rfl := sinj hm
     refine ⟨_, rfl, ?_⟩
     exact ⟨g2, F.sub ⟨rfl, rfl, rfl, trivial⟩, l2, S⟩
   ·refine wp_condF F rfl hc1 ?_
    refine wp_exit ?_
    refine then_e ?_
    refine then_e ?_
    refine inb_x ?_
    refine then_n ?_
    obtain rfl := sinj hm
    obtain rfl := hfin1 _ rfl
    clear hm
    have hm : (changeforgeref2_FileAt.j1 : Option Int) = some _ := hmo1
    replace S : St g2 [] fr w := St.tail [] _ S
    exact ⟨g2, F.sub trivial, l2, S, hm⟩
 ·clear F S hm; rintro a w ⟨g1, F, l1, S, hm⟩
  refine wp_seq ?_
  refine wp_region_lit ?_
  refine wE (ev_assign rfl) F S rfl fun a F=>?_
  refine wpList_nil ?_
  refine then_n ?_
  refine wp_ret ?_
  obtain rfl := sinj hm
  refine post_r _ F rfl (ar_cons (resT rfl) ar_nil) ?_
  exact ⟨_, rfl, g1, l1, S, rfl⟩
end Go.Dc
