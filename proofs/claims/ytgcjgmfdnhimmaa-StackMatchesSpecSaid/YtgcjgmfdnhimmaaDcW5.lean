/- Walks: each function comes to what its model says. -/
import Derived.Test.YtgcjgmfdnhimmaaDcTab
import Derived.Test.YtgcjgmfdnhimmaaDcM
namespace Go.Dc
open Go Go.Proofs
set_option maxRecDepth 100000
set_option maxHeartbeats 4000000
set_option linter.unusedVariables false
theorem changeforgeref1_At_ok {g : Gh} {fr : Hl} {w : World} {r : Fault} (code : Int) (index : Int) (S : St g [] fr w) (hm : changeforgeref1_At code index = some r) :
  Calls Try.prog 26 [.i6 code, .i6 index].toArray w (fun en w' => ∃ v, en = .returned v ∧ ∃ (g' : Gh), Le g g' ∧ St g' [] fr w' ∧ .agg #[.i6 r.Code, .i6 r.Index] = v) := by
 unfold changeforgeref1_At at hm
 refine calls_enter (fn := Try.f26) Try.func26 rfl Try.ntmps26 (lb rfl) ?_
 intro a F
 replace F : Fr 8 a [(0, .i6 code), (1, .i6 index)] := F
 refine wp_seq ?_
 refine wp_region_lit ?_
 refine wl_alloc (wn rfl) rfl tz24 (cs := [.i6 0, .i6 0]) rfl F S rfl rfl ?_; clear F a S; rintro b1 a w F S
 refine wpList_nil ?_
 refine then_n ?_
 refine wp_seq ?_
 refine wp_region_lit ?_
 refine wE (ev_move rfl) F S rfl fun a F=>?_
 refine wE (ev_move rfl) F S rfl fun a F=>?_
 refine wE (ev_build (parts := [(0, .tmp 5), (1, .tmp 6)]) (vs := [(0, .i6 code), (1, .i6 index)]) rfl (fun w => tb24_0_1 code index w)) F S rfl fun a F=>?_
 refine wl_storeC (wn rfl) rfl F S rfl rfl (vs := [.i6 code, .i6 index]) rfl ts24 (one_cons rfl (one_cons rfl one_nil)) (k := 0) rfl (lb rfl) (c' := #[.i6 code, .i6 index]) rfl rfl ?_; clear S; intro w S
 refine wpList_nil ?_
 refine then_n ?_
 refine wp_ret ?_
 obtain rfl := sinj hm
 refine post_r _ F rfl (ar_cons (resA rfl tu24 rfl (box_ptr (cells := [.i6 code, .i6 index]) 0 rfl 0 rfl (lb rfl) w S) ts24) ar_nil) ?_
 replace S : St g [] fr w := St.tail [] _ S
 exact ⟨_, rfl, g, (Le.refl _), S, rfl⟩

theorem changeforgeref1_LinesFault_ok {g : Gh} {fr : Hl} {w : World} {r : Fault} (l_ : (List ByteArray)) (vl_1 : Value) (hl_1 : RepSl g l_ vl_1) (S : St g [] fr w) (hm : changeforgeref1_LinesFault l_ = some r) :
  Calls Try.prog 55 [vl_1].toArray w (fun en w' => ∃ v, en = .returned v ∧ ∃ (g' : Gh), Le g g' ∧ St g' [] fr w' ∧ .agg #[.i6 r.Code, .i6 r.Index] = v) := by
 unfold changeforgeref1_LinesFault at hm
 refine calls_enter (fn := Try.f55) Try.func55 rfl Try.ntmps55 (lb rfl) ?_
 intro a F
 replace F : Fr 42 a [(0, vl_1)] := F
 refine wp_seq ?_
 refine wp_region_lit ?_
 refine wl_alloc (wn rfl) rfl tz24 (cs := [.i6 0, .i6 0]) rfl F S rfl rfl ?_; clear F a S; rintro b1 a w F S
 refine wpList_nil ?_
 refine then_n ?_
 refine wp_seq ?_
 refine wp_seq ?_
 refine wp_region_lit ?_
 refine wE (ev_move rfl) F S rfl fun a F=>?_
 refine wE (ev_lenSh hl_1 rfl tu31) F S rfl fun a F=>?_
 refine wE (ev_int rfl rfl (bo_gtr _ _ _ _)) F S rfl fun a F=>?_
 refine wpList_nil ?_
 refine then_n ?_
 obtain ⟨hc1, hm⟩ | ⟨hc1, hm⟩ := ite_or hm
 ·refine wp_condT F rfl hc1 ?_
  refine wp_seq ?_
  refine wp_region_lit ?_
  obtain ⟨y1, hy1, hm⟩ := bind_some hm
  refine wl_call0 (wn rfl) rfl F rfl (changeforgeref1_At_ok (fr := (fl [[bx b1 #[.i6 0, .i6 0] 24]] fr)) 2 (-1) S hy1) rfl tc26 rfl rfl ?_; clear F a S
  rintro _ a w ⟨g1, l1, S, rfl⟩ F; replace S : St g1 [[bx b1 #[.i6 0, .i6 0] 24]] fr w := S
  refine wl_storeC (wn rfl) rfl F S rfl rfl (vs := [.i6 y1.Code, .i6 y1.Index]) rfl ts24 (one_cons rfl (one_cons rfl one_nil)) (k := 0) rfl (lb rfl) (c' := #[.i6 y1.Code, .i6 y1.Index]) rfl rfl ?_; clear S; intro w S
  refine wpList_nil ?_
  refine then_n ?_
  refine wp_ret ?_
  refine then_r ?_
  obtain rfl := sinj hm
  refine post_r _ F rfl (ar_cons (resA rfl tu24 rfl (box_ptr (cells := [.i6 y1.Code, .i6 y1.Index]) 0 rfl 0 rfl (lb rfl) w S) ts24) ar_nil) ?_
  replace S : St g1 [] fr w := St.tail [] _ S
  exact ⟨_, rfl, g1, l1, S, rfl⟩
 ·refine wp_condF F rfl hc1 ?_
  refine wp_skip ?_
  refine then_n ?_
  refine wp_cut (fun a w => ∃ (g2 : Gh), Fr 42 a [(2, bp b1 0)] ∧ Le g g2 ∧ St g2 [[bx b1 #[.i6 0, .i6 0] 24]] fr w ∧ changeforgeref1_LinesFault.j1 = some r) ?_ ?_
  ·refine wp_seq ?_
   refine wp_region_lit ?_
   refine wE (ev_assign rfl) F S rfl fun a F=>?_
   refine wpList_nil ?_
   refine then_n ?_
   refine wp_block ?_
   obtain ⟨r1, hr1, hm⟩ := bind_some hm
   have hmo1 := hm; clear hm
   refine wp_iter (σ := Int) (ρ := Fault ⊕ Unit) (m := fun s => changeforgeref1_LinesFault.l1 l_ s) (I := fun x1 a w => ∃ (g3 : Gh), Fr 42 a [(3, .i6 x1), (2, bp b1 0), (0, vl_1)] ∧ Le g g3 ∧ St g3 [[bx b1 #[.i6 0, .i6 0] 24]] fr w) hr1 ?_ ?_
   ·exact ⟨g, F.sub ⟨rfl, rfl, rfl, trivial⟩, (Le.refl _), S⟩
   ·clear F S; rintro x1 a w x2 ⟨g3, F, l3, S⟩ hx1 hfin1
    have hm : changeforgeref1_LinesFault.l1 l_ x1 = some x2 := hx1; clear hx1
    unfold changeforgeref1_LinesFault.l1 at hm
    refine wp_seq ?_
    refine wp_seq ?_
    refine wp_region_lit ?_
    refine wE (ev_move rfl) F S rfl fun a F=>?_
    refine wE (ev_move rfl) F S rfl fun a F=>?_
    refine wE (ev_lenSh hl_1 rfl tu31) F S rfl fun a F=>?_
    refine wE (ev_int rfl rfl (bo_lss _ _ _ _)) F S rfl fun a F=>?_
    refine wpList_nil ?_
    refine then_n ?_
    obtain ⟨hc2, hm⟩ | ⟨hc2, hm⟩ := ite_or hm
    ·refine wp_condT F rfl hc2 ?_
     refine wp_skip ?_
     refine then_n ?_
     refine wp_cut (fun a w => ∃ (g4 : Gh), Fr 42 a [(3, .i6 x1), (2, bp b1 0), (0, vl_1)] ∧ Le g3 g4 ∧ St g4 [[bx b1 #[.i6 0, .i6 0] 24]] fr w ∧ changeforgeref1_LinesFault.j2 x1 = some x2) ?_ ?_
     ·refine wp_block ?_
      refine wp_seq ?_
      refine wp_seq ?_
      refine wp_region_lit ?_
      refine wE (ev_move rfl) F S rfl fun a F=>?_
      refine wE (ev_move rfl) F S rfl fun a F=>?_
      obtain ⟨y2, hy2, hm⟩ := bind_some hm
      obtain ⟨cs1, hr2, hp1⟩ := elemS (hl_1.mono l3) hy2
      obtain rfl := rep_str hr2
      refine wE (ev_idxS (hl_1.mono l3) hy2 tu31 ts9 rfl rfl) F S rfl fun a F=>?_
      refine wE (ev_load1 tu9 rfl rfl (ptr_mono (cks := [[bx b1 #[.i6 0, .i6 0] 24]]) (fr := fr) hp1 (Le.refl _))) F S rfl fun a F=>?_
      refine wE (ev_lenS rfl tu9) F S rfl fun a F=>?_
      refine wE (ev_int rfl rfl (bo_gtr _ _ _ _)) F S rfl fun a F=>?_
      refine wpList_nil ?_
      refine then_n ?_
      obtain ⟨hc3, hm⟩ | ⟨hc3, hm⟩ := ite_or hm
      ·refine wp_condT F rfl hc3 ?_
       refine wp_seq ?_
       refine wp_region_lit ?_
       refine wE (ev_move rfl) F S rfl fun a F=>?_
       obtain ⟨y3, hy3, hm⟩ := bind_some hm
       refine wl_call0 (wn rfl) rfl F rfl (changeforgeref1_At_ok (fr := (fl [[bx b1 #[.i6 0, .i6 0] 24]] fr)) 2 x1 S hy3) rfl tc26 rfl rfl ?_; clear F a S
       rintro _ a w ⟨g5, l5, S, rfl⟩ F; replace S : St g5 [[bx b1 #[.i6 0, .i6 0] 24]] fr w := S
       refine wl_storeC (wn rfl) rfl F S rfl rfl (vs := [.i6 y3.Code, .i6 y3.Index]) rfl ts24 (one_cons rfl (one_cons rfl one_nil)) (k := 0) rfl (lb rfl) (c' := #[.i6 y3.Code, .i6 y3.Index]) rfl rfl ?_; clear S; intro w S
       refine wpList_nil ?_
       refine then_n ?_
       refine wp_ret ?_
       refine then_r ?_
       refine inb_r ?_
       refine then_r ?_
       refine then_r ?_
       refine inb_r ?_
       refine then_r ?_
       obtain rfl := sinj hm
       obtain rfl := hfin1 _ rfl
       clear hm
       have hm : (some y3 : Option Fault) = some _ := hmo1
       obtain rfl := sinj hm
       refine post_r _ F rfl (ar_cons (resA rfl tu24 rfl (box_ptr (cells := [.i6 y3.Code, .i6 y3.Index]) 0 rfl 0 rfl (lb rfl) w S) ts24) ar_nil) ?_
       replace S : St g5 [] fr w := St.tail [] _ S
       exact ⟨_, rfl, g5, (l3.trans l5), S, rfl⟩
      ·refine wp_condF F rfl hc3 ?_
       refine wp_skip ?_
       refine then_n ?_
       refine wp_seq ?_
       refine wp_region_lit ?_
       refine wE (ev_assign rfl) F S rfl fun a F=>?_
       refine wpList_nil ?_
       refine then_n ?_
       refine wp_cut1 (fun a w => ∃ (g6 : Gh), Fr 42 a [(3, .i6 x1), (2, bp b1 0), (0, vl_1)] ∧ Le g3 g6 ∧ St g6 [[bx b1 #[.i6 0, .i6 0] 24]] fr w ∧ changeforgeref1_LinesFault.j3 x1 = some x2) ?_ ?_
       ·refine wp_block ?_
        obtain ⟨r2, hr3, hm⟩ := bind_some hm
        have hmo2 := hm; clear hm
        refine wp_iter (σ := Int) (ρ := Fault ⊕ Unit) (m := fun s => changeforgeref1_LinesFault.l2 l_ x1 s) (I := fun x3 a w => ∃ (g7 : Gh), Fr 42 a [(4, .i6 x3), (3, .i6 x1), (2, bp b1 0), (0, vl_1)] ∧ Le g3 g7 ∧ St g7 [[bx b1 #[.i6 0, .i6 0] 24]] fr w) hr3 ?_ ?_
        ·exact ⟨g3, F.sub ⟨rfl, rfl, rfl, rfl, trivial⟩, (Le.refl _), S⟩
        ·clear F S; rintro x3 a w x4 ⟨g7, F, l7, S⟩ hx2 hfin2
         have hm : changeforgeref1_LinesFault.l2 l_ x1 x3 = some x4 := hx2; clear hx2
         unfold changeforgeref1_LinesFault.l2 at hm
         refine wp_seq ?_
         refine wp_seq ?_
         refine wp_region_lit ?_
         refine wE (ev_move rfl) F S rfl fun a F=>?_
         refine wE (ev_move rfl) F S rfl fun a F=>?_
         refine wE (ev_move rfl) F S rfl fun a F=>?_
         obtain ⟨y4, hy4, hm⟩ := bind_some hm
         obtain ⟨cs2, hr4, hp2⟩ := elemS (hl_1.mono (l3.trans l7)) hy4
         obtain rfl := rep_str hr4
         refine wE (ev_idxS (hl_1.mono (l3.trans l7)) hy4 tu31 ts9 rfl rfl) F S rfl fun a F=>?_
         refine wE (ev_load1 tu9 rfl rfl (ptr_mono (cks := [[bx b1 #[.i6 0, .i6 0] 24]]) (fr := fr) hp2 (Le.refl _))) F S rfl fun a F=>?_
         refine wE (ev_lenS rfl tu9) F S rfl fun a F=>?_
         refine wE (ev_int rfl rfl (bo_lss _ _ _ _)) F S rfl fun a F=>?_
         refine wpList_nil ?_
         refine then_n ?_
         obtain ⟨hc4, hm⟩ | ⟨hc4, hm⟩ := ite_or hm
         ·refine wp_condT F rfl hc4 ?_
          refine wp_skip ?_
          refine then_n ?_
          refine wp_seq ?_
          refine wp_block ?_
          refine wp_seq ?_
          refine wp_region_lit ?_
          refine wE (ev_move rfl) F S rfl fun a F=>?_
          refine wE (ev_move rfl) F S rfl fun a F=>?_
          obtain ⟨y5, hy5, hm⟩ := bind_some hm
          obtain ⟨cs3, hr5, hp3⟩ := elemS (hl_1.mono (l3.trans l7)) hy5
          obtain rfl := rep_str hr5
          refine wE (ev_idxS (hl_1.mono (l3.trans l7)) hy5 tu31 ts9 rfl rfl) F S rfl fun a F=>?_
          refine wE (ev_load1 tu9 rfl rfl (ptr_mono (cks := [[bx b1 #[.i6 0, .i6 0] 24]]) (fr := fr) hp3 (Le.refl _))) F S rfl fun a F=>?_
          refine wE (ev_move rfl) F S rfl fun a F=>?_
          obtain ⟨y6, hy6, hm⟩ := bind_some hm
          refine wE (ev_sAt hy6 tu9 rfl rfl) F S rfl fun a F=>?_
          refine wE (ev_int rfl rfl (bo_eql _ _ _ _)) F S rfl fun a F=>?_
          refine wpList_nil ?_
          refine then_n ?_
          obtain ⟨hc5, hm⟩ | ⟨hc5, hm⟩ := ite_or hm
          ·refine wp_condT F rfl hc5 ?_
           refine wp_seq ?_
           refine wp_region_lit ?_
           refine wE (ev_move rfl) F S rfl fun a F=>?_
           obtain ⟨y7, hy7, hm⟩ := bind_some hm
           refine wl_call0 (wn rfl) rfl F rfl (changeforgeref1_At_ok (fr := (fl [[bx b1 #[.i6 0, .i6 0] 24]] fr)) 5 x1 S hy7) rfl tc26 rfl rfl ?_; clear F a S
           rintro _ a w ⟨g8, l8, S, rfl⟩ F; replace S : St g8 [[bx b1 #[.i6 0, .i6 0] 24]] fr w := S
           refine wl_storeC (wn rfl) rfl F S rfl rfl (vs := [.i6 y7.Code, .i6 y7.Index]) rfl ts24 (one_cons rfl (one_cons rfl one_nil)) (k := 0) rfl (lb rfl) (c' := #[.i6 y7.Code, .i6 y7.Index]) rfl rfl ?_; clear S; intro w S
           refine wpList_nil ?_
           refine then_n ?_
           refine wp_ret ?_
           refine inb_r ?_
           refine then_r ?_
           refine then_r ?_
           refine inb_r ?_
           refine then_r ?_
           refine inb_r ?_
           refine then_r ?_
           refine then_r ?_
           refine inb_r ?_
           refine then_r ?_
           obtain rfl := sinj hm
           obtain rfl := hfin2 _ rfl
           clear hm
           have hm : (some (Step.done (Sum.inl y7)) : Option (Step Int (Fault ⊕ Unit))) = some _ := hmo2
           obtain rfl := sinj hm
           obtain rfl := hfin1 _ rfl
           clear hm
           have hm : (some y7 : Option Fault) = some _ := hmo1
           obtain rfl := sinj hm
           refine post_r _ F rfl (ar_cons (resA rfl tu24 rfl (box_ptr (cells := [.i6 y7.Code, .i6 y7.Index]) 0 rfl 0 rfl (lb rfl) w S) ts24) ar_nil) ?_
           replace S : St g8 [] fr w := St.tail [] _ S
           exact ⟨_, rfl, g8, ((l3.trans l7).trans l8), S, rfl⟩
          ·refine wp_condF F rfl hc5 ?_
           refine wp_skip ?_
           refine inb_n ?_
           refine then_n ?_
           refine wp_region_lit ?_
           refine wE (ev_move rfl) F S rfl fun a F=>?_
           obtain ⟨z2, hz2, hm⟩ := bind_some hm
           refine wE (ev_int rfl rfl (bo_add hz2)) F S rfl fun a F=>?_
           refine wE (ev_assign rfl) F S rfl fun a F=>?_
           refine wpList_nil ?_
           refine then_n ?_
           obtain rfl := sinj hm
           refine ⟨_, rfl, ?_⟩
           exact ⟨g7, F.sub ⟨rfl, rfl, rfl, rfl, trivial⟩, l7, S⟩
         ·refine wp_condF F rfl hc4 ?_
          refine wp_exit ?_
          refine then_e ?_
          refine then_e ?_
          refine inb_x ?_
          refine then_n ?_
          obtain rfl := sinj hm
          obtain rfl := hfin2 _ rfl
          clear hm
          have hm : (changeforgeref1_LinesFault.j3 x1 : Option (Step Int (Fault ⊕ Unit))) = some _ := hmo2
          exact ⟨g7, F.sub ⟨rfl, rfl, rfl, trivial⟩, l7, S, hm⟩
       ·clear F S hm; rintro a w ⟨g6, F, l6, S, hm⟩
        refine inb_n ?_
        refine then_n ?_
        exact ⟨g6, F.sub ⟨rfl, rfl, rfl, trivial⟩, l6, S, hm⟩
     ·clear F S hm; rintro a w ⟨g4, F, l4, S, hm⟩
      refine wp_region_lit ?_
      refine wE (ev_move rfl) F S rfl fun a F=>?_
      obtain ⟨z1, hz1, hm⟩ := bind_some hm
      refine wE (ev_int rfl rfl (bo_add hz1)) F S rfl fun a F=>?_
      refine wE (ev_assign rfl) F S rfl fun a F=>?_
      refine wpList_nil ?_
      refine then_n ?_
      obtain rfl := sinj hm
      refine ⟨_, rfl, ?_⟩
      exact ⟨g4, F.sub ⟨rfl, rfl, rfl, trivial⟩, (l3.trans l4), S⟩
    ·refine wp_condF F rfl hc2 ?_
     refine wp_exit ?_
     refine then_e ?_
     refine then_e ?_
     refine inb_x ?_
     refine then_n ?_
     obtain rfl := sinj hm
     obtain rfl := hfin1 _ rfl
     clear hm
     have hm : (changeforgeref1_LinesFault.j1 : Option Fault) = some _ := hmo1
     exact ⟨g3, F.sub ⟨rfl, trivial⟩, l3, S, hm⟩
  ·clear F S hm; rintro a w ⟨g2, F, l2, S, hm⟩
   refine wp_seq ?_
   refine wp_region_lit ?_
   refine wE (ev_build (parts := []) (vs := []) rfl (fun w => tb24_  w)) F S rfl fun a F=>?_
   refine wl_storeC (wn rfl) rfl F S rfl rfl (vs := [.i6 0, .i6 0]) rfl ts24 (one_cons rfl (one_cons rfl one_nil)) (k := 0) rfl (lb rfl) (c' := #[.i6 0, .i6 0]) rfl rfl ?_; clear S; intro w S
   refine wpList_nil ?_
   refine then_n ?_
   refine wp_ret ?_
   obtain rfl := sinj hm
   refine post_r _ F rfl (ar_cons (resA rfl tu24 rfl (box_ptr (cells := [.i6 0, .i6 0]) 0 rfl 0 rfl (lb rfl) w S) ts24) ar_nil) ?_
   replace S : St g2 [] fr w := St.tail [] _ S
   exact ⟨_, rfl, g2, l2, S, rfl⟩

theorem changeforgeref1_LinesCode_ok {g : Gh} {fr : Hl} {w : World} {r : Int} (l_ : (List ByteArray)) (vl_1 : Value) (hl_1 : RepSl g l_ vl_1) (S : St g [] fr w) (hm : changeforgeref1_LinesCode l_ = some r) :
  Calls Try.prog 40 [vl_1].toArray w (fun en w' => ∃ v, en = .returned v ∧ ∃ (g' : Gh), Le g g' ∧ St g' [] fr w' ∧ .i6 r = v) := by
 unfold changeforgeref1_LinesCode at hm
 refine calls_enter (fn := Try.f40) Try.func40 rfl Try.ntmps40 (lb rfl) ?_
 intro a F
 replace F : Fr 6 a [(0, vl_1)] := F
 refine wp_seq ?_
 refine wp_region_lit ?_
 refine wE (ev_assign rfl) F S rfl fun a F=>?_
 refine wpList_nil ?_
 refine then_n ?_
 refine wp_seq ?_
 refine wp_region_lit ?_
 refine wE (ev_move rfl) F S rfl fun a F=>?_
 obtain ⟨y1, hy1, hm⟩ := bind_some hm
 refine wl_call0 (wn rfl) rfl F rfl (changeforgeref1_LinesFault_ok l_ vl_1 hl_1 S hy1) rfl tc55 rfl rfl ?_; clear F a S
 rintro _ a w ⟨g1, l1, S, rfl⟩ F; replace S : St g1 [] fr w := S
 refine wE (ev_field1 tu24 tf24_0 tu3 rfl (cs := [.i6 y1.Code, .i6 y1.Index]) rfl rfl) F S rfl fun a F=>?_
 refine wE (ev_assign rfl) F S rfl fun a F=>?_
 refine wpList_nil ?_
 refine then_n ?_
 refine wp_ret ?_
 obtain rfl := sinj hm
 refine post_r _ F rfl (ar_cons (resT rfl) ar_nil) ?_
 exact ⟨_, rfl, g1, l1, S, rfl⟩

theorem changeforgeref1_End_ok {g : Gh} {fr : Hl} {w : World} {r : Int} (h_ : Hunk) (vh_1 : Value) (hh_1 : RepSl g h_.Old vh_1) (vh_2 : Value) (hh_2 : RepSl g h_.New vh_2) (S : St g [] fr w) (hm : changeforgeref1_End h_ = some r) :
  Calls Try.prog 57 [.agg #[.i6 h_.At, vh_1, vh_2]].toArray w (fun en w' => ∃ v, en = .returned v ∧ ∃ (g' : Gh), Le g g' ∧ St g' [] fr w' ∧ .i6 r = v) := by
 unfold changeforgeref1_End at hm
 refine calls_enter (fn := Try.f57) Try.func57 rfl Try.ntmps57 (lb rfl) ?_
 intro a F
 replace F : Fr 9 a [(0, .agg #[.i6 h_.At, vh_1, vh_2])] := F
 refine wp_seq ?_
 refine wp_region_lit ?_
 refine wl_boxC (wn rfl) rfl rfl rfl F S rfl rfl ?_; clear F a S; rintro b1 a w F S
 refine wE (ev_assign rfl) F S rfl fun a F=>?_
 refine wpList_nil ?_
 refine then_n ?_
 refine wp_seq ?_
 refine wp_region_lit ?_
 refine wE (ev_fieldAddr' tu60 tf60_0 (z := 0) ts3 rfl ⟨_, rfl⟩ rfl) F S rfl fun a F=>?_
 refine wE (ev_load1 tu3 rfl rfl (box_ptr (cells := [.i6 h_.At]) 0 rfl 0 rfl (lb rfl))) F S rfl fun a F=>?_
 refine wE (ev_fieldAddr' tu60 tf60_1 (z := 0) ts31 rfl ⟨_, rfl⟩ rfl) F S rfl fun a F=>?_
 refine wE (ev_load1 tu31 rfl rfl (box_ptr (cells := [vh_1]) 0 rfl 1 rfl (lb rfl))) F S rfl fun a F=>?_
 refine wE (ev_lenSh hh_1 rfl tu31) F S rfl fun a F=>?_
 obtain ⟨z1, hz1, hm⟩ := bind_some hm
 refine wE (ev_int rfl rfl (bo_add hz1)) F S rfl fun a F=>?_
 refine wE (ev_assign rfl) F S rfl fun a F=>?_
 refine wpList_nil ?_
 refine then_n ?_
 refine wp_ret ?_
 obtain rfl := sinj hm
 refine post_r _ F rfl (ar_cons (resT rfl) ar_nil) ?_
 replace S : St g [] fr w := St.tail [] _ S
 exact ⟨_, rfl, g, (Le.refl _), S, rfl⟩

theorem changeforgeref1_PatchFault_ok {g : Gh} {fr : Hl} {w : World} {r : Fault} (p_ : Patch) (vp_1 : Value) (hp_1 : RepSl g p_.Hunks vp_1) (S : St g [] fr w) (hm : changeforgeref1_PatchFault p_ = some r) :
  Calls Try.prog 46 [.agg #[vp_1]].toArray w (fun en w' => ∃ v, en = .returned v ∧ ∃ (g' : Gh), Le g g' ∧ St g' [] fr w' ∧ .agg #[.i6 r.Code, .i6 r.Index] = v) := by
 unfold changeforgeref1_PatchFault at hm
 refine calls_enter (fn := Try.f46) Try.func46 rfl Try.ntmps46 (lb rfl) ?_
 intro a F
 replace F : Fr 82 a [(0, .agg #[vp_1])] := F
 refine wp_seq ?_
 refine wp_region_lit ?_
 refine wl_boxC (wn rfl) rfl rfl rfl F S rfl rfl ?_; clear F a S; rintro b1 a w F S
 refine wl_alloc (wn rfl) rfl tz24 (cs := [.i6 0, .i6 0]) rfl F S rfl rfl ?_; clear F a S; rintro b2 a w F S
 refine wpList_nil ?_
 refine then_n ?_
 refine wp_seq ?_
 refine wp_seq ?_
 refine wp_region_lit ?_
 refine wE (ev_fieldAddr' tu38 tf38_0 (z := 0) ts36 rfl ⟨_, rfl⟩ rfl) F S rfl fun a F=>?_
 refine wE (ev_load1 tu36 rfl rfl (box_ptr (cells := [vp_1]) 1 rfl 0 rfl (lb rfl))) F S rfl fun a F=>?_
 refine wE (ev_lenSh hp_1 rfl tu36) F S rfl fun a F=>?_
 refine wE (ev_int rfl rfl (bo_gtr _ _ _ _)) F S rfl fun a F=>?_
 refine wpList_nil ?_
 refine then_n ?_
 obtain ⟨hc1, hm⟩ | ⟨hc1, hm⟩ := ite_or hm
 ·refine wp_condT F rfl hc1 ?_
  refine wp_seq ?_
  refine wp_region_lit ?_
  obtain ⟨y1, hy1, hm⟩ := bind_some hm
  refine wl_call0 (wn rfl) rfl F rfl (changeforgeref1_At_ok (fr := (fl [[bx b2 #[.i6 0, .i6 0] 24], [bx b1 #[vp_1] 38]] fr)) 2 (-1) S hy1) rfl tc26 rfl rfl ?_; clear F a S
  rintro _ a w ⟨g1, l1, S, rfl⟩ F; replace S : St g1 [[bx b2 #[.i6 0, .i6 0] 24], [bx b1 #[vp_1] 38]] fr w := S
  refine wl_storeC (wn rfl) rfl F S rfl rfl (vs := [.i6 y1.Code, .i6 y1.Index]) rfl ts24 (one_cons rfl (one_cons rfl one_nil)) (k := 0) rfl (lb rfl) (c' := #[.i6 y1.Code, .i6 y1.Index]) rfl rfl ?_; clear S; intro w S
  refine wpList_nil ?_
  refine then_n ?_
  refine wp_ret ?_
  refine then_r ?_
  obtain rfl := sinj hm
  refine post_r _ F rfl (ar_cons (resA rfl tu24 rfl (box_ptr (cells := [.i6 y1.Code, .i6 y1.Index]) 0 rfl 0 rfl (lb rfl) w S) ts24) ar_nil) ?_
  replace S : St g1 [] fr w := St.tail [] _ S
  exact ⟨_, rfl, g1, l1, S, rfl⟩
 ·refine wp_condF F rfl hc1 ?_
  refine wp_skip ?_
  refine then_n ?_
  refine wp_cut (fun a w => ∃ (g2 : Gh), Fr 82 a [(2, bp b2 0)] ∧ Le g g2 ∧ St g2 [[bx b2 #[.i6 0, .i6 0] 24]] fr w ∧ changeforgeref1_PatchFault.j1 = some r) ?_ ?_
  ·refine wp_seq ?_
   refine wp_region_lit ?_
   refine wE (ev_assign rfl) F S rfl fun a F=>?_
   refine wpList_nil ?_
   refine then_n ?_
   refine wp_block ?_
   obtain ⟨r1, hr1, hm⟩ := bind_some hm
   have hmo1 := hm; clear hm
   refine wp_iter (σ := Int) (ρ := Fault ⊕ Unit) (m := fun s => changeforgeref1_PatchFault.l1 p_ s) (I := fun x1 a w => ∃ (g3 : Gh), Fr 82 a [(3, .i6 x1), (2, bp b2 0), (1, bp b1 0)] ∧ Le g g3 ∧ St g3 [[bx b2 #[.i6 0, .i6 0] 24], [bx b1 #[vp_1] 38]] fr w) hr1 ?_ ?_
   ·exact ⟨g, F.sub ⟨rfl, rfl, rfl, trivial⟩, (Le.refl _), S⟩
   ·clear F S; rintro x1 a w x2 ⟨g3, F, l3, S⟩ hx1 hfin1
    have hm : changeforgeref1_PatchFault.l1 p_ x1 = some x2 := hx1; clear hx1
    unfold changeforgeref1_PatchFault.l1 at hm
    refine wp_seq ?_
    refine wp_seq ?_
    refine wp_region_lit ?_
    refine wE (ev_move rfl) F S rfl fun a F=>?_
    refine wE (ev_fieldAddr' tu38 tf38_0 (z := 0) ts36 rfl ⟨_, rfl⟩ rfl) F S rfl fun a F=>?_
    refine wE (ev_load1 tu36 rfl rfl (box_ptr (cells := [vp_1]) 1 rfl 0 rfl (lb rfl))) F S rfl fun a F=>?_
    refine wE (ev_lenSh hp_1 rfl tu36) F S rfl fun a F=>?_
    refine wE (ev_int rfl rfl (bo_lss _ _ _ _)) F S rfl fun a F=>?_
    refine wpList_nil ?_
    refine then_n ?_
    obtain ⟨hc2, hm⟩ | ⟨hc2, hm⟩ := ite_or hm
    ·refine wp_condT F rfl hc2 ?_
     refine wp_skip ?_
     refine then_n ?_
     refine wp_seq ?_
     refine wp_block ?_
     refine wp_seq ?_
     refine wp_region_lit ?_
     refine wE (ev_fieldAddr' tu38 tf38_0 (z := 0) ts36 rfl ⟨_, rfl⟩ rfl) F S rfl fun a F=>?_
     refine wE (ev_load1 tu36 rfl rfl (box_ptr (cells := [vp_1]) 1 rfl 0 rfl (lb rfl))) F S rfl fun a F=>?_
     refine wE (ev_move rfl) F S rfl fun a F=>?_
     obtain ⟨y2, hy2, hm⟩ := bind_some hm
     obtain ⟨cs1, hr2, hp1⟩ := elemS (hp_1.mono l3) hy2
     obtain ⟨v1, v2, rfl, h1, h2⟩ := rep_Hunk hr2
     refine wE (ev_idxS (hp_1.mono l3) hy2 tu36 ts60 rfl rfl) F S rfl fun a F=>?_
     refine wE (ev_loadA tu60 rfl (cs := [.i6 y2.At, v1, v2]) ts60 rfl (ptr_mono (cks := [[bx b2 #[.i6 0, .i6 0] 24], [bx b1 #[vp_1] 38]]) (fr := fr) hp1 (Le.refl _))) F S rfl fun a F=>?_
     refine wl_alloc (wn rfl) rfl tz60 (cs := [.i6 0, nilS, nilS]) rfl F S rfl rfl ?_; clear F a S; rintro b3 a w F S
     refine wl_storeC (wn rfl) rfl F S rfl rfl (vs := [.i6 y2.At, v1, v2]) rfl ts60 (one_cons rfl (one_cons h1.one (one_cons h2.one one_nil))) (k := 0) rfl (lb rfl) (c' := #[.i6 y2.At, v1, v2]) rfl rfl ?_; clear S; intro w S
     refine wpList_nil ?_
     refine then_n ?_
     refine wp_seq ?_
     refine wp_seq ?_
     refine wp_region_lit ?_
     refine wE (ev_fieldAddr' tu60 tf60_0 (z := 0) ts3 rfl ⟨_, rfl⟩ rfl) F S rfl fun a F=>?_
     refine wE (ev_load1 tu3 rfl rfl (box_ptr (cells := [.i6 y2.At]) 0 rfl 0 rfl (lb rfl))) F S rfl fun a F=>?_
     refine wE (ev_int rfl rfl (bo_lss _ _ _ _)) F S rfl fun a F=>?_
     refine wE (ev_move rfl) F S rfl fun a F=>?_
     obtain ⟨x3, hx2, hm⟩ := bind_some hm
     refine wl_cut 4 (fun a w' => w = w' ∧ Fr 82 a [(31, .bool x3), (4, bp b3 0), (3, .i6 x1), (2, bp b2 0), (1, bp b1 0)]) ?_ ?_
     ·clear hm; obtain ⟨hc3, hm⟩ | ⟨hc3, hm⟩ := ite_or hx2
      ·refine wl_skip rfl rfl rfl rfl (ne_ft hc3) F rfl rfl ?_; clear F a; intro a F
       refine wl_skip rfl rfl rfl rfl (ne_ft hc3) F rfl rfl ?_; clear F a; intro a F
       refine wl_skip rfl rfl rfl rfl (ne_ft hc3) F rfl rfl ?_; clear F a; intro a F
       refine wE (ev_pickT rfl hc3 rfl) F S rfl fun a F=>?_
       obtain rfl := sinj hm
       refine wpList_nil (then_n ?_); exact ⟨rfl, F.sub ⟨rfl, rfl, rfl, rfl, rfl, trivial⟩⟩
      ·refine wl_ev (wg F rfl rfl rfl rfl hc3) (ev_fieldAddr' tu60 tf60_0 (z := 0) ts3 rfl ⟨_, rfl⟩ rfl) F S rfl rfl ?_; clear F a; intro a F
       refine wl_ev (wg F rfl rfl rfl rfl hc3) (ev_load1 tu3 rfl rfl (box_ptr (cells := [.i6 y2.At]) 0 rfl 0 rfl (lb rfl))) F S rfl rfl ?_; clear F a; intro a F
       refine wl_ev (wg F rfl rfl rfl rfl hc3) (ev_int rfl rfl (bo_gtr _ _ _ _)) F S rfl rfl ?_; clear F a; intro a F
       refine wE (ev_pickF rfl hc3 rfl) F S rfl fun a F=>?_
       obtain rfl := sinj hm
       refine wpList_nil (then_n ?_); exact ⟨rfl, F.sub ⟨rfl, rfl, rfl, rfl, rfl, trivial⟩⟩
     clear F; rintro a w' ⟨rfl, F⟩
     refine wpList_nil ?_
     refine then_n ?_
     obtain ⟨hc4, hm⟩ | ⟨hc4, hm⟩ := ite_or hm
     ·refine wp_condT F rfl hc4 ?_
      refine wp_seq ?_
      refine wp_region_lit ?_
      refine wE (ev_move rfl) F S rfl fun a F=>?_
      obtain ⟨y3, hy3, hm⟩ := bind_some hm
      refine wl_call0 (wn rfl) rfl F rfl (changeforgeref1_At_ok (fr := (fl [[bx b3 #[.i6 y2.At, v1, v2] 60], [bx b2 #[.i6 0, .i6 0] 24], [bx b1 #[vp_1] 38]] fr)) 3 x1 S hy3) rfl tc26 rfl rfl ?_; clear F a S
      rintro _ a w ⟨g4, l4, S, rfl⟩ F; replace S : St g4 [[bx b3 #[.i6 y2.At, v1, v2] 60], [bx b2 #[.i6 0, .i6 0] 24], [bx b1 #[vp_1] 38]] fr w := S
      refine wl_storeC (wn rfl) rfl F S rfl rfl (vs := [.i6 y3.Code, .i6 y3.Index]) rfl ts24 (one_cons rfl (one_cons rfl one_nil)) (k := 1) rfl (lb rfl) (c' := #[.i6 y3.Code, .i6 y3.Index]) rfl rfl ?_; clear S; intro w S
      refine wpList_nil ?_
      refine then_n ?_
      refine wp_ret ?_
      refine then_r ?_
      refine inb_r ?_
      refine then_r ?_
      refine then_r ?_
      refine inb_r ?_
      refine then_r ?_
      obtain rfl := sinj hm
      obtain rfl := hfin1 _ rfl
      clear hm
      have hm : (some y3 : Option Fault) = some _ := hmo1
      obtain rfl := sinj hm
      refine post_r _ F rfl (ar_cons (resA rfl tu24 rfl (box_ptr (cells := [.i6 y3.Code, .i6 y3.Index]) 1 rfl 0 rfl (lb rfl) w S) ts24) ar_nil) ?_
      replace S : St g4 [] fr w := St.tail [] _ S
      exact ⟨_, rfl, g4, (l3.trans l4), S, rfl⟩
     ·refine wp_condF F rfl hc4 ?_
      refine wp_skip ?_
      refine then_n ?_
      refine wp_seq ?_
      refine wp_seq ?_
      refine wp_region_lit ?_
      refine wE (ev_fieldAddr' tu60 tf60_1 (z := 0) ts31 rfl ⟨_, rfl⟩ rfl) F S rfl fun a F=>?_
      refine wE (ev_load1 tu31 rfl rfl (box_ptr (cells := [v1]) 0 rfl 1 rfl (lb rfl))) F S rfl fun a F=>?_
      obtain ⟨y4, hy4, hm⟩ := bind_some hm
      refine wl_call0 (wn rfl) rfl F rfl (changeforgeref1_LinesCode_ok (fr := (fl [[bx b3 #[.i6 y2.At, v1, v2] 60], [bx b2 #[.i6 0, .i6 0] 24], [bx b1 #[vp_1] 38]] fr)) y2.Old v1 h1 S hy4) rfl tc40 rfl rfl ?_; clear F a S
      rintro _ a w ⟨g5, l5, S, rfl⟩ F; replace S : St g5 [[bx b3 #[.i6 y2.At, v1, v2] 60], [bx b2 #[.i6 0, .i6 0] 24], [bx b1 #[vp_1] 38]] fr w := S
      refine wE (ev_assign rfl) F S rfl fun a F=>?_
      refine wpList_nil ?_
      refine then_n ?_
      refine wp_seq ?_
      refine wp_region_lit ?_
      refine wE (ev_move rfl) F S rfl fun a F=>?_
      refine wE (ev_int rfl rfl (bo_neq _ _ _ _)) F S rfl fun a F=>?_
      refine wpList_nil ?_
      refine then_n ?_
      obtain ⟨hc5, hm⟩ | ⟨hc5, hm⟩ := ite_or hm
      ·refine wp_condT F rfl hc5 ?_
       refine wp_seq ?_
       refine wp_region_lit ?_
       refine wE (ev_move rfl) F S rfl fun a F=>?_
       refine wE (ev_move rfl) F S rfl fun a F=>?_
       obtain ⟨y5, hy5, hm⟩ := bind_some hm
       refine wl_call0 (wn rfl) rfl F rfl (changeforgeref1_At_ok (fr := (fl [[bx b3 #[.i6 y2.At, v1, v2] 60], [bx b2 #[.i6 0, .i6 0] 24], [bx b1 #[vp_1] 38]] fr)) y4 x1 S hy5) rfl tc26 rfl rfl ?_; clear F a S
       rintro _ a w ⟨g6, l6, S, rfl⟩ F; replace S : St g6 [[bx b3 #[.i6 y2.At, v1, v2] 60], [bx b2 #[.i6 0, .i6 0] 24], [bx b1 #[vp_1] 38]] fr w := S
       refine wl_storeC (wn rfl) rfl F S rfl rfl (vs := [.i6 y5.Code, .i6 y5.Index]) rfl ts24 (one_cons rfl (one_cons rfl one_nil)) (k := 1) rfl (lb rfl) (c' := #[.i6 y5.Code, .i6 y5.Index]) rfl rfl ?_; clear S; intro w S
       refine wpList_nil ?_
       refine then_n ?_
       refine wp_ret ?_
       refine then_r ?_
       refine inb_r ?_
       refine then_r ?_
       refine then_r ?_
       refine inb_r ?_
       refine then_r ?_
       obtain rfl := sinj hm
       obtain rfl := hfin1 _ rfl
       clear hm
       have hm : (some y5 : Option Fault) = some _ := hmo1
       obtain rfl := sinj hm
       refine post_r _ F rfl (ar_cons (resA rfl tu24 rfl (box_ptr (cells := [.i6 y5.Code, .i6 y5.Index]) 1 rfl 0 rfl (lb rfl) w S) ts24) ar_nil) ?_
       replace S : St g6 [] fr w := St.tail [] _ S
       exact ⟨_, rfl, g6, ((l3.trans l5).trans l6), S, rfl⟩
      ·refine wp_condF F rfl hc5 ?_
       refine wp_skip ?_
       refine then_n ?_
       refine wp_seq ?_
       refine wp_seq ?_
       refine wp_region_lit ?_
       refine wE (ev_fieldAddr' tu60 tf60_2 (z := 0) ts31 rfl ⟨_, rfl⟩ rfl) F S rfl fun a F=>?_
       refine wE (ev_load1 tu31 rfl rfl (box_ptr (cells := [v2]) 0 rfl 2 rfl (lb rfl))) F S rfl fun a F=>?_
       obtain ⟨y6, hy6, hm⟩ := bind_some hm
       refine wl_call0 (wn rfl) rfl F rfl (changeforgeref1_LinesCode_ok (fr := (fl [[bx b3 #[.i6 y2.At, v1, v2] 60], [bx b2 #[.i6 0, .i6 0] 24], [bx b1 #[vp_1] 38]] fr)) y2.New v2 (h2.mono l5) S hy6) rfl tc40 rfl rfl ?_; clear F a S
       rintro _ a w ⟨g7, l7, S, rfl⟩ F; replace S : St g7 [[bx b3 #[.i6 y2.At, v1, v2] 60], [bx b2 #[.i6 0, .i6 0] 24], [bx b1 #[vp_1] 38]] fr w := S
       refine wE (ev_assign rfl) F S rfl fun a F=>?_
       refine wpList_nil ?_
       refine then_n ?_
       refine wp_seq ?_
       refine wp_region_lit ?_
       refine wE (ev_move rfl) F S rfl fun a F=>?_
       refine wE (ev_int rfl rfl (bo_neq _ _ _ _)) F S rfl fun a F=>?_
       refine wpList_nil ?_
       refine then_n ?_
       obtain ⟨hc6, hm⟩ | ⟨hc6, hm⟩ := ite_or hm
       ·refine wp_condT F rfl hc6 ?_
        refine wp_seq ?_
        refine wp_region_lit ?_
        refine wE (ev_move rfl) F S rfl fun a F=>?_
        refine wE (ev_move rfl) F S rfl fun a F=>?_
        obtain ⟨y7, hy7, hm⟩ := bind_some hm
        refine wl_call0 (wn rfl) rfl F rfl (changeforgeref1_At_ok (fr := (fl [[bx b3 #[.i6 y2.At, v1, v2] 60], [bx b2 #[.i6 0, .i6 0] 24], [bx b1 #[vp_1] 38]] fr)) y6 x1 S hy7) rfl tc26 rfl rfl ?_; clear F a S
        rintro _ a w ⟨g8, l8, S, rfl⟩ F; replace S : St g8 [[bx b3 #[.i6 y2.At, v1, v2] 60], [bx b2 #[.i6 0, .i6 0] 24], [bx b1 #[vp_1] 38]] fr w := S
        refine wl_storeC (wn rfl) rfl F S rfl rfl (vs := [.i6 y7.Code, .i6 y7.Index]) rfl ts24 (one_cons rfl (one_cons rfl one_nil)) (k := 1) rfl (lb rfl) (c' := #[.i6 y7.Code, .i6 y7.Index]) rfl rfl ?_; clear S; intro w S
        refine wpList_nil ?_
        refine then_n ?_
        refine wp_ret ?_
        refine then_r ?_
        refine inb_r ?_
        refine then_r ?_
        refine then_r ?_
        refine inb_r ?_
        refine then_r ?_
        obtain rfl := sinj hm
        obtain rfl := hfin1 _ rfl
        clear hm
        have hm : (some y7 : Option Fault) = some _ := hmo1
        obtain rfl := sinj hm
        refine post_r _ F rfl (ar_cons (resA rfl tu24 rfl (box_ptr (cells := [.i6 y7.Code, .i6 y7.Index]) 1 rfl 0 rfl (lb rfl) w S) ts24) ar_nil) ?_
        replace S : St g8 [] fr w := St.tail [] _ S
        exact ⟨_, rfl, g8, (((l3.trans l5).trans l7).trans l8), S, rfl⟩
       ·refine wp_condF F rfl hc6 ?_
        refine wp_skip ?_
        refine then_n ?_
        refine wp_seq ?_
        refine wp_seq ?_
        refine wp_quiet mo (by kernel_rfl) S ?_
        refine wq_ev (wn rfl) (ev_fieldAddr' tu60 tf60_1 (z := 0) ts31 rfl ⟨_, rfl⟩ rfl) F rfl rfl ?_; clear F a; intro a F
        refine wq_ev (wn rfl) (ev_load1 tu31 rfl rfl (box_ptr (cells := [v1]) 0 rfl 1 rfl (lb rfl))) F rfl rfl ?_; clear F a; intro a F
        refine wq_ev (wn rfl) (ev_lenSh h1 rfl tu31) F rfl rfl ?_; clear F a; intro a F
        refine wq_ev (wn rfl) (ev_fieldAddr' tu60 tf60_2 (z := 0) ts31 rfl ⟨_, rfl⟩ rfl) F rfl rfl ?_; clear F a; intro a F
        refine wq_ev (wn rfl) (ev_load1 tu31 rfl rfl (box_ptr (cells := [v2]) 0 rfl 2 rfl (lb rfl))) F rfl rfl ?_; clear F a; intro a F
        refine wq_ev (wn rfl) (ev_lenSh h2 rfl tu31) F rfl rfl ?_; clear F a; intro a F
        obtain ⟨z1, hz1, hm⟩ := bind_some hm
        refine wq_ev (wn rfl) (ev_int rfl rfl (bo_add hz1)) F rfl rfl ?_; clear F a; intro a F
        refine wq_ev (wn rfl) (ev_int rfl rfl (bo_eql _ _ _ _)) F rfl rfl ?_; clear F a; intro a F
        refine wq_ev (wn rfl) (ev_move rfl) F rfl rfl ?_; clear F a; intro a F
        obtain ⟨x4, hx3, hm⟩ := bind_some hm
        refine wq_cut 15 (fun a => Fr 82 a [(73, .bool x4), (4, bp b3 0), (3, .i6 x1), (2, bp b2 0), (1, bp b1 0)]) ?_ ?_
        ·clear hm; obtain ⟨hc7, hm⟩ | ⟨hc7, hm⟩ := ite_or hx3
         ·refine wq_skip rfl rfl rfl rfl (ne_ft hc7) F rfl rfl ?_; clear F a; intro a F
          refine wq_skip rfl rfl rfl rfl (ne_ft hc7) F rfl rfl ?_; clear F a; intro a F
          refine wq_skip rfl rfl rfl rfl (ne_ft hc7) F rfl rfl ?_; clear F a; intro a F
          refine wq_skipu rfl rfl rfl rfl F rfl rfl ?_; clear F a; intro a F
          refine wq_skipu rfl rfl rfl rfl F rfl rfl ?_; clear F a; intro a F
          refine wq_skipu rfl rfl rfl rfl F rfl rfl ?_; clear F a; intro a F
          refine wq_skipu rfl rfl rfl rfl F rfl rfl ?_; clear F a; intro a F
          refine wq_skipu rfl rfl rfl rfl F rfl rfl ?_; clear F a; intro a F
          refine wq_skipu rfl rfl rfl rfl F rfl rfl ?_; clear F a; intro a F
          refine wq_skipu rfl rfl rfl rfl F rfl rfl ?_; clear F a; intro a F
          refine wq_skipu rfl rfl rfl rfl F rfl rfl ?_; clear F a; intro a F
          refine wq_skipu rfl rfl rfl rfl F rfl rfl ?_; clear F a; intro a F
          refine wq_skipu rfl rfl rfl rfl F rfl rfl ?_; clear F a; intro a F
          refine wq_skip rfl rfl rfl rfl (ne_ft hc7) F rfl rfl ?_; clear F a; intro a F
          refine wq_ev (wn rfl) (ev_pickT rfl hc7 rfl) F rfl rfl ?_; clear F a; intro a F
          obtain rfl := sinj hm
          refine wq_nil ?_; exact F.sub ⟨rfl, rfl, rfl, rfl, rfl, trivial⟩
         ·refine wq_ev (wg F rfl rfl rfl rfl hc7) (ev_move rfl) F rfl rfl ?_; clear F a; intro a F
          refine wq_ev (wg F rfl rfl rfl rfl hc7) (ev_int rfl rfl (bo_gtr _ _ _ _)) F rfl rfl ?_; clear F a; intro a F
          refine wq_ev (wg F rfl rfl rfl rfl hc7) (ev_move rfl) F rfl rfl ?_; clear F a; intro a F
          obtain ⟨x5, hx4, hm⟩ := bind_some hm
          refine wq_cut 11 (fun a => Fr 82 a [(72, .bool x5), (61, .bool (decide (x1 > 0))), (60, .bool (decide (x1 > 0))), (59, .i6 x1), (58, .bool (decide (z1 = 0))), (4, bp b3 0), (3, .i6 x1), (2, bp b2 0), (1, bp b1 0)]) ?_ ?_
          ·clear hm; obtain ⟨hc8, hm⟩ | ⟨hc8, hm⟩ := ite_or hx4
           ·refine wq_ev (wg F rfl rfl rfl rfl hc8) (ev_fieldAddr' tu60 tf60_0 (z := 0) ts3 rfl ⟨_, rfl⟩ rfl) F rfl rfl ?_; clear F a; intro a F
            refine wq_ev (wg F rfl rfl rfl rfl hc8) (ev_load1 tu3 rfl rfl (box_ptr (cells := [.i6 y2.At]) 0 rfl 0 rfl (lb rfl))) F rfl rfl ?_; clear F a; intro a F
            refine wq_ev (wg F rfl rfl rfl rfl hc8) (ev_fieldAddr' tu38 tf38_0 (z := 0) ts36 rfl ⟨_, rfl⟩ rfl) F rfl rfl ?_; clear F a; intro a F
            refine wq_ev (wg F rfl rfl rfl rfl hc8) (ev_load1 tu36 rfl rfl (box_ptr (cells := [vp_1]) 2 rfl 0 rfl (lb rfl))) F rfl rfl ?_; clear F a; intro a F
            refine wq_ev (wg F rfl rfl rfl rfl hc8) (ev_move rfl) F rfl rfl ?_; clear F a; intro a F
            obtain ⟨z2, hz2, hm⟩ := bind_some hm
            refine wq_ev (wg F rfl rfl rfl rfl hc8) (ev_int rfl rfl (bo_sub hz2)) F rfl rfl ?_; clear F a; intro a F
            obtain ⟨y8, hy8, hm⟩ := bind_some hm
            obtain ⟨cs2, hr3, hp2⟩ := elemS (hp_1.mono ((l3.trans l5).trans l7)) hy8
            obtain ⟨v3, v4, rfl, h3, h4⟩ := rep_Hunk hr3
            refine wq_ev (wg F rfl rfl rfl rfl hc8) (ev_idxS (hp_1.mono ((l3.trans l5).trans l7)) hy8 tu36 ts60 rfl rfl) F rfl rfl ?_; clear F a; intro a F
            refine wq_ev (wg F rfl rfl rfl rfl hc8) (ev_loadA tu60 rfl (cs := [.i6 y8.At, v3, v4]) ts60 rfl (ptr_mono (cks := [[bx b3 #[.i6 y2.At, v1, v2] 60], [bx b2 #[.i6 0, .i6 0] 24], [bx b1 #[vp_1] 38]]) (fr := fr) hp2 (Le.refl _))) F rfl rfl ?_; clear F a; intro a F
            obtain ⟨y9, hy9, hm⟩ := bind_some hm
            refine wq_call (wg F rfl rfl rfl rfl hc8) rfl (xs := [.tmp 69]) (vs := [.agg #[.i6 y8.At, v3, v4]]) (cap := []) F rfl rfl tc57 (v := .i6 y9) (fun w S => (changeforgeref1_End_ok (g := g7) (fr := (fl [[bx b3 #[.i6 y2.At, v1, v2] 60], [bx b2 #[.i6 0, .i6 0] 24], [bx b1 #[vp_1] 38]] fr)) (w := w) y8 v3 h3 v4 h4 S hy9).mono (by rintro en w' ⟨_, rfl, g2, l2, S2, rfl⟩; exact ⟨rfl, S2.weak l2⟩)) rfl rfl ?_; clear F a; intro a F
            refine wq_ev (wg F rfl rfl rfl rfl hc8) (ev_int rfl rfl (bo_leq _ _ _ _)) F rfl rfl ?_; clear F a; intro a F
            refine wq_ev (wg F rfl rfl rfl rfl hc7) (ev_pickT rfl hc8 rfl) F rfl rfl ?_; clear F a; intro a F
            obtain rfl := sinj hm
            refine wq_nil ?_; exact F.sub ⟨rfl, rfl, rfl, rfl, rfl, rfl, rfl, rfl, rfl, trivial⟩
           ·refine wq_skip rfl rfl rfl rfl (ne_tf hc8) F rfl rfl ?_; clear F a; intro a F
            refine wq_skip rfl rfl rfl rfl (ne_tf hc8) F rfl rfl ?_; clear F a; intro a F
            refine wq_skip rfl rfl rfl rfl (ne_tf hc8) F rfl rfl ?_; clear F a; intro a F
            refine wq_skip rfl rfl rfl rfl (ne_tf hc8) F rfl rfl ?_; clear F a; intro a F
            refine wq_skip rfl rfl rfl rfl (ne_tf hc8) F rfl rfl ?_; clear F a; intro a F
            refine wq_skip rfl rfl rfl rfl (ne_tf hc8) F rfl rfl ?_; clear F a; intro a F
            refine wq_skip rfl rfl rfl rfl (ne_tf hc8) F rfl rfl ?_; clear F a; intro a F
            refine wq_skip rfl rfl rfl rfl (ne_tf hc8) F rfl rfl ?_; clear F a; intro a F
            refine wq_skip rfl rfl rfl rfl (ne_tf hc8) F rfl rfl ?_; clear F a; intro a F
            refine wq_skip rfl rfl rfl rfl (ne_tf hc8) F rfl rfl ?_; clear F a; intro a F
            refine wq_ev (wg F rfl rfl rfl rfl hc7) (ev_pickF rfl hc8 rfl) F rfl rfl ?_; clear F a; intro a F
            obtain rfl := sinj hm
            refine wq_nil ?_; exact F.sub ⟨rfl, rfl, rfl, rfl, rfl, rfl, rfl, rfl, rfl, trivial⟩
          clear F; intro a F
          refine wq_ev (wn rfl) (ev_pickF rfl hc7 rfl) F rfl rfl ?_; clear F a; intro a F
          obtain rfl := sinj hm
          refine wq_nil ?_; exact F.sub ⟨rfl, rfl, rfl, rfl, rfl, trivial⟩
        clear F; intro a F
        refine wq_nil ?_; clear S; intro w S
        refine then_n ?_
        obtain ⟨hc9, hm⟩ | ⟨hc9, hm⟩ := ite_or hm
        ·refine wp_condT F rfl hc9 ?_
         refine wp_seq ?_
         refine wp_region_lit ?_
         refine wE (ev_move rfl) F S rfl fun a F=>?_
         obtain ⟨y10, hy10, hm⟩ := bind_some hm
         refine wl_call0 (wn rfl) rfl F rfl (changeforgeref1_At_ok (fr := (fl [[bx b3 #[.i6 y2.At, v1, v2] 60], [bx b2 #[.i6 0, .i6 0] 24], [bx b1 #[vp_1] 38]] fr)) 5 x1 S hy10) rfl tc26 rfl rfl ?_; clear F a S
         rintro _ a w ⟨g10, l10, S, rfl⟩ F; replace S : St g10 [[bx b3 #[.i6 y2.At, v1, v2] 60], [bx b2 #[.i6 0, .i6 0] 24], [bx b1 #[vp_1] 38]] fr w := S
         refine wl_storeC (wn rfl) rfl F S rfl rfl (vs := [.i6 y10.Code, .i6 y10.Index]) rfl ts24 (one_cons rfl (one_cons rfl one_nil)) (k := 1) rfl (lb rfl) (c' := #[.i6 y10.Code, .i6 y10.Index]) rfl rfl ?_; clear S; intro w S
         refine wpList_nil ?_
         refine then_n ?_
         refine wp_ret ?_
         refine then_r ?_
         refine inb_r ?_
         refine then_r ?_
         refine then_r ?_
         refine inb_r ?_
         refine then_r ?_
         obtain rfl := sinj hm
         obtain rfl := hfin1 _ rfl
         clear hm
         have hm : (some y10 : Option Fault) = some _ := hmo1
         obtain rfl := sinj hm
         refine post_r _ F rfl (ar_cons (resA rfl tu24 rfl (box_ptr (cells := [.i6 y10.Code, .i6 y10.Index]) 1 rfl 0 rfl (lb rfl) w S) ts24) ar_nil) ?_
         replace S : St g10 [] fr w := St.tail [] _ S
         exact ⟨_, rfl, g10, (((l3.trans l5).trans l7).trans l10), S, rfl⟩
        ·refine wp_condF F rfl hc9 ?_
         refine wp_skip ?_
         refine then_n ?_
         refine wp_seq ?_
         refine wp_region_lit ?_
         refine wE (ev_loadA tu60 rfl (cs := [.i6 y2.At, v1, v2]) ts60 rfl (box_ptr (cells := [.i6 y2.At, v1, v2]) 0 rfl 0 rfl (lb rfl))) F S rfl fun a F=>?_
         obtain ⟨y11, hy11, hm⟩ := bind_some hm
         refine wl_call0 (wn rfl) rfl F rfl (changeforgeref1_End_ok (fr := (fl [[bx b3 #[.i6 y2.At, v1, v2] 60], [bx b2 #[.i6 0, .i6 0] 24], [bx b1 #[vp_1] 38]] fr)) y2 v1 (h1.mono (l5.trans l7)) v2 (h2.mono (l5.trans l7)) S hy11) rfl tc57 rfl rfl ?_; clear F a S
         rintro _ a w ⟨g11, l11, S, rfl⟩ F; replace S : St g11 [[bx b3 #[.i6 y2.At, v1, v2] 60], [bx b2 #[.i6 0, .i6 0] 24], [bx b1 #[vp_1] 38]] fr w := S
         refine wE (ev_int rfl rfl (bo_gtr _ _ _ _)) F S rfl fun a F=>?_
         refine wpList_nil ?_
         refine then_n ?_
         obtain ⟨hc10, hm⟩ | ⟨hc10, hm⟩ := ite_or hm
         ·refine wp_condT F rfl hc10 ?_
          refine wp_seq ?_
          refine wp_region_lit ?_
          refine wE (ev_move rfl) F S rfl fun a F=>?_
          obtain ⟨y12, hy12, hm⟩ := bind_some hm
          refine wl_call0 (wn rfl) rfl F rfl (changeforgeref1_At_ok (fr := (fl [[bx b3 #[.i6 y2.At, v1, v2] 60], [bx b2 #[.i6 0, .i6 0] 24], [bx b1 #[vp_1] 38]] fr)) 3 x1 S hy12) rfl tc26 rfl rfl ?_; clear F a S
          rintro _ a w ⟨g12, l12, S, rfl⟩ F; replace S : St g12 [[bx b3 #[.i6 y2.At, v1, v2] 60], [bx b2 #[.i6 0, .i6 0] 24], [bx b1 #[vp_1] 38]] fr w := S
          refine wl_storeC (wn rfl) rfl F S rfl rfl (vs := [.i6 y12.Code, .i6 y12.Index]) rfl ts24 (one_cons rfl (one_cons rfl one_nil)) (k := 1) rfl (lb rfl) (c' := #[.i6 y12.Code, .i6 y12.Index]) rfl rfl ?_; clear S; intro w S
          refine wpList_nil ?_
          refine then_n ?_
          refine wp_ret ?_
          refine inb_r ?_
          refine then_r ?_
          refine then_r ?_
          refine inb_r ?_
          refine then_r ?_
          obtain rfl := sinj hm
          obtain rfl := hfin1 _ rfl
          clear hm
          have hm : (some y12 : Option Fault) = some _ := hmo1
          obtain rfl := sinj hm
          refine post_r _ F rfl (ar_cons (resA rfl tu24 rfl (box_ptr (cells := [.i6 y12.Code, .i6 y12.Index]) 1 rfl 0 rfl (lb rfl) w S) ts24) ar_nil) ?_
          replace S : St g12 [] fr w := St.tail [] _ S
          exact ⟨_, rfl, g12, ((((l3.trans l5).trans l7).trans l11).trans l12), S, rfl⟩
         ·refine wp_condF F rfl hc10 ?_
          refine wp_skip ?_
          refine inb_n ?_
          refine then_n ?_
          refine wp_region_lit ?_
          refine wE (ev_move rfl) F S rfl fun a F=>?_
          obtain ⟨z3, hz3, hm⟩ := bind_some hm
          refine wE (ev_int rfl rfl (bo_add hz3)) F S rfl fun a F=>?_
          refine wE (ev_assign rfl) F S rfl fun a F=>?_
          refine wpList_nil ?_
          refine then_n ?_
          obtain rfl := sinj hm
          refine ⟨_, rfl, ?_⟩
          replace S : St g11 [[bx b2 #[.i6 0, .i6 0] 24], [bx b1 #[vp_1] 38]] fr w := St.tail [[bx b2 #[.i6 0, .i6 0] 24], [bx b1 #[vp_1] 38]] _ ((S.frontC 2 rfl).frontC 2 rfl)
          exact ⟨g11, F.sub ⟨rfl, rfl, rfl, trivial⟩, (((l3.trans l5).trans l7).trans l11), S⟩
    ·refine wp_condF F rfl hc2 ?_
     refine wp_exit ?_
     refine then_e ?_
     refine then_e ?_
     refine inb_x ?_
     refine then_n ?_
     obtain rfl := sinj hm
     obtain rfl := hfin1 _ rfl
     clear hm
     have hm : (changeforgeref1_PatchFault.j1 : Option Fault) = some _ := hmo1
     replace S : St g3 [[bx b2 #[.i6 0, .i6 0] 24]] fr w := St.tail [[bx b2 #[.i6 0, .i6 0] 24]] _ (S.frontC 0 rfl)
     exact ⟨g3, F.sub ⟨rfl, trivial⟩, l3, S, hm⟩
  ·clear F S hm; rintro a w ⟨g2, F, l2, S, hm⟩
   refine wp_seq ?_
   refine wp_region_lit ?_
   refine wE (ev_build (parts := []) (vs := []) rfl (fun w => tb24_  w)) F S rfl fun a F=>?_
   refine wl_storeC (wn rfl) rfl F S rfl rfl (vs := [.i6 0, .i6 0]) rfl ts24 (one_cons rfl (one_cons rfl one_nil)) (k := 0) rfl (lb rfl) (c' := #[.i6 0, .i6 0]) rfl rfl ?_; clear S; intro w S
   refine wpList_nil ?_
   refine then_n ?_
   refine wp_ret ?_
   obtain rfl := sinj hm
   refine post_r _ F rfl (ar_cons (resA rfl tu24 rfl (box_ptr (cells := [.i6 0, .i6 0]) 0 rfl 0 rfl (lb rfl) w S) ts24) ar_nil) ?_
   replace S : St g2 [] fr w := St.tail [] _ S
   exact ⟨_, rfl, g2, l2, S, rfl⟩

theorem changeforgeref2_StackFault_ok {g : Gh} {fr : Hl} {w : World} {r : Fault} (l_ : (List Patch)) (vl_1 : Value) (hl_1 : RepSl g l_ vl_1) (S : St g [] fr w) (hm : changeforgeref2_StackFault l_ = some r) :
  Calls Try.prog 25 [vl_1].toArray w (fun en w' => ∃ v, en = .returned v ∧ ∃ (g' : Gh), Le g g' ∧ St g' [] fr w' ∧ .agg #[.i6 r.Code, .i6 r.Index] = v) := by
 unfold changeforgeref2_StackFault at hm
 refine calls_enter (fn := Try.f25) Try.func25 rfl Try.ntmps25 (lb rfl) ?_
 intro a F
 replace F : Fr 28 a [(0, vl_1)] := F
 refine wp_seq ?_
 refine wp_region_lit ?_
 refine wl_alloc (wn rfl) rfl tz24 (cs := [.i6 0, .i6 0]) rfl F S rfl rfl ?_; clear F a S; rintro b1 a w F S
 refine wpList_nil ?_
 refine then_n ?_
 refine wp_seq ?_
 refine wp_seq ?_
 refine wp_region_lit ?_
 refine wE (ev_move rfl) F S rfl fun a F=>?_
 refine wE (ev_lenSh hl_1 rfl tu22) F S rfl fun a F=>?_
 refine wE (ev_int rfl rfl (bo_gtr _ _ _ _)) F S rfl fun a F=>?_
 refine wpList_nil ?_
 refine then_n ?_
 obtain ⟨hc1, hm⟩ | ⟨hc1, hm⟩ := ite_or hm
 ·refine wp_condT F rfl hc1 ?_
  refine wp_seq ?_
  refine wp_region_lit ?_
  obtain ⟨y1, hy1, hm⟩ := bind_some hm
  refine wl_call0 (wn rfl) rfl F rfl (changeforgeref1_At_ok (fr := (fl [[bx b1 #[.i6 0, .i6 0] 24]] fr)) 2 (-1) S hy1) rfl tc26 rfl rfl ?_; clear F a S
  rintro _ a w ⟨g1, l1, S, rfl⟩ F; replace S : St g1 [[bx b1 #[.i6 0, .i6 0] 24]] fr w := S
  refine wl_storeC (wn rfl) rfl F S rfl rfl (vs := [.i6 y1.Code, .i6 y1.Index]) rfl ts24 (one_cons rfl (one_cons rfl one_nil)) (k := 0) rfl (lb rfl) (c' := #[.i6 y1.Code, .i6 y1.Index]) rfl rfl ?_; clear S; intro w S
  refine wpList_nil ?_
  refine then_n ?_
  refine wp_ret ?_
  refine then_r ?_
  obtain rfl := sinj hm
  refine post_r _ F rfl (ar_cons (resA rfl tu24 rfl (box_ptr (cells := [.i6 y1.Code, .i6 y1.Index]) 0 rfl 0 rfl (lb rfl) w S) ts24) ar_nil) ?_
  replace S : St g1 [] fr w := St.tail [] _ S
  exact ⟨_, rfl, g1, l1, S, rfl⟩
 ·refine wp_condF F rfl hc1 ?_
  refine wp_skip ?_
  refine then_n ?_
  refine wp_cut (fun a w => ∃ (g2 : Gh), Fr 28 a [(2, bp b1 0)] ∧ Le g g2 ∧ St g2 [[bx b1 #[.i6 0, .i6 0] 24]] fr w ∧ changeforgeref2_StackFault.j1 = some r) ?_ ?_
  ·refine wp_seq ?_
   refine wp_region_lit ?_
   refine wE (ev_assign rfl) F S rfl fun a F=>?_
   refine wpList_nil ?_
   refine then_n ?_
   refine wp_block ?_
   obtain ⟨r1, hr1, hm⟩ := bind_some hm
   have hmo1 := hm; clear hm
   refine wp_iter (σ := Int) (ρ := Fault ⊕ Unit) (m := fun s => changeforgeref2_StackFault.l1 l_ s) (I := fun x1 a w => ∃ (g3 : Gh), Fr 28 a [(3, .i6 x1), (2, bp b1 0), (0, vl_1)] ∧ Le g g3 ∧ St g3 [[bx b1 #[.i6 0, .i6 0] 24]] fr w) hr1 ?_ ?_
   ·exact ⟨g, F.sub ⟨rfl, rfl, rfl, trivial⟩, (Le.refl _), S⟩
   ·clear F S; rintro x1 a w x2 ⟨g3, F, l3, S⟩ hx1 hfin1
    have hm : changeforgeref2_StackFault.l1 l_ x1 = some x2 := hx1; clear hx1
    unfold changeforgeref2_StackFault.l1 at hm
    refine wp_seq ?_
    refine wp_seq ?_
    refine wp_region_lit ?_
    refine wE (ev_move rfl) F S rfl fun a F=>?_
    refine wE (ev_move rfl) F S rfl fun a F=>?_
    refine wE (ev_lenSh hl_1 rfl tu22) F S rfl fun a F=>?_
    refine wE (ev_int rfl rfl (bo_lss _ _ _ _)) F S rfl fun a F=>?_
    refine wpList_nil ?_
    refine then_n ?_
    obtain ⟨hc2, hm⟩ | ⟨hc2, hm⟩ := ite_or hm
    ·refine wp_condT F rfl hc2 ?_
     refine wp_skip ?_
     refine then_n ?_
     refine wp_seq ?_
     refine wp_block ?_
     refine wp_seq ?_
     refine wp_region_lit ?_
     refine wE (ev_move rfl) F S rfl fun a F=>?_
     refine wE (ev_move rfl) F S rfl fun a F=>?_
     obtain ⟨y2, hy2, hm⟩ := bind_some hm
     obtain ⟨cs1, hr2, hp1⟩ := elemS (hl_1.mono l3) hy2
     obtain ⟨v1, rfl, h1⟩ := rep_Patch hr2
     refine wE (ev_idxS (hl_1.mono l3) hy2 tu22 ts38 rfl rfl) F S rfl fun a F=>?_
     refine wE (ev_loadA tu38 rfl (cs := [v1]) ts38 rfl (ptr_mono (cks := [[bx b1 #[.i6 0, .i6 0] 24]]) (fr := fr) hp1 (Le.refl _))) F S rfl fun a F=>?_
     obtain ⟨y3, hy3, hm⟩ := bind_some hm
     refine wl_call0 (wn rfl) rfl F rfl (changeforgeref1_PatchFault_ok (fr := (fl [[bx b1 #[.i6 0, .i6 0] 24]] fr)) y2 v1 h1 S hy3) rfl tc46 rfl rfl ?_; clear F a S
     rintro _ a w ⟨g4, l4, S, rfl⟩ F; replace S : St g4 [[bx b1 #[.i6 0, .i6 0] 24]] fr w := S
     refine wl_alloc (wn rfl) rfl tz24 (cs := [.i6 0, .i6 0]) rfl F S rfl rfl ?_; clear F a S; rintro b2 a w F S
     refine wl_storeC (wn rfl) rfl F S rfl rfl (vs := [.i6 y3.Code, .i6 y3.Index]) rfl ts24 (one_cons rfl (one_cons rfl one_nil)) (k := 0) rfl (lb rfl) (c' := #[.i6 y3.Code, .i6 y3.Index]) rfl rfl ?_; clear S; intro w S
     refine wpList_nil ?_
     refine then_n ?_
     refine wp_seq ?_
     refine wp_region_lit ?_
     refine wE (ev_fieldAddr' tu24 tf24_0 (z := 0) ts3 rfl ⟨_, rfl⟩ rfl) F S rfl fun a F=>?_
     refine wE (ev_load1 tu3 rfl rfl (box_ptr (cells := [.i6 y3.Code]) 0 rfl 0 rfl (lb rfl))) F S rfl fun a F=>?_
     refine wE (ev_int rfl rfl (bo_neq _ _ _ _)) F S rfl fun a F=>?_
     refine wpList_nil ?_
     refine then_n ?_
     obtain ⟨hc3, hm⟩ | ⟨hc3, hm⟩ := ite_or hm
     ·refine wp_condT F rfl hc3 ?_
      refine wp_seq ?_
      refine wp_region_lit ?_
      refine wE (ev_fieldAddr' tu24 tf24_0 (z := 0) ts3 rfl ⟨_, rfl⟩ rfl) F S rfl fun a F=>?_
      refine wE (ev_load1 tu3 rfl rfl (box_ptr (cells := [.i6 y3.Code]) 0 rfl 0 rfl (lb rfl))) F S rfl fun a F=>?_
      refine wE (ev_move rfl) F S rfl fun a F=>?_
      obtain ⟨y4, hy4, hm⟩ := bind_some hm
      refine wl_call0 (wn rfl) rfl F rfl (changeforgeref1_At_ok (fr := (fl [[bx b2 #[.i6 y3.Code, .i6 y3.Index] 24], [bx b1 #[.i6 0, .i6 0] 24]] fr)) y3.Code x1 S hy4) rfl tc26 rfl rfl ?_; clear F a S
      rintro _ a w ⟨g5, l5, S, rfl⟩ F; replace S : St g5 [[bx b2 #[.i6 y3.Code, .i6 y3.Index] 24], [bx b1 #[.i6 0, .i6 0] 24]] fr w := S
      refine wl_storeC (wn rfl) rfl F S rfl rfl (vs := [.i6 y4.Code, .i6 y4.Index]) rfl ts24 (one_cons rfl (one_cons rfl one_nil)) (k := 1) rfl (lb rfl) (c' := #[.i6 y4.Code, .i6 y4.Index]) rfl rfl ?_; clear S; intro w S
      refine wpList_nil ?_
      refine then_n ?_
      refine wp_ret ?_
      refine inb_r ?_
      refine then_r ?_
      refine then_r ?_
      refine inb_r ?_
      refine then_r ?_
      obtain rfl := sinj hm
      obtain rfl := hfin1 _ rfl
      clear hm
      have hm : (some y4 : Option Fault) = some _ := hmo1
      obtain rfl := sinj hm
      refine post_r _ F rfl (ar_cons (resA rfl tu24 rfl (box_ptr (cells := [.i6 y4.Code, .i6 y4.Index]) 1 rfl 0 rfl (lb rfl) w S) ts24) ar_nil) ?_
      replace S : St g5 [] fr w := St.tail [] _ S
      exact ⟨_, rfl, g5, ((l3.trans l4).trans l5), S, rfl⟩
     ·refine wp_condF F rfl hc3 ?_
      refine wp_skip ?_
      refine inb_n ?_
      refine then_n ?_
      refine wp_region_lit ?_
      refine wE (ev_move rfl) F S rfl fun a F=>?_
      obtain ⟨z1, hz1, hm⟩ := bind_some hm
      refine wE (ev_int rfl rfl (bo_add hz1)) F S rfl fun a F=>?_
      refine wE (ev_assign rfl) F S rfl fun a F=>?_
      refine wpList_nil ?_
      refine then_n ?_
      obtain rfl := sinj hm
      refine ⟨_, rfl, ?_⟩
      replace S : St g4 [[bx b1 #[.i6 0, .i6 0] 24]] fr w := St.tail [[bx b1 #[.i6 0, .i6 0] 24]] _ (S.frontC 1 rfl)
      exact ⟨g4, F.sub ⟨rfl, rfl, rfl, trivial⟩, (l3.trans l4), S⟩
    ·refine wp_condF F rfl hc2 ?_
     refine wp_exit ?_
     refine then_e ?_
     refine then_e ?_
     refine inb_x ?_
     refine then_n ?_
     obtain rfl := sinj hm
     obtain rfl := hfin1 _ rfl
     clear hm
     have hm : (changeforgeref2_StackFault.j1 : Option Fault) = some _ := hmo1
     exact ⟨g3, F.sub ⟨rfl, trivial⟩, l3, S, hm⟩
  ·clear F S hm; rintro a w ⟨g2, F, l2, S, hm⟩
   refine wp_seq ?_
   refine wp_region_lit ?_
   refine wE (ev_build (parts := []) (vs := []) rfl (fun w => tb24_  w)) F S rfl fun a F=>?_
   refine wl_storeC (wn rfl) rfl F S rfl rfl (vs := [.i6 0, .i6 0]) rfl ts24 (one_cons rfl (one_cons rfl one_nil)) (k := 0) rfl (lb rfl) (c' := #[.i6 0, .i6 0]) rfl rfl ?_; clear S; intro w S
   refine wpList_nil ?_
   refine then_n ?_
   refine wp_ret ?_
   obtain rfl := sinj hm
   refine post_r _ F rfl (ar_cons (resA rfl tu24 rfl (box_ptr (cells := [.i6 0, .i6 0]) 0 rfl 0 rfl (lb rfl) w S) ts24) ar_nil) ?_
   replace S : St g2 [] fr w := St.tail [] _ S
   exact ⟨_, rfl, g2, l2, S, rfl⟩

theorem changeforgeref1_Pair_ok {g : Gh} {fr : Hl} {w : World} {r : Fault} (p_ : Patch) (vp_1 : Value) (hp_1 : RepSl g p_.Hunks vp_1) (q_ : Patch) (vq_1 : Value) (hq_1 : RepSl g q_.Hunks vq_1) (S : St g [] fr w) (hm : changeforgeref1_Pair p_ q_ = some r) :
  Calls Try.prog 60 [.agg #[vp_1], .agg #[vq_1]].toArray w (fun en w' => ∃ v, en = .returned v ∧ ∃ (g' : Gh), Le g g' ∧ St g' [] fr w' ∧ .agg #[.i6 r.Code, .i6 r.Index] = v) := by
 unfold changeforgeref1_Pair at hm
 refine calls_enter (fn := Try.f60) Try.func60 rfl Try.ntmps60 (lb rfl) ?_
 intro a F
 replace F : Fr 22 a [(0, .agg #[vp_1]), (1, .agg #[vq_1])] := F
 refine wp_seq ?_
 refine wp_region_lit ?_
 refine wl_boxC (wn rfl) rfl rfl rfl F S rfl rfl ?_; clear F a S; rintro b1 a w F S
 refine wl_boxC (wn rfl) rfl rfl rfl F S rfl rfl ?_; clear F a S; rintro b2 a w F S
 refine wl_alloc (wn rfl) rfl tz24 (cs := [.i6 0, .i6 0]) rfl F S rfl rfl ?_; clear F a S; rintro b3 a w F S
 refine wpList_nil ?_
 refine then_n ?_
 refine wp_seq ?_
 refine wp_region_lit ?_
 refine wE (ev_loadA tu38 rfl (cs := [vp_1]) ts38 rfl (box_ptr (cells := [vp_1]) 2 rfl 0 rfl (lb rfl))) F S rfl fun a F=>?_
 obtain ⟨y1, hy1, hm⟩ := bind_some hm
 refine wl_call0 (wn rfl) rfl F rfl (changeforgeref1_PatchFault_ok (fr := (fl [[bx b3 #[.i6 0, .i6 0] 24], [bx b2 #[vq_1] 38], [bx b1 #[vp_1] 38]] fr)) p_ vp_1 hp_1 S hy1) rfl tc46 rfl rfl ?_; clear F a S
 rintro _ a w ⟨g1, l1, S, rfl⟩ F; replace S : St g1 [[bx b3 #[.i6 0, .i6 0] 24], [bx b2 #[vq_1] 38], [bx b1 #[vp_1] 38]] fr w := S
 refine wl_alloc (wn rfl) rfl tz24 (cs := [.i6 0, .i6 0]) rfl F S rfl rfl ?_; clear F a S; rintro b4 a w F S
 refine wl_storeC (wn rfl) rfl F S rfl rfl (vs := [.i6 y1.Code, .i6 y1.Index]) rfl ts24 (one_cons rfl (one_cons rfl one_nil)) (k := 0) rfl (lb rfl) (c' := #[.i6 y1.Code, .i6 y1.Index]) rfl rfl ?_; clear S; intro w S
 refine wpList_nil ?_
 refine then_n ?_
 refine wp_cut (fun a w => ∃ (x1 : Int) (x2 : Int) (g2 : Gh), Fr 22 a [(5, bp b4 0), (4, bp b3 0)] ∧ Le g1 g2 ∧ St g2 [[bx b4 #[.i6 x1, .i6 x2] 24], [bx b3 #[.i6 0, .i6 0] 24]] fr w ∧ changeforgeref1_Pair.j1 x1 x2 = some r) ?_ ?_
 ·refine wp_seq ?_
  refine wp_region_lit ?_
  refine wE (ev_fieldAddr' tu24 tf24_0 (z := 0) ts3 rfl ⟨_, rfl⟩ rfl) F S rfl fun a F=>?_
  refine wE (ev_load1 tu3 rfl rfl (box_ptr (cells := [.i6 y1.Code]) 0 rfl 0 rfl (lb rfl))) F S rfl fun a F=>?_
  refine wE (ev_int rfl rfl (bo_eql _ _ _ _)) F S rfl fun a F=>?_
  refine wE (ev_move rfl) F S rfl fun a F=>?_
  obtain ⟨x3, hx1, hm⟩ := bind_some hm
  refine wl_cut 5 (fun a w => ∃ g3, Fr 22 a [(16, .bool x3), (5, bp b4 0), (4, bp b3 0), (3, bp b2 0)] ∧ Le g1 g3 ∧ St g3 [[bx b4 #[.i6 y1.Code, .i6 y1.Index] 24], [bx b3 #[.i6 0, .i6 0] 24], [bx b2 #[vq_1] 38], [bx b1 #[vp_1] 38]] fr w) ?_ ?_
  ·clear hm; obtain ⟨hc1, hm⟩ | ⟨hc1, hm⟩ := ite_or hx1
   ·refine wl_ev (wg F rfl rfl rfl rfl hc1) (ev_loadA tu38 rfl (cs := [vq_1]) ts38 rfl (box_ptr (cells := [vq_1]) 2 rfl 0 rfl (lb rfl))) F S rfl rfl ?_; clear F a; intro a F
    obtain ⟨y2, hy2, hm⟩ := bind_some hm
    refine wl_call0 (wg F rfl rfl rfl rfl hc1) rfl F rfl (changeforgeref1_PatchFault_ok (fr := (fl [[bx b4 #[.i6 y1.Code, .i6 y1.Index] 24], [bx b3 #[.i6 0, .i6 0] 24], [bx b2 #[vq_1] 38], [bx b1 #[vp_1] 38]] fr)) q_ vq_1 (hq_1.mono l1) S hy2) rfl tc46 rfl rfl ?_; clear F a S
    rintro _ a w ⟨g4, l4, S, rfl⟩ F; replace S : St g4 [[bx b4 #[.i6 y1.Code, .i6 y1.Index] 24], [bx b3 #[.i6 0, .i6 0] 24], [bx b2 #[vq_1] 38], [bx b1 #[vp_1] 38]] fr w := S
    refine wl_ev (wg F rfl rfl rfl rfl hc1) (ev_field1 tu24 tf24_0 tu3 rfl (cs := [.i6 y2.Code, .i6 y2.Index]) rfl rfl) F S rfl rfl ?_; clear F a; intro a F
    refine wl_ev (wg F rfl rfl rfl rfl hc1) (ev_int rfl rfl (bo_neq _ _ _ _)) F S rfl rfl ?_; clear F a; intro a F
    refine wE (ev_pickT rfl hc1 rfl) F S rfl fun a F=>?_
    obtain rfl := sinj hm
    refine wpList_nil (then_n ?_); exact ⟨g4, F.sub ⟨rfl, rfl, rfl, rfl, trivial⟩, l4, S⟩
   ·refine wl_skip rfl rfl rfl rfl (ne_tf hc1) F rfl rfl ?_; clear F a; intro a F
    refine wl_skip rfl rfl rfl rfl (ne_tf hc1) F rfl rfl ?_; clear F a; intro a F
    refine wl_skip rfl rfl rfl rfl (ne_tf hc1) F rfl rfl ?_; clear F a; intro a F
    refine wl_skip rfl rfl rfl rfl (ne_tf hc1) F rfl rfl ?_; clear F a; intro a F
    refine wE (ev_pickF rfl hc1 rfl) F S rfl fun a F=>?_
    obtain rfl := sinj hm
    refine wpList_nil (then_n ?_); exact ⟨g1, F.sub ⟨rfl, rfl, rfl, rfl, trivial⟩, (Le.refl _), S⟩
  clear F S; rintro a w ⟨g3, F, l3, S⟩
  refine wpList_nil ?_
  refine then_n ?_
  obtain ⟨hc2, hm⟩ | ⟨hc2, hm⟩ := ite_or hm
  ·refine wp_condT F rfl hc2 ?_
   refine wp_region_lit ?_
   refine wE (ev_loadA tu38 rfl (cs := [vq_1]) ts38 rfl (box_ptr (cells := [vq_1]) 2 rfl 0 rfl (lb rfl))) F S rfl fun a F=>?_
   obtain ⟨y3, hy3, hm⟩ := bind_some hm
   refine wl_call0 (wn rfl) rfl F rfl (changeforgeref1_PatchFault_ok (fr := (fl [[bx b4 #[.i6 y1.Code, .i6 y1.Index] 24], [bx b3 #[.i6 0, .i6 0] 24], [bx b2 #[vq_1] 38], [bx b1 #[vp_1] 38]] fr)) q_ vq_1 (hq_1.mono (l1.trans l3)) S hy3) rfl tc46 rfl rfl ?_; clear F a S
   rintro _ a w ⟨g5, l5, S, rfl⟩ F; replace S : St g5 [[bx b4 #[.i6 y1.Code, .i6 y1.Index] 24], [bx b3 #[.i6 0, .i6 0] 24], [bx b2 #[vq_1] 38], [bx b1 #[vp_1] 38]] fr w := S
   refine wE (ev_field1 tu24 tf24_0 tu3 rfl (cs := [.i6 y3.Code, .i6 y3.Index]) rfl rfl) F S rfl fun a F=>?_
   obtain ⟨y4, hy4, hm⟩ := bind_some hm
   refine wl_call0 (wn rfl) rfl F rfl (changeforgeref1_At_ok (fr := (fl [[bx b4 #[.i6 y1.Code, .i6 y1.Index] 24], [bx b3 #[.i6 0, .i6 0] 24], [bx b2 #[vq_1] 38], [bx b1 #[vp_1] 38]] fr)) y3.Code (-2) S hy4) rfl tc26 rfl rfl ?_; clear F a S
   rintro _ a w ⟨g6, l6, S, rfl⟩ F; replace S : St g6 [[bx b4 #[.i6 y1.Code, .i6 y1.Index] 24], [bx b3 #[.i6 0, .i6 0] 24], [bx b2 #[vq_1] 38], [bx b1 #[vp_1] 38]] fr w := S
   refine wl_storeC (wn rfl) rfl F S rfl rfl (vs := [.i6 y4.Code, .i6 y4.Index]) rfl ts24 (one_cons rfl (one_cons rfl one_nil)) (k := 0) rfl (lb rfl) (c' := #[.i6 y4.Code, .i6 y4.Index]) rfl rfl ?_; clear S; intro w S
   refine wpList_nil ?_
   refine then_n ?_
   replace S : St g6 [[bx b4 #[.i6 y4.Code, .i6 y4.Index] 24], [bx b3 #[.i6 0, .i6 0] 24]] fr w := St.tail [[bx b4 #[.i6 y4.Code, .i6 y4.Index] 24], [bx b3 #[.i6 0, .i6 0] 24]] _ ((S.frontC 1 rfl).frontC 1 rfl)
   exact ⟨y4.Code, y4.Index, g6, F.sub ⟨rfl, rfl, trivial⟩, ((l3.trans l5).trans l6), S, hm⟩
  ·refine wp_condF F rfl hc2 ?_
   refine wp_skip ?_
   refine then_n ?_
   replace S : St g3 [[bx b4 #[.i6 y1.Code, .i6 y1.Index] 24], [bx b3 #[.i6 0, .i6 0] 24]] fr w := St.tail [[bx b4 #[.i6 y1.Code, .i6 y1.Index] 24], [bx b3 #[.i6 0, .i6 0] 24]] _ ((S.frontC 1 rfl).frontC 1 rfl)
   exact ⟨y1.Code, y1.Index, g3, F.sub ⟨rfl, rfl, trivial⟩, l3, S, hm⟩
 ·clear F S hm; rintro a w ⟨x1, x2, g2, F, l2, S, hm⟩
  refine wp_seq ?_
  refine wp_region_lit ?_
  refine wE (ev_loadA tu24 rfl (cs := [.i6 x1, .i6 x2]) ts24 rfl (box_ptr (cells := [.i6 x1, .i6 x2]) 0 rfl 0 rfl (lb rfl))) F S rfl fun a F=>?_
  refine wl_storeC (wn rfl) rfl F S rfl rfl (vs := [.i6 x1, .i6 x2]) rfl ts24 (one_cons rfl (one_cons rfl one_nil)) (k := 1) rfl (lb rfl) (c' := #[.i6 x1, .i6 x2]) rfl rfl ?_; clear S; intro w S
  refine wpList_nil ?_
  refine then_n ?_
  refine wp_ret ?_
  obtain rfl := sinj hm
  refine post_r _ F rfl (ar_cons (resA rfl tu24 rfl (box_ptr (cells := [.i6 x1, .i6 x2]) 1 rfl 0 rfl (lb rfl) w S) ts24) ar_nil) ?_
  replace S : St g2 [] fr w := St.tail [] _ S
  exact ⟨_, rfl, g2, (l1.trans l2), S, rfl⟩
end Go.Dc
