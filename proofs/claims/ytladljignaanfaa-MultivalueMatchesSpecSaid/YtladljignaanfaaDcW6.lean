/- Walks: each function comes to what its model says. -/
import Derived.Test.YtladljignaanfaaDcTab
import Derived.Test.YtladljignaanfaaDcM
import Derived.Test.YtladljignaanfaaDcW1
import Derived.Test.YtladljignaanfaaDcW2
import Derived.Test.YtladljignaanfaaDcW3
import Derived.Test.YtladljignaanfaaDcW4
namespace Go.Dc
open Go Go.Proofs
set_option maxRecDepth 100000
set_option maxHeartbeats 4000000
set_option linter.unusedVariables false
theorem changeforgeref2_MergedValues_ok {g : Gh} {fr : Hl} {w : World} {r : (List VersionedValue) × Fault} (a_ : (List VersionedValue)) (va_1 : Value) (ha_1 : RepSl g a_ va_1) (b_ : (List VersionedValue)) (vb_1 : Value) (hb_1 : RepSl g b_ vb_1) (S : St g [] fr w) (hm : changeforgeref2_MergedValues a_ b_ = some r) :
  Calls Try.prog 12 [va_1, vb_1].toArray w (fun en w' => ∃ v, en = .returned v ∧ ∃ (g' : Gh) (v1 : Value) (c1 : Hl), Le g g' ∧ St g' [c1] fr w' ∧ OwnS g' r.1 v1 c1 ∧ .tuple #[v1, .agg #[.i6 r.2.Code, .i6 r.2.Index]] = v) := by
 unfold changeforgeref2_MergedValues at hm
 refine calls_enter (fn := Try.f12) Try.func12 rfl Try.ntmps12 (lb rfl) ?_
 intro a F
 replace F : Fr 141 a [(0, va_1), (1, vb_1)] := F
 refine wp_seq ?_
 refine wp_region_lit ?_
 refine wE (ev_assign rfl) F S rfl fun a F=>?_
 refine wl_alloc (wn rfl) rfl tz24 (cs := [.i6 0, .i6 0]) rfl F S rfl rfl ?_; clear F a S; rintro b1 a w F S
 refine wpList_nil ?_
 refine then_n ?_
 refine wp_seq ?_
 refine wp_seq ?_
 refine wp_region_lit ?_
 refine wE (ev_move rfl) F S rfl fun a F=>?_
 obtain ⟨y1, hy1, hm⟩ := bind_some hm
 refine wl_call0 (wn rfl) rfl F rfl (changeforgeref2_ValuesFault_ok (fr := (fl [[bx b1 #[.i6 0, .i6 0] 24]] fr)) a_ va_1 ha_1 S hy1) rfl tc14 rfl rfl ?_; clear F a S
 rintro _ a w ⟨g1, l1, S, rfl⟩ F; replace S : St g1 [[bx b1 #[.i6 0, .i6 0] 24]] fr w := S
 refine wl_alloc (wn rfl) rfl tz24 (cs := [.i6 0, .i6 0]) rfl F S rfl rfl ?_; clear F a S; rintro b2 a w F S
 refine wl_storeC (wn rfl) rfl F S rfl rfl (vs := [.i6 y1.Code, .i6 y1.Index]) rfl ts24 (one_cons rfl (one_cons rfl one_nil)) (k := 0) rfl (lb rfl) (c' := #[.i6 y1.Code, .i6 y1.Index]) rfl rfl ?_; clear S; intro w S
 refine wpList_nil ?_
 refine then_n ?_
 refine wp_seq ?_
 refine wp_region_lit ?_
 refine wE (ev_fieldAddr' tu24 tf24_0 (z := 0) ts3 rfl ⟨_, rfl⟩ rfl) F S rfl fun a F=>?_
 refine wE (ev_load1 tu3 rfl rfl (box_ptr (cells := [.i6 y1.Code]) 0 rfl 0 rfl (lb rfl))) F S rfl fun a F=>?_
 refine wE (ev_int rfl rfl (bo_neq _ _ _ _)) F S rfl fun a F=>?_
 refine wpList_nil ?_
 refine then_n ?_
 obtain ⟨hc1, hm⟩ | ⟨hc1, hm⟩ := ite_or hm
 ·refine wp_condT F rfl hc1 ?_
  refine wp_seq ?_
  refine wp_dv [] mo S ?_; clear S; intro ok1 w S
  refine dv_ev ok1 0 rfl (ev_loadA tu24 rfl (cs := [.i6 y1.Code, .i6 y1.Index]) ts24 rfl (box_ptr (cells := [.i6 y1.Code, .i6 y1.Index]) 0 rfl 0 rfl (lb rfl))) F S rfl fun a F=>?_
  refine dv_et ok1 1 rfl (ev_assign rfl) F rfl fun a F=>?_
  refine dv_op ok1 2 rfl [] ?_
  refine wl_storeC (wn rfl) rfl F S rfl rfl (vs := [.i6 y1.Code, .i6 y1.Index]) rfl ts24 (one_cons rfl (one_cons rfl one_nil)) (k := 1) rfl (lb rfl) (c' := #[.i6 y1.Code, .i6 y1.Index]) rfl rfl ?_; clear S; intro w S
  refine dv_nx trivial ?_
  refine dv_fin ok1 ?_
  refine then_n ?_
  refine wp_ret ?_
  refine then_r ?_
  obtain rfl := sinj hm
  replace S : St g1 [[], [bx b2 #[.i6 y1.Code, .i6 y1.Index] 24], [bx b1 #[.i6 y1.Code, .i6 y1.Index] 24]] fr w := S
  refine post_r _ F rfl (ar_cons (resT rfl) (ar_cons (resA rfl tu24 rfl (box_ptr (cells := [.i6 y1.Code, .i6 y1.Index]) 2 rfl 0 rfl (lb rfl) w S) ts24) ar_nil)) ?_
  replace S : St g1 [[]] fr w := St.tail [[]] _ (S.frontC 0 rfl)
  exact ⟨_, rfl, g1, (nilS), [], l1, S, (OwnS.nil _), rfl⟩
 ·refine wp_condF F rfl hc1 ?_
  refine wp_skip ?_
  refine then_n ?_
  refine wp_seq ?_
  refine wp_seq ?_
  refine wp_region_lit ?_
  refine wE (ev_move rfl) F S rfl fun a F=>?_
  obtain ⟨y2, hy2, hm⟩ := bind_some hm
  refine wl_call0 (wn rfl) rfl F rfl (changeforgeref2_ValuesFault_ok (fr := (fl [[bx b2 #[.i6 y1.Code, .i6 y1.Index] 24], [bx b1 #[.i6 0, .i6 0] 24]] fr)) b_ vb_1 (hb_1.mono l1) S hy2) rfl tc14 rfl rfl ?_; clear F a S
  rintro _ a w ⟨g2, l2, S, rfl⟩ F; replace S : St g2 [[bx b2 #[.i6 y1.Code, .i6 y1.Index] 24], [bx b1 #[.i6 0, .i6 0] 24]] fr w := S
  refine wl_alloc (wn rfl) rfl tz24 (cs := [.i6 0, .i6 0]) rfl F S rfl rfl ?_; clear F a S; rintro b3 a w F S
  refine wl_storeC (wn rfl) rfl F S rfl rfl (vs := [.i6 y2.Code, .i6 y2.Index]) rfl ts24 (one_cons rfl (one_cons rfl one_nil)) (k := 0) rfl (lb rfl) (c' := #[.i6 y2.Code, .i6 y2.Index]) rfl rfl ?_; clear S; intro w S
  refine wpList_nil ?_
  refine then_n ?_
  refine wp_seq ?_
  refine wp_region_lit ?_
  refine wE (ev_fieldAddr' tu24 tf24_0 (z := 0) ts3 rfl ⟨_, rfl⟩ rfl) F S rfl fun a F=>?_
  refine wE (ev_load1 tu3 rfl rfl (box_ptr (cells := [.i6 y2.Code]) 0 rfl 0 rfl (lb rfl))) F S rfl fun a F=>?_
  refine wE (ev_int rfl rfl (bo_neq _ _ _ _)) F S rfl fun a F=>?_
  refine wpList_nil ?_
  refine then_n ?_
  obtain ⟨hc2, hm⟩ | ⟨hc2, hm⟩ := ite_or hm
  ·refine wp_condT F rfl hc2 ?_
   refine wp_seq ?_
   refine wp_region_lit ?_
   refine wE (ev_fieldAddr' tu24 tf24_0 (z := 0) ts3 rfl ⟨_, rfl⟩ rfl) F S rfl fun a F=>?_
   refine wE (ev_load1 tu3 rfl rfl (box_ptr (cells := [.i6 y2.Code]) 0 rfl 0 rfl (lb rfl))) F S rfl fun a F=>?_
   obtain ⟨y3, hy3, hm⟩ := bind_some hm
   refine wl_call0 (wn rfl) rfl F rfl (changeforgeref1_At_ok (fr := (fl [[bx b3 #[.i6 y2.Code, .i6 y2.Index] 24], [bx b2 #[.i6 y1.Code, .i6 y1.Index] 24], [bx b1 #[.i6 0, .i6 0] 24]] fr)) y2.Code (-2) S hy3) rfl tc19 rfl rfl ?_; clear F a S
   rintro _ a w ⟨g3, l3, S, rfl⟩ F; replace S : St g3 [[bx b3 #[.i6 y2.Code, .i6 y2.Index] 24], [bx b2 #[.i6 y1.Code, .i6 y1.Index] 24], [bx b1 #[.i6 0, .i6 0] 24]] fr w := S
   refine wE (ev_assign rfl) F S rfl fun a F=>?_
   refine wl_storeC (wn rfl) rfl F S rfl rfl (vs := [.i6 y3.Code, .i6 y3.Index]) rfl ts24 (one_cons rfl (one_cons rfl one_nil)) (k := 2) rfl (lb rfl) (c' := #[.i6 y3.Code, .i6 y3.Index]) rfl rfl ?_; clear S; intro w S
   refine wpList_nil ?_
   refine then_n ?_
   refine wp_ret ?_
   refine then_r ?_
   obtain rfl := sinj hm
   replace S : St g3 [[], [bx b3 #[.i6 y2.Code, .i6 y2.Index] 24], [bx b2 #[.i6 y1.Code, .i6 y1.Index] 24], [bx b1 #[.i6 y3.Code, .i6 y3.Index] 24]] fr w := S
   refine post_r _ F rfl (ar_cons (resT rfl) (ar_cons (resA rfl tu24 rfl (box_ptr (cells := [.i6 y3.Code, .i6 y3.Index]) 3 rfl 0 rfl (lb rfl) w S) ts24) ar_nil)) ?_
   replace S : St g3 [[]] fr w := St.tail [[]] _ (S.frontC 0 rfl)
   exact ⟨_, rfl, g3, (nilS), [], ((l1.trans l2).trans l3), S, (OwnS.nil _), rfl⟩
  ·refine wp_condF F rfl hc2 ?_
   refine wp_skip ?_
   refine then_n ?_
   refine wp_seq ?_
   refine wp_region_lit ?_
   refine wl_lit (l := ([] : List VersionedValue)) (vs := []) (parts := []) (wn rfl) rfl rfl rfl tu22 te35 sz_nil rfl (Cat.nil _) coa_nil rfl F S rfl rfl ?_; clear F a S
   rintro v1 c1 a w h1 F S
   refine wE (ev_move rfl) F S rfl fun a F=>?_
   obtain ⟨cs1, hk1, hr1⟩ := RepSl.reads (ha_1.mono (l1.trans l2))
   obtain ⟨y4, hy4, hm⟩ := bind_some hm
   refine wl_append (wn rfl) rfl tu22 tu22 te35 (by decide) (by decide) F S rfl rfl (k := 0) rfl h1 hk1 rfl (hr1 _ _ S) hy4 rfl rfl ?_; clear F a S
   rintro v2 c2 a w h2 S F; replace S : St g2 [c2, [bx b3 #[.i6 y2.Code, .i6 y2.Index] 24], [bx b2 #[.i6 y1.Code, .i6 y1.Index] 24], [bx b1 #[.i6 0, .i6 0] 24]] fr w := S
   refine wE (ev_move rfl) F S rfl fun a F=>?_
   obtain ⟨cs2, hk2, hr2⟩ := RepSl.reads (hb_1.mono (l1.trans l2))
   obtain ⟨y5, hy5, hm⟩ := bind_some hm
   refine wl_append (wn rfl) rfl tu22 tu22 te35 (by decide) (by decide) F S rfl rfl (k := 0) rfl h2 hk2 rfl (hr2 _ _ S) hy5 rfl rfl ?_; clear F a S
   rintro v3 c3 a w h3 S F; replace S : St g2 [c3, [bx b3 #[.i6 y2.Code, .i6 y2.Index] 24], [bx b2 #[.i6 y1.Code, .i6 y1.Index] 24], [bx b1 #[.i6 0, .i6 0] 24]] fr w := S
   refine wE (ev_assign rfl) F S rfl fun a F=>?_
   refine wpList_nil ?_
   refine then_n ?_
   refine wp_seq ?_
   refine wp_region_lit ?_
   refine wE (ev_assign rfl) F S rfl fun a F=>?_
   refine wpList_nil ?_
   refine then_n ?_
   refine wp_cut (fun a w => ∃ (x1 : List VersionedValue) (v4 : Value) (c4 : Hl) (g4 : Gh), Fr 141 a [(9, v4), (5, bp b1 0)] ∧ Le g2 g4 ∧ St g4 [c4, [bx b1 #[.i6 0, .i6 0] 24]] fr w ∧ OwnS g4 x1 v4 c4 ∧ changeforgeref2_MergedValues.j1 x1 = some r) ?_ ?_
   ·refine wp_seq ?_
    refine wp_region_lit ?_
    refine wE (ev_assign rfl) F S rfl fun a F=>?_
    refine wpList_nil ?_
    refine then_n ?_
    refine wp_block ?_
    obtain ⟨r1, hr3, hm⟩ := bind_some hm
    have hmo1 := hm; clear hm
    refine wp_iter (σ := Int × (List VersionedValue)) (ρ := ((List VersionedValue) × Fault) ⊕ (List VersionedValue)) (m := fun s => changeforgeref2_MergedValues.l1 a_ y5 s.1 s.2) (I := fun s a w => match s with | (x2, x3) => ∃ (v5 : Value) (c5 : Hl) (g6 : Gh), Fr 141 a [(10, .i6 x2), (9, v5), (8, v3), (5, bp b1 0), (0, va_1)] ∧ Le g2 g6 ∧ St g6 [c5, c3, [bx b1 #[.i6 0, .i6 0] 24]] fr w ∧ OwnS g6 x3 v5 c5) hr3 ?_ ?_
    ·dsimp only
     replace S : St g2 [[], c3, [bx b3 #[.i6 y2.Code, .i6 y2.Index] 24], [bx b2 #[.i6 y1.Code, .i6 y1.Index] 24], [bx b1 #[.i6 0, .i6 0] 24]] fr w := S
     replace S : St g2 [[], c3, [bx b1 #[.i6 0, .i6 0] 24]] fr w := St.tail [[], c3, [bx b1 #[.i6 0, .i6 0] 24]] _ (((S.frontC 4 rfl).frontC 2 rfl).frontC 2 rfl)
     exact ⟨(nilS), [], g2, F.sub ⟨rfl, rfl, rfl, rfl, rfl, trivial⟩, (Le.refl _), S, (OwnS.nil _)⟩
    ·clear F S; rintro ⟨x2, x3⟩ a w x4 ⟨v5, c5, g6, F, l6, S, h5⟩ hx1 hfin1
     have hm : changeforgeref2_MergedValues.l1 a_ y5 x2 x3 = some x4 := hx1; clear hx1
     unfold changeforgeref2_MergedValues.l1 at hm
     refine wp_seq ?_
     refine wp_seq ?_
     refine wp_region_lit ?_
     refine wE (ev_move rfl) F S rfl fun a F=>?_
     refine wE (ev_move rfl) F S rfl fun a F=>?_
     refine wE (ev_lenOw h3 rfl tu22) F S rfl fun a F=>?_
     refine wE (ev_int rfl rfl (bo_lss _ _ _ _)) F S rfl fun a F=>?_
     refine wpList_nil ?_
     refine then_n ?_
     obtain ⟨hc4, hm⟩ | ⟨hc4, hm⟩ := ite_or hm
     ·refine wp_condT F rfl hc4 ?_
      refine wp_skip ?_
      refine then_n ?_
      refine wp_cut (fun a w => ∃ (x5 : List VersionedValue) (v6 : Value) (c6 : Hl) (g7 : Gh), Fr 141 a [(10, .i6 x2), (9, v6), (8, v3), (5, bp b1 0), (0, va_1)] ∧ Le g6 g7 ∧ St g7 [c6, c3, [bx b1 #[.i6 0, .i6 0] 24]] fr w ∧ OwnS g7 x5 v6 c6 ∧ changeforgeref2_MergedValues.j2 x2 x5 = some x4) ?_ ?_
      ·refine wp_block ?_
       refine wp_seq ?_
       refine wp_region_lit ?_
       refine wE (ev_assign rfl) F S rfl fun a F=>?_
       refine wpList_nil ?_
       refine then_n ?_
       refine wp_cut (fun a w => ∃ (x6 : Bool) (g8 : Gh), Fr 141 a [(11, .bool x6), (10, .i6 x2), (9, v5), (8, v3), (5, bp b1 0), (0, va_1)] ∧ Le g6 g8 ∧ St g8 [c5, c3, [bx b1 #[.i6 0, .i6 0] 24]] fr w ∧ changeforgeref2_MergedValues.j3 y5 x2 x3 x6 = some x4) ?_ ?_
       ·refine wp_seq ?_
        refine wp_region_lit ?_
        refine wE (ev_assign rfl) F S rfl fun a F=>?_
        refine wpList_nil ?_
        refine then_n ?_
        refine wp_block ?_
        obtain ⟨r3, hr11, hm⟩ := bind_some hm
        have hmo3 := hm; clear hm
        refine wp_iter (σ := Int × Bool) (ρ := ((List VersionedValue) × Fault) ⊕ Bool) (m := fun s => changeforgeref2_MergedValues.l3 a_ y5 x2 s.1 s.2) (I := fun s a w => match s with | (x13, x14) => ∃ (g12 : Gh), Fr 141 a [(12, .i6 x13), (11, .bool x14), (10, .i6 x2), (9, v5), (8, v3), (5, bp b1 0), (0, va_1)] ∧ Le g6 g12 ∧ St g12 [c5, c3, [bx b1 #[.i6 0, .i6 0] 24]] fr w) hr11 ?_ ?_
        ·dsimp only
         exact ⟨g6, F.sub ⟨rfl, rfl, rfl, rfl, rfl, rfl, rfl, trivial⟩, (Le.refl _), S⟩
        ·clear F S; rintro ⟨x13, x14⟩ a w x15 ⟨g12, F, l12, S⟩ hx4 hfin3
         have hm : changeforgeref2_MergedValues.l3 a_ y5 x2 x13 x14 = some x15 := hx4; clear hx4
         unfold changeforgeref2_MergedValues.l3 at hm
         refine wp_seq ?_
         refine wp_seq ?_
         refine wp_region_lit ?_
         refine wE (ev_move rfl) F S rfl fun a F=>?_
         refine wE (ev_move rfl) F S rfl fun a F=>?_
         refine wE (ev_lenOw h3 rfl tu22) F S rfl fun a F=>?_
         refine wE (ev_int rfl rfl (bo_lss _ _ _ _)) F S rfl fun a F=>?_
         refine wpList_nil ?_
         refine then_n ?_
         obtain ⟨hc8, hm⟩ | ⟨hc8, hm⟩ := ite_or hm
         ·refine wp_condT F rfl hc8 ?_
          refine wp_skip ?_
          refine then_n ?_
          refine wp_cut (fun a w => ∃ (x16 : Bool) (g13 : Gh), Fr 141 a [(11, .bool x16), (12, .i6 x13), (10, .i6 x2), (9, v5), (8, v3), (5, bp b1 0), (0, va_1)] ∧ Le g12 g13 ∧ St g13 [c5, c3, [bx b1 #[.i6 0, .i6 0] 24]] fr w ∧ changeforgeref2_MergedValues.j5 x13 x16 = some x15) ?_ ?_
          ·refine wp_block ?_
           refine wp_seq ?_
           refine wp_quiet mo (by kernel_rfl) S ?_
           refine wq_ev (wn rfl) (ev_move rfl) F rfl rfl ?_; clear F a; intro a F
           refine wq_ev (wn rfl) (ev_move rfl) F rfl rfl ?_; clear F a; intro a F
           obtain ⟨y18, hy18, hm⟩ := bind_some hm
           refine wq_ev (wn rfl) (ev_idxO (h3.mono (l6.trans l12)) hy18 tu22 ts35 rfl rfl) F rfl rfl ?_; clear F a; intro a F
           refine wq_ev (wn rfl) (ev_fieldAddr' tu35 tf35_1 (z := 0) ts33 rfl (elemO_ptr (h3.mono (l6.trans l12)) hy18) rfl) F rfl rfl ?_; clear F a; intro a F
           obtain ⟨cs9, hr12, hq6⟩ := elemO (h3.mono (l6.trans l12)) hy18
           obtain ⟨v16, rfl, h18⟩ := rep_VersionedValue hr12
           refine wq_ev (wn rfl) (ev_load1 tu33 rfl rfl (fun w s => fieldP (cells := [v16]) 1 (hq6 _ _ 1 rfl w s) rfl (lb rfl))) F rfl rfl ?_; clear F a; intro a F
           refine wq_ev (wn rfl) (ev_move rfl) F rfl rfl ?_; clear F a; intro a F
           refine wq_ev (wn rfl) (ev_move rfl) F rfl rfl ?_; clear F a; intro a F
           obtain ⟨y19, hy19, hm⟩ := bind_some hm
           refine wq_ev (wn rfl) (ev_idxO (h3.mono (l6.trans l12)) hy19 tu22 ts35 rfl rfl) F rfl rfl ?_; clear F a; intro a F
           refine wq_ev (wn rfl) (ev_fieldAddr' tu35 tf35_1 (z := 0) ts33 rfl (elemO_ptr (h3.mono (l6.trans l12)) hy19) rfl) F rfl rfl ?_; clear F a; intro a F
           obtain ⟨cs10, hr13, hq7⟩ := elemO (h3.mono (l6.trans l12)) hy19
           obtain ⟨v17, rfl, h19⟩ := rep_VersionedValue hr13
           refine wq_ev (wn rfl) (ev_load1 tu33 rfl rfl (fun w s => fieldP (cells := [v17]) 1 (hq7 _ _ 1 rfl w s) rfl (lb rfl))) F rfl rfl ?_; clear F a; intro a F
           obtain ⟨y20, hy20, hm⟩ := bind_some hm
           refine wq_call (wn rfl) rfl (xs := [.tmp 52, .tmp 57]) (vs := [v16, v17]) (cap := []) F rfl rfl tc17 (v := .tuple #[.bool y20.1, .bool y20.2]) (fun w S => (changeforgeref2_Relation_ok (g := g12) (fr := (fl [c5, c3, [bx b1 #[.i6 0, .i6 0] 24]] fr)) (w := w) y18.Vector v16 h18 y19.Vector v17 h19 S hy20).mono (by rintro en w' ⟨_, rfl, g2, l2, S2, rfl⟩; exact ⟨rfl, S2.weak l2⟩)) rfl rfl ?_; clear F a; intro a F
           refine wq_ev (wn rfl) (ev_move rfl) F rfl rfl ?_; clear F a; intro a F
           refine wq_ev (wn rfl) (ev_extract rfl rfl) F rfl rfl ?_; clear F a; intro a F
           refine wq_ev (wn rfl) (ev_extract rfl rfl) F rfl rfl ?_; clear F a; intro a F
           refine wq_ev (wn rfl) (ev_assign rfl) F rfl rfl ?_; clear F a; intro a F
           refine wq_ev (wn rfl) (ev_assign rfl) F rfl rfl ?_; clear F a; intro a F
           refine wq_nil ?_; clear S; intro w S
           refine then_n ?_
           refine wp_cut (fun a w => ∃ (x17 : Bool) (g15 : Gh), Fr 141 a [(11, .bool x17), (14, .bool y20.2), (13, .bool y20.1), (12, .i6 x13), (10, .i6 x2), (9, v5), (8, v3), (5, bp b1 0), (0, va_1)] ∧ Le g12 g15 ∧ St g15 [c5, c3, [bx b1 #[.i6 0, .i6 0] 24]] fr w ∧ changeforgeref2_MergedValues.j6 x13 y20 x17 = some x15) ?_ ?_
           ·refine wp_seq ?_
            refine wp_region_lit ?_
            refine wE (ev_move rfl) F S rfl fun a F=>?_
            refine wE (ev_move rfl) F S rfl fun a F=>?_
            obtain ⟨x19, hx6, hm⟩ := bind_some hm
            refine wl_cut 2 (fun a w' => w = w' ∧ Fr 141 a [(64, .bool x19), (14, .bool y20.2), (13, .bool y20.1), (12, .i6 x13), (11, .bool x14), (10, .i6 x2), (9, v5), (8, v3), (5, bp b1 0), (0, va_1)]) ?_ ?_
            ·clear hm; obtain ⟨hc11, hm⟩ | ⟨hc11, hm⟩ := ite_or hx6
             ·refine wl_ev (wg F rfl rfl rfl rfl hc11) (ev_move rfl) F S rfl rfl ?_; clear F a; intro a F
              refine wE (ev_pickT rfl hc11 rfl) F S rfl fun a F=>?_
              obtain rfl := sinj hm
              refine wpList_nil (then_n ?_); exact ⟨rfl, F.sub ⟨rfl, rfl, rfl, rfl, rfl, rfl, rfl, rfl, rfl, rfl, trivial⟩⟩
             ·refine wl_skip rfl rfl rfl rfl (ne_tf hc11) F rfl rfl ?_; clear F a; intro a F
              refine wE (ev_pickF rfl hc11 rfl) F S rfl fun a F=>?_
              obtain rfl := sinj hm
              refine wpList_nil (then_n ?_); exact ⟨rfl, F.sub ⟨rfl, rfl, rfl, rfl, rfl, rfl, rfl, rfl, rfl, rfl, trivial⟩⟩
            clear F; rintro a w' ⟨rfl, F⟩
            refine wE (ev_move rfl) F S rfl fun a F=>?_
            obtain ⟨x20, hx7, hm⟩ := bind_some hm
            refine wl_cut 4 (fun a w' => w = w' ∧ Fr 141 a [(69, .bool x20), (14, .bool y20.2), (13, .bool y20.1), (12, .i6 x13), (11, .bool x14), (10, .i6 x2), (9, v5), (8, v3), (5, bp b1 0), (0, va_1)]) ?_ ?_
            ·clear hm; obtain ⟨hc12, hm⟩ | ⟨hc12, hm⟩ := ite_or hx7
             ·refine wl_ev (wg F rfl rfl rfl rfl hc12) (ev_move rfl) F S rfl rfl ?_; clear F a; intro a F
              refine wl_ev (wg F rfl rfl rfl rfl hc12) (ev_move rfl) F S rfl rfl ?_; clear F a; intro a F
              refine wl_ev (wg F rfl rfl rfl rfl hc12) (ev_int rfl rfl (bo_lss _ _ _ _)) F S rfl rfl ?_; clear F a; intro a F
              refine wE (ev_pickT rfl hc12 rfl) F S rfl fun a F=>?_
              obtain rfl := sinj hm
              refine wpList_nil (then_n ?_); exact ⟨rfl, F.sub ⟨rfl, rfl, rfl, rfl, rfl, rfl, rfl, rfl, rfl, rfl, trivial⟩⟩
             ·refine wl_skip rfl rfl rfl rfl (ne_tf hc12) F rfl rfl ?_; clear F a; intro a F
              refine wl_skip rfl rfl rfl rfl (ne_tf hc12) F rfl rfl ?_; clear F a; intro a F
              refine wl_skip rfl rfl rfl rfl (ne_tf hc12) F rfl rfl ?_; clear F a; intro a F
              refine wE (ev_pickF rfl hc12 rfl) F S rfl fun a F=>?_
              obtain rfl := sinj hm
              refine wpList_nil (then_n ?_); exact ⟨rfl, F.sub ⟨rfl, rfl, rfl, rfl, rfl, rfl, rfl, rfl, rfl, rfl, trivial⟩⟩
            clear F; rintro a w' ⟨rfl, F⟩
            refine wpList_nil ?_
            refine then_n ?_
            obtain ⟨hc13, hm⟩ | ⟨hc13, hm⟩ := ite_or hm
            ·refine wp_condT F rfl hc13 ?_
             refine wp_seq ?_
             refine wp_seq ?_
             refine wp_quiet mo (by kernel_rfl) S ?_
             refine wq_ev (wn rfl) (ev_move rfl) F rfl rfl ?_; clear F a; intro a F
             refine wq_ev (wn rfl) (ev_move rfl) F rfl rfl ?_; clear F a; intro a F
             obtain ⟨y21, hy21, hm⟩ := bind_some hm
             refine wq_ev (wn rfl) (ev_idxO (h3.mono (l6.trans l12)) hy21 tu22 ts35 rfl rfl) F rfl rfl ?_; clear F a; intro a F
             refine wq_ev (wn rfl) (ev_fieldAddr' tu35 tf35_0 (z := 0) ts3 rfl (elemO_ptr (h3.mono (l6.trans l12)) hy21) addP_zero) F rfl rfl ?_; clear F a; intro a F
             obtain ⟨cs11, hr14, hq8⟩ := elemO (h3.mono (l6.trans l12)) hy21
             obtain ⟨v18, rfl, h20⟩ := rep_VersionedValue hr14
             refine wq_ev (wn rfl) (ev_load1 tu3 rfl rfl (fun w s => addP_zero ▸ fieldP (cells := [.i6 y21.Value]) 0 (hq8 _ _ 1 rfl w s) rfl (lb rfl))) F rfl rfl ?_; clear F a; intro a F
             refine wq_ev (wn rfl) (ev_move rfl) F rfl rfl ?_; clear F a; intro a F
             refine wq_ev (wn rfl) (ev_move rfl) F rfl rfl ?_; clear F a; intro a F
             obtain ⟨y22, hy22, hm⟩ := bind_some hm
             refine wq_ev (wn rfl) (ev_idxO (h3.mono (l6.trans l12)) hy22 tu22 ts35 rfl rfl) F rfl rfl ?_; clear F a; intro a F
             refine wq_ev (wn rfl) (ev_fieldAddr' tu35 tf35_0 (z := 0) ts3 rfl (elemO_ptr (h3.mono (l6.trans l12)) hy22) addP_zero) F rfl rfl ?_; clear F a; intro a F
             obtain ⟨cs12, hr15, hq9⟩ := elemO (h3.mono (l6.trans l12)) hy22
             obtain ⟨v19, rfl, h21⟩ := rep_VersionedValue hr15
             refine wq_ev (wn rfl) (ev_load1 tu3 rfl rfl (fun w s => addP_zero ▸ fieldP (cells := [.i6 y22.Value]) 0 (hq9 _ _ 1 rfl w s) rfl (lb rfl))) F rfl rfl ?_; clear F a; intro a F
             refine wq_ev (wn rfl) (ev_int rfl rfl (bo_neq _ _ _ _)) F rfl rfl ?_; clear F a; intro a F
             refine wq_nil ?_; clear S; intro w S
             refine then_n ?_
             obtain ⟨hc14, hm⟩ | ⟨hc14, hm⟩ := ite_or hm
             ·refine wp_condT F rfl hc14 ?_
              refine wp_seq ?_
              refine wp_region_lit ?_
              refine wE (ev_move rfl) F S rfl fun a F=>?_
              refine wE (ev_move rfl) F S rfl fun a F=>?_
              refine wE (ev_lenSh ha_1 rfl tu22) F S rfl fun a F=>?_
              obtain ⟨z6, hz6, hm⟩ := bind_some hm
              refine wE (ev_int rfl rfl (bo_sub hz6)) F S rfl fun a F=>?_
              obtain ⟨y23, hy23, hm⟩ := bind_some hm
              refine wl_call0 (wn rfl) rfl F rfl (changeforgeref1_At_ok (fr := (fl [c5, c3, [bx b1 #[.i6 0, .i6 0] 24]] fr)) 19 z6 S hy23) rfl tc19 rfl rfl ?_; clear F a S
              rintro _ a w ⟨g16, l16, S, rfl⟩ F; replace S : St g16 [c5, c3, [bx b1 #[.i6 0, .i6 0] 24]] fr w := S
              refine wE (ev_assign rfl) F S rfl fun a F=>?_
              refine wl_storeC (wn rfl) rfl F S rfl rfl (vs := [.i6 y23.Code, .i6 y23.Index]) rfl ts24 (one_cons rfl (one_cons rfl one_nil)) (k := 2) rfl (lb rfl) (c' := #[.i6 y23.Code, .i6 y23.Index]) rfl rfl ?_; clear S; intro w S
              refine wpList_nil ?_
              refine then_n ?_
              refine wp_ret ?_
              refine then_r ?_
              refine then_r ?_
              refine inb_r ?_
              refine then_r ?_
              refine then_r ?_
              refine inb_r ?_
              refine then_r ?_
              refine inb_r ?_
              refine then_r ?_
              refine then_r ?_
              refine inb_r ?_
              refine then_r ?_
              obtain rfl := sinj hm
              obtain rfl := hfin3 _ rfl
              clear hm
              have hm : (some (Step.done (Sum.inl ([], y23))) : Option (Step (Int × (List VersionedValue)) (((List VersionedValue) × Fault) ⊕ (List VersionedValue)))) = some _ := hmo3
              obtain rfl := sinj hm
              obtain rfl := hfin1 _ rfl
              clear hm
              have hm : (some ([], y23) : Option ((List VersionedValue) × Fault)) = some _ := hmo1
              obtain rfl := sinj hm
              replace S : St g16 [[], c5, c3, [bx b1 #[.i6 y23.Code, .i6 y23.Index] 24]] fr w := S
              refine post_r _ F rfl (ar_cons (resT rfl) (ar_cons (resA rfl tu24 rfl (box_ptr (cells := [.i6 y23.Code, .i6 y23.Index]) 3 rfl 0 rfl (lb rfl) w S) ts24) ar_nil)) ?_
              replace S : St g16 [[]] fr w := St.tail [[]] _ (S.frontC 0 rfl)
              exact ⟨_, rfl, g16, (nilS), [], ((((l1.trans l2).trans l6).trans l12).trans l16), S, (OwnS.nil _), rfl⟩
             ·refine wp_condF F rfl hc14 ?_
              refine wp_skip ?_
              refine then_n ?_
              refine wp_region_lit ?_
              refine wE (ev_assign rfl) F S rfl fun a F=>?_
              refine wpList_nil ?_
              refine then_n ?_
              exact ⟨false, g12, F.sub ⟨rfl, rfl, rfl, rfl, rfl, rfl, rfl, rfl, rfl, trivial⟩, (Le.refl _), S, hm⟩
            ·refine wp_condF F rfl hc13 ?_
             refine wp_skip ?_
             refine then_n ?_
             exact ⟨x14, g12, F.sub ⟨rfl, rfl, rfl, rfl, rfl, rfl, rfl, rfl, rfl, trivial⟩, (Le.refl _), S, hm⟩
           ·clear F S hm; rintro a w ⟨x17, g15, F, l15, S, hm⟩
            refine wp_seq ?_
            refine wp_region_lit ?_
            refine wE (ev_move rfl) F S rfl fun a F=>?_
            refine wE (ev_move rfl) F S rfl fun a F=>?_
            obtain ⟨x18, hx5, hm⟩ := bind_some hm
            refine wl_cut 3 (fun a w' => w = w' ∧ Fr 141 a [(90, .bool x18), (11, .bool x17), (12, .i6 x13), (10, .i6 x2), (9, v5), (8, v3), (5, bp b1 0), (0, va_1)]) ?_ ?_
            ·clear hm; obtain ⟨hc9, hm⟩ | ⟨hc9, hm⟩ := ite_or hx5
             ·refine wl_ev (wg F rfl rfl rfl rfl hc9) (ev_move rfl) F S rfl rfl ?_; clear F a; intro a F
              refine wl_ev (wg F rfl rfl rfl rfl hc9) (ev_not rfl) F S rfl rfl ?_; clear F a; intro a F
              refine wE (ev_pickT rfl hc9 rfl) F S rfl fun a F=>?_
              obtain rfl := sinj hm
              refine wpList_nil (then_n ?_); exact ⟨rfl, F.sub ⟨rfl, rfl, rfl, rfl, rfl, rfl, rfl, rfl, trivial⟩⟩
             ·refine wl_skip rfl rfl rfl rfl (ne_tf hc9) F rfl rfl ?_; clear F a; intro a F
              refine wl_skip rfl rfl rfl rfl (ne_tf hc9) F rfl rfl ?_; clear F a; intro a F
              refine wE (ev_pickF rfl hc9 rfl) F S rfl fun a F=>?_
              obtain rfl := sinj hm
              refine wpList_nil (then_n ?_); exact ⟨rfl, F.sub ⟨rfl, rfl, rfl, rfl, rfl, rfl, rfl, rfl, trivial⟩⟩
            clear F; rintro a w' ⟨rfl, F⟩
            refine wpList_nil ?_
            refine then_n ?_
            obtain ⟨hc10, hm⟩ | ⟨hc10, hm⟩ := ite_or hm
            ·refine wp_condT F rfl hc10 ?_
             refine wp_region_lit ?_
             refine wE (ev_assign rfl) F S rfl fun a F=>?_
             refine wpList_nil ?_
             refine inb_n ?_
             refine then_n ?_
             exact ⟨false, g15, F.sub ⟨rfl, rfl, rfl, rfl, rfl, rfl, rfl, trivial⟩, l15, S, hm⟩
            ·refine wp_condF F rfl hc10 ?_
             refine wp_skip ?_
             refine inb_n ?_
             refine then_n ?_
             exact ⟨x17, g15, F.sub ⟨rfl, rfl, rfl, rfl, rfl, rfl, rfl, trivial⟩, l15, S, hm⟩
          ·clear F S hm; rintro a w ⟨x16, g13, F, l13, S, hm⟩
           refine wp_region_lit ?_
           refine wE (ev_move rfl) F S rfl fun a F=>?_
           obtain ⟨z5, hz5, hm⟩ := bind_some hm
           refine wE (ev_int rfl rfl (bo_add hz5)) F S rfl fun a F=>?_
           refine wE (ev_assign rfl) F S rfl fun a F=>?_
           refine wpList_nil ?_
           refine then_n ?_
           obtain rfl := sinj hm
           refine ⟨_, rfl, ?_⟩
           dsimp only
           exact ⟨g13, F.sub ⟨rfl, rfl, rfl, rfl, rfl, rfl, rfl, trivial⟩, (l12.trans l13), S⟩
         ·refine wp_condF F rfl hc8 ?_
          refine wp_exit ?_
          refine then_e ?_
          refine then_e ?_
          refine inb_x ?_
          refine then_n ?_
          obtain rfl := sinj hm
          obtain rfl := hfin3 _ rfl
          clear hm
          have hm : (changeforgeref2_MergedValues.j3 y5 x2 x3 x14 : Option (Step (Int × (List VersionedValue)) (((List VersionedValue) × Fault) ⊕ (List VersionedValue)))) = some _ := hmo3
          exact ⟨x14, g12, F.sub ⟨rfl, rfl, rfl, rfl, rfl, rfl, trivial⟩, l12, S, hm⟩
       ·clear F S hm; rintro a w ⟨x6, g8, F, l8, S, hm⟩
        refine wp_seq ?_
        refine wp_seq ?_
        refine wp_region_lit ?_
        refine wE (ev_move rfl) F S rfl fun a F=>?_
        refine wE (ev_not rfl) F S rfl fun a F=>?_
        refine wpList_nil ?_
        refine then_n ?_
        obtain ⟨hc5, hm⟩ | ⟨hc5, hm⟩ := ite_or hm
        ·refine wp_condT F rfl hc5 ?_
         refine wp_exit ?_
         refine then_e ?_
         refine inb_x ?_
         refine then_n ?_
         exact ⟨x3, v5, c5, g8, F.sub ⟨rfl, rfl, rfl, rfl, rfl, trivial⟩, l8, S, (h5.mono l8), hm⟩
        ·refine wp_condF F rfl hc5 ?_
         refine wp_skip ?_
         refine then_n ?_
         refine wp_seq ?_
         refine wp_region_lit ?_
         refine wE (ev_move rfl) F S rfl fun a F=>?_
         refine wE (ev_lenOw h5 rfl tu22) F S rfl fun a F=>?_
         refine wE (ev_assign rfl) F S rfl fun a F=>?_
         refine wpList_nil ?_
         refine then_n ?_
         refine wp_seq ?_
         refine wp_region_lit ?_
         refine wE (ev_move rfl) F S rfl fun a F=>?_
         refine wE (ev_move rfl) F S rfl fun a F=>?_
         refine wE (ev_move rfl) F S rfl fun a F=>?_
         obtain ⟨y7, hy7, hm⟩ := bind_some hm
         refine wE (ev_idxO (h3.mono (l6.trans l8)) hy7 tu22 ts35 rfl rfl) F S rfl fun a F=>?_
         obtain ⟨cs3, hr4, hq1⟩ := elemO (h3.mono (l6.trans l8)) hy7
         obtain ⟨v7, rfl, h7⟩ := rep_VersionedValue hr4
         refine wE (ev_loadA tu35 rfl (cs := [.i6 y7.Value, v7]) ts35 rfl (hq1 _ _ 1 rfl)) F S rfl fun a F=>?_
         refine wl_lit (l := ([y7] : List VersionedValue)) (vs := [.agg #[.i6 y7.Value, v7]]) (parts := [(0, .tmp 99)]) (wn rfl) rfl rfl rfl tu22 te35 (sz_cons rfl sz_nil) rfl (Cat.cons (rep_VersionedValue_mk (x := y7) h7) (Cat.nil _)) (coa_cons rfl coa_nil) rfl F S rfl rfl ?_; clear F a S
         rintro v8 c7 a w h8 F S
         obtain ⟨cs4, hk3, hr5⟩ := OwnS.reads h8
         obtain ⟨y8, hy8, hm⟩ := bind_some hm
         refine wl_append (wn rfl) rfl tu22 tu22 te35 (by decide) (by decide) F S rfl rfl (k := 1) rfl (h5.mono l8) hk3 rfl (hr5 _ _ _ 0 rfl S) hy8 rfl rfl ?_; clear F a S
         rintro v9 c8 a w h9 S F; replace S : St g8 [c7, c8, c3, [bx b1 #[.i6 0, .i6 0] 24]] fr w := S
         refine wE (ev_assign rfl) F S rfl fun a F=>?_
         refine wpList_nil ?_
         refine then_n ?_
         refine wp_cut (fun a w => ∃ (x7 : List VersionedValue) (x8 : Int) (v10 : Value) (c9 : Hl) (g9 : Gh), Fr 141 a [(9, v10), (15, .i6 x8), (10, .i6 x2), (8, v3), (5, bp b1 0), (0, va_1)] ∧ Le g8 g9 ∧ St g9 [c9, c3, [bx b1 #[.i6 0, .i6 0] 24]] fr w ∧ OwnS g9 x7 v10 c9 ∧ changeforgeref2_MergedValues.j4 y5 x2 x7 x8 = some x4) ?_ ?_
         ·refine wp_block ?_
          obtain ⟨r2, hr7, hm⟩ := bind_some hm
          have hmo2 := hm; clear hm
          refine wp_iter (σ := (List VersionedValue) × Int) (ρ := (List VersionedValue) × Int) (m := fun s => changeforgeref2_MergedValues.l2 y5 x2 s.1 s.2) (I := fun s a w => match s with | (x9, x10) => ∃ (v12 : Value) (c11 : Hl) (g10 : Gh), Fr 141 a [(9, v12), (15, .i6 x10), (10, .i6 x2), (8, v3), (5, bp b1 0), (0, va_1)] ∧ Le g8 g10 ∧ St g10 [c11, c3, [bx b1 #[.i6 0, .i6 0] 24]] fr w ∧ OwnS g10 x9 v12 c11) hr7 ?_ ?_
          ·dsimp only
           replace S : St g8 [c8, c3, [bx b1 #[.i6 0, .i6 0] 24]] fr w := St.tail [c8, c3, [bx b1 #[.i6 0, .i6 0] 24]] _ (((S.frontC 3 rfl).frontC 3 rfl).frontC 3 rfl)
           exact ⟨v9, c8, g8, F.sub ⟨rfl, rfl, rfl, rfl, rfl, rfl, trivial⟩, (Le.refl _), S, h9⟩
          ·clear F S; rintro ⟨x9, x10⟩ a w x11 ⟨v12, c11, g10, F, l10, S, h13⟩ hx2 hfin2
           have hm : changeforgeref2_MergedValues.l2 y5 x2 x9 x10 = some x11 := hx2; clear hx2
           unfold changeforgeref2_MergedValues.l2 at hm
           refine wp_seq ?_
           refine wp_seq ?_
           refine wp_quiet mo (by kernel_rfl) S ?_
           refine wq_ev (wn rfl) (ev_move rfl) F rfl rfl ?_; clear F a; intro a F
           refine wq_ev (wn rfl) (ev_int rfl rfl (bo_gtr _ _ _ _)) F rfl rfl ?_; clear F a; intro a F
           refine wq_ev (wn rfl) (ev_move rfl) F rfl rfl ?_; clear F a; intro a F
           obtain ⟨x12, hx3, hm⟩ := bind_some hm
           refine wq_cut 13 (fun a => Fr 141 a [(117, .bool x12), (9, v12), (15, .i6 x10), (10, .i6 x2), (8, v3), (5, bp b1 0), (0, va_1)]) ?_ ?_
           ·clear hm; obtain ⟨hc6, hm⟩ | ⟨hc6, hm⟩ := ite_or hx3
            ·refine wq_ev (wg F rfl rfl rfl rfl hc6) (ev_move rfl) F rfl rfl ?_; clear F a; intro a F
             refine wq_ev (wg F rfl rfl rfl rfl hc6) (ev_move rfl) F rfl rfl ?_; clear F a; intro a F
             obtain ⟨y12, hy12, hm⟩ := bind_some hm
             refine wq_ev (wg F rfl rfl rfl rfl hc6) (ev_idxO (h3.mono ((l6.trans l8).trans l10)) hy12 tu22 ts35 rfl rfl) F rfl rfl ?_; clear F a; intro a F
             refine wq_ev (wg F rfl rfl rfl rfl hc6) (ev_fieldAddr' tu35 tf35_1 (z := 0) ts33 rfl (elemO_ptr (h3.mono ((l6.trans l8).trans l10)) hy12) rfl) F rfl rfl ?_; clear F a; intro a F
             obtain ⟨cs6, hr8, hq3⟩ := elemO (h3.mono ((l6.trans l8).trans l10)) hy12
             obtain ⟨v13, rfl, h14⟩ := rep_VersionedValue hr8
             refine wq_ev (wg F rfl rfl rfl rfl hc6) (ev_load1 tu33 rfl rfl (fun w s => fieldP (cells := [v13]) 1 (hq3 _ _ 1 rfl w s) rfl (lb rfl))) F rfl rfl ?_; clear F a; intro a F
             refine wq_ev (wg F rfl rfl rfl rfl hc6) (ev_move rfl) F rfl rfl ?_; clear F a; intro a F
             refine wq_ev (wg F rfl rfl rfl rfl hc6) (ev_move rfl) F rfl rfl ?_; clear F a; intro a F
             obtain ⟨z2, hz2, hm⟩ := bind_some hm
             refine wq_ev (wg F rfl rfl rfl rfl hc6) (ev_int rfl rfl (bo_sub hz2)) F rfl rfl ?_; clear F a; intro a F
             obtain ⟨y13, hy13, hm⟩ := bind_some hm
             refine wq_ev (wg F rfl rfl rfl rfl hc6) (ev_idxO h13 hy13 tu22 ts35 rfl rfl) F rfl rfl ?_; clear F a; intro a F
             refine wq_ev (wg F rfl rfl rfl rfl hc6) (ev_fieldAddr' tu35 tf35_1 (z := 0) ts33 rfl (elemO_ptr h13 hy13) rfl) F rfl rfl ?_; clear F a; intro a F
             obtain ⟨cs7, hr9, hq4⟩ := elemO h13 hy13
             obtain ⟨v14, rfl, h15⟩ := rep_VersionedValue hr9
             refine wq_ev (wg F rfl rfl rfl rfl hc6) (ev_load1 tu33 rfl rfl (fun w s => fieldP (cells := [v14]) 1 (hq4 _ _ 0 rfl w s) rfl (lb rfl))) F rfl rfl ?_; clear F a; intro a F
             obtain ⟨y14, hy14, hm⟩ := bind_some hm
             refine wq_call (wg F rfl rfl rfl rfl hc6) rfl (xs := [.tmp 109, .tmp 115]) (vs := [v13, v14]) (cap := []) F rfl rfl tc27 (v := .bool y14) (fun w S => (changeforgeref2_less_ok (g := g10) (fr := (fl [c11, c3, [bx b1 #[.i6 0, .i6 0] 24]] fr)) (w := w) y12.Vector v13 h14 y13.Vector v14 h15 S hy14).mono (by rintro en w' ⟨_, rfl, g2, l2, S2, rfl⟩; exact ⟨rfl, S2.weak l2⟩)) rfl rfl ?_; clear F a; intro a F
             refine wq_ev (wn rfl) (ev_pickT rfl hc6 rfl) F rfl rfl ?_; clear F a; intro a F
             obtain rfl := sinj hm
             refine wq_nil ?_; exact F.sub ⟨rfl, rfl, rfl, rfl, rfl, rfl, rfl, trivial⟩
            ·refine wq_skip rfl rfl rfl rfl (ne_tf hc6) F rfl rfl ?_; clear F a; intro a F
             refine wq_skip rfl rfl rfl rfl (ne_tf hc6) F rfl rfl ?_; clear F a; intro a F
             refine wq_skip rfl rfl rfl rfl (ne_tf hc6) F rfl rfl ?_; clear F a; intro a F
             refine wq_skip rfl rfl rfl rfl (ne_tf hc6) F rfl rfl ?_; clear F a; intro a F
             refine wq_skip rfl rfl rfl rfl (ne_tf hc6) F rfl rfl ?_; clear F a; intro a F
             refine wq_skip rfl rfl rfl rfl (ne_tf hc6) F rfl rfl ?_; clear F a; intro a F
             refine wq_skip rfl rfl rfl rfl (ne_tf hc6) F rfl rfl ?_; clear F a; intro a F
             refine wq_skip rfl rfl rfl rfl (ne_tf hc6) F rfl rfl ?_; clear F a; intro a F
             refine wq_skip rfl rfl rfl rfl (ne_tf hc6) F rfl rfl ?_; clear F a; intro a F
             refine wq_skip rfl rfl rfl rfl (ne_tf hc6) F rfl rfl ?_; clear F a; intro a F
             refine wq_skip rfl rfl rfl rfl (ne_tf hc6) F rfl rfl ?_; clear F a; intro a F
             refine wq_skip rfl rfl rfl rfl (ne_tf hc6) F rfl rfl ?_; clear F a; intro a F
             refine wq_ev (wn rfl) (ev_pickF rfl hc6 rfl) F rfl rfl ?_; clear F a; intro a F
             obtain rfl := sinj hm
             refine wq_nil ?_; exact F.sub ⟨rfl, rfl, rfl, rfl, rfl, rfl, rfl, trivial⟩
           clear F; intro a F
           refine wq_nil ?_; clear S; intro w S
           refine then_n ?_
           obtain ⟨hc7, hm⟩ | ⟨hc7, hm⟩ := ite_or hm
           ·refine wp_condT F rfl hc7 ?_
            refine wp_skip ?_
            refine then_n ?_
            refine wp_block ?_
            refine wp_seq ?_
            refine wp_region_lit ?_
            refine wE (ev_move rfl) F S rfl fun a F=>?_
            refine wE (ev_move rfl) F S rfl fun a F=>?_
            refine wE (ev_move rfl) F S rfl fun a F=>?_
            refine wE (ev_move rfl) F S rfl fun a F=>?_
            obtain ⟨z3, hz3, hm⟩ := bind_some hm
            refine wE (ev_int rfl rfl (bo_sub hz3)) F S rfl fun a F=>?_
            obtain ⟨y15, hy15, hm⟩ := bind_some hm
            refine wE (ev_idxO h13 hy15 tu22 ts35 rfl rfl) F S rfl fun a F=>?_
            obtain ⟨cs8, hr10, hq5⟩ := elemO h13 hy15
            obtain ⟨v15, rfl, h16⟩ := rep_VersionedValue hr10
            refine wE (ev_loadA tu35 rfl (cs := [.i6 y15.Value, v15]) ts35 rfl (hq5 _ _ 0 rfl)) F S rfl fun a F=>?_
            obtain ⟨y16, hy16, hm⟩ := bind_some hm
            refine wE (ev_idxO h13 hy16 tu22 ts35 rfl rfl) F S rfl fun a F=>?_
            obtain ⟨y17, hy17, hm⟩ := bind_some hm
            refine wl_storeW (z' := y15) (wn rfl) rfl F S h13 hy16 rfl rfl (us := [.i6 y15.Value, v15]) rfl ts35 (one_cons rfl (one_cons h16.one one_nil)) (k := 0) rfl rfl (rep_VersionedValue_mk (x := y15) h16) rfl ?_; clear S
            rintro c12 w h17 S; replace S : St g10 [c12, c3, [bx b1 #[.i6 0, .i6 0] 24]] fr w := S; replace h17 : OwnS g10 y17 v12 c12 := sinj hy17 ▸ h17
            replace F := F.sub (e' := [(125, elemP v12 x10 2), (124, .agg #[.i6 y15.Value, v15]), (122, .i6 z3), (121, .i6 x10), (120, v12), (119, .i6 x10), (118, v12), (117, .bool x12), (9, v12), (15, .i6 x10), (10, .i6 x2), (8, v3), (5, bp b1 0), (0, va_1)]) ⟨rfl, rfl, rfl, rfl, rfl, rfl, rfl, rfl, rfl, rfl, rfl, rfl, rfl, rfl, trivial⟩
            refine wpList_nil ?_
            refine then_n ?_
            refine wp_region_lit ?_
            refine wE (ev_move rfl) F S rfl fun a F=>?_
            obtain ⟨z4, hz4, hm⟩ := bind_some hm
            refine wE (ev_int rfl rfl (bo_sub hz4)) F S rfl fun a F=>?_
            refine wE (ev_assign rfl) F S rfl fun a F=>?_
            refine wpList_nil ?_
            refine inb_n ?_
            refine then_n ?_
            obtain rfl := sinj hm
            refine ⟨_, rfl, ?_⟩
            dsimp only
            exact ⟨v12, c12, g10, F.sub ⟨rfl, rfl, rfl, rfl, rfl, rfl, trivial⟩, l10, S, h17⟩
           ·refine wp_condF F rfl hc7 ?_
            refine wp_exit ?_
            refine then_e ?_
            refine then_e ?_
            refine inb_x ?_
            refine then_n ?_
            obtain rfl := sinj hm
            obtain rfl := hfin2 _ rfl
            clear hm
            have hm : (changeforgeref2_MergedValues.j4 y5 x2 x9 x10 : Option (Step (Int × (List VersionedValue)) (((List VersionedValue) × Fault) ⊕ (List VersionedValue)))) = some _ := hmo2
            exact ⟨x9, x10, v12, c11, g10, F.sub ⟨rfl, rfl, rfl, rfl, rfl, rfl, trivial⟩, l10, S, h13, hm⟩
         ·clear F S hm; rintro a w ⟨x7, x8, v10, c9, g9, F, l9, S, h10, hm⟩
          refine wp_region_lit ?_
          refine wE (ev_move rfl) F S rfl fun a F=>?_
          refine wE (ev_move rfl) F S rfl fun a F=>?_
          refine wE (ev_move rfl) F S rfl fun a F=>?_
          refine wE (ev_move rfl) F S rfl fun a F=>?_
          obtain ⟨y9, hy9, hm⟩ := bind_some hm
          refine wE (ev_idxO (h3.mono ((l6.trans l8).trans l9)) hy9 tu22 ts35 rfl rfl) F S rfl fun a F=>?_
          obtain ⟨cs5, hr6, hq2⟩ := elemO (h3.mono ((l6.trans l8).trans l9)) hy9
          obtain ⟨v11, rfl, h11⟩ := rep_VersionedValue hr6
          refine wE (ev_loadA tu35 rfl (cs := [.i6 y9.Value, v11]) ts35 rfl (hq2 _ _ 1 rfl)) F S rfl fun a F=>?_
          obtain ⟨y10, hy10, hm⟩ := bind_some hm
          refine wE (ev_idxO h10 hy10 tu22 ts35 rfl rfl) F S rfl fun a F=>?_
          obtain ⟨y11, hy11, hm⟩ := bind_some hm
          refine wl_storeW (z' := y9) (wn rfl) rfl F S h10 hy10 rfl rfl (us := [.i6 y9.Value, v11]) rfl ts35 (one_cons rfl (one_cons h11.one one_nil)) (k := 0) rfl rfl (rep_VersionedValue_mk (x := y9) h11) rfl ?_; clear S
          rintro c10 w h12 S; replace S : St g9 [c10, c3, [bx b1 #[.i6 0, .i6 0] 24]] fr w := S; replace h12 : OwnS g9 y11 v10 c10 := sinj hy11 ▸ h12
          refine wpList_nil ?_
          refine inb_n ?_
          refine then_n ?_
          exact ⟨y11, v10, c10, g9, F.sub ⟨rfl, rfl, rfl, rfl, rfl, trivial⟩, (l8.trans l9), S, h12, hm⟩
      ·clear F S hm; rintro a w ⟨x5, v6, c6, g7, F, l7, S, h6, hm⟩
       refine wp_region_lit ?_
       refine wE (ev_move rfl) F S rfl fun a F=>?_
       obtain ⟨z1, hz1, hm⟩ := bind_some hm
       refine wE (ev_int rfl rfl (bo_add hz1)) F S rfl fun a F=>?_
       refine wE (ev_assign rfl) F S rfl fun a F=>?_
       refine wpList_nil ?_
       refine then_n ?_
       obtain rfl := sinj hm
       refine ⟨_, rfl, ?_⟩
       dsimp only
       exact ⟨v6, c6, g7, F.sub ⟨rfl, rfl, rfl, rfl, rfl, trivial⟩, (l6.trans l7), S, h6⟩
     ·refine wp_condF F rfl hc4 ?_
      refine wp_exit ?_
      refine then_e ?_
      refine then_e ?_
      refine inb_x ?_
      refine then_n ?_
      obtain rfl := sinj hm
      obtain rfl := hfin1 _ rfl
      clear hm
      have hm : (changeforgeref2_MergedValues.j1 x3 : Option ((List VersionedValue) × Fault)) = some _ := hmo1
      replace S : St g6 [c5, [bx b1 #[.i6 0, .i6 0] 24]] fr w := St.tail [c5, [bx b1 #[.i6 0, .i6 0] 24]] _ ((S.frontC 2 rfl).frontC 1 rfl)
      exact ⟨x3, v5, c5, g6, F.sub ⟨rfl, rfl, trivial⟩, l6, S, h5, hm⟩
   ·clear F S hm; rintro a w ⟨x1, v4, c4, g4, F, l4, S, h4, hm⟩
    refine wp_seq ?_
    refine wp_seq ?_
    refine wp_region_lit ?_
    refine wE (ev_move rfl) F S rfl fun a F=>?_
    refine wE (ev_lenOw h4 rfl tu22) F S rfl fun a F=>?_
    refine wE (ev_int rfl rfl (bo_gtr _ _ _ _)) F S rfl fun a F=>?_
    refine wpList_nil ?_
    refine then_n ?_
    obtain ⟨hc3, hm⟩ | ⟨hc3, hm⟩ := ite_or hm
    ·refine wp_condT F rfl hc3 ?_
     refine wp_seq ?_
     refine wp_region_lit ?_
     obtain ⟨y6, hy6, hm⟩ := bind_some hm
     refine wl_call0 (wn rfl) rfl F rfl (changeforgeref1_At_ok (fr := (fl [c4, [bx b1 #[.i6 0, .i6 0] 24]] fr)) 10 (-1) S hy6) rfl tc19 rfl rfl ?_; clear F a S
     rintro _ a w ⟨g5, l5, S, rfl⟩ F; replace S : St g5 [c4, [bx b1 #[.i6 0, .i6 0] 24]] fr w := S
     refine wE (ev_assign rfl) F S rfl fun a F=>?_
     refine wl_storeC (wn rfl) rfl F S rfl rfl (vs := [.i6 y6.Code, .i6 y6.Index]) rfl ts24 (one_cons rfl (one_cons rfl one_nil)) (k := 1) rfl (lb rfl) (c' := #[.i6 y6.Code, .i6 y6.Index]) rfl rfl ?_; clear S; intro w S
     refine wpList_nil ?_
     refine then_n ?_
     refine wp_ret ?_
     refine then_r ?_
     obtain rfl := sinj hm
     replace S : St g5 [[], c4, [bx b1 #[.i6 y6.Code, .i6 y6.Index] 24]] fr w := S
     refine post_r _ F rfl (ar_cons (resT rfl) (ar_cons (resA rfl tu24 rfl (box_ptr (cells := [.i6 y6.Code, .i6 y6.Index]) 2 rfl 0 rfl (lb rfl) w S) ts24) ar_nil)) ?_
     replace S : St g5 [[]] fr w := St.tail [[]] _ (S.frontC 0 rfl)
     exact ⟨_, rfl, g5, (nilS), [], (((l1.trans l2).trans l4).trans l5), S, (OwnS.nil _), rfl⟩
    ·refine wp_condF F rfl hc3 ?_
     refine wp_skip ?_
     refine then_n ?_
     refine wp_seq ?_
     refine wp_region_lit ?_
     refine wE (ev_move rfl) F S rfl fun a F=>?_
     refine wE (ev_build (parts := []) (vs := []) rfl (fun w => tb24_  w)) F S rfl fun a F=>?_
     refine wE (ev_assign rfl) F S rfl fun a F=>?_
     refine wl_storeC (wn rfl) rfl F S rfl rfl (vs := [.i6 0, .i6 0]) rfl ts24 (one_cons rfl (one_cons rfl one_nil)) (k := 1) rfl (lb rfl) (c' := #[.i6 0, .i6 0]) rfl rfl ?_; clear S; intro w S
     refine wpList_nil ?_
     refine then_n ?_
     refine wp_ret ?_
     obtain rfl := sinj hm
     refine post_r _ F rfl (ar_cons (resT rfl) (ar_cons (resA rfl tu24 rfl (box_ptr (cells := [.i6 0, .i6 0]) 1 rfl 0 rfl (lb rfl) w S) ts24) ar_nil)) ?_
     replace S : St g4 [c4] fr w := St.tail [c4] _ (S.frontC 0 rfl)
     exact ⟨_, rfl, g4, v4, c4, ((l1.trans l2).trans l4), S, h4, rfl⟩

theorem changeforgelaw2_MultivalueMatchesSpec_ok {g : Gh} {fr : Hl} {w : World} {r : Bool} (a_ : (List VersionedValue)) (va_1 : Value) (ha_1 : RepSl g a_ va_1) (b_ : (List VersionedValue)) (vb_1 : Value) (hb_1 : RepSl g b_ vb_1) (replica : Int) (value : Int) (S : St g [] fr w) (hm : changeforgelaw2_MultivalueMatchesSpec a_ b_ replica value = some r) :
  Calls Try.prog 3 [va_1, vb_1, .i6 replica, .i6 value].toArray w (fun en w' => ∃ v, en = .returned v ∧ ∃ (g' : Gh), Le g g' ∧ St g' [] fr w' ∧ .bool r = v) := by
 unfold changeforgelaw2_MultivalueMatchesSpec at hm
 refine calls_enter (fn := Try.f3) Try.func3 rfl Try.ntmps3 (lb rfl) ?_
 intro a F
 replace F : Fr 71 a [(0, va_1), (1, vb_1), (2, .i6 replica), (3, .i6 value)] := F
 refine wp_seq ?_
 refine wp_region_lit ?_
 refine wE (ev_assign rfl) F S rfl fun a F=>?_
 refine wpList_nil ?_
 refine then_n ?_
 refine wp_seq ?_
 refine wp_region_lit ?_
 refine wE (ev_move rfl) F S rfl fun a F=>?_
 refine wE (ev_move rfl) F S rfl fun a F=>?_
 refine wE (ev_move rfl) F S rfl fun a F=>?_
 obtain ⟨y1, hy1, hm⟩ := bind_some hm
 refine wl_call0 (wn rfl) rfl F rfl (multivalue_Write_ok a_ va_1 ha_1 replica value S hy1) rfl tc9 rfl rfl ?_; clear F a S
 rintro _ a w ⟨g1, v1, c1, l1, S, h1, rfl⟩ F; replace S : St g1 [c1] fr w := S
 refine wE (ev_move rfl) F S rfl fun a F=>?_
 refine wE (ev_extract rfl rfl) F S rfl fun a F=>?_
 refine wE (ev_extract rfl rfl) F S rfl fun a F=>?_
 refine wl_alloc (wn rfl) rfl tz24 (cs := [.i6 0, .i6 0]) rfl F S rfl rfl ?_; clear F a S; rintro b1 a w F S
 refine wE (ev_assign rfl) F S rfl fun a F=>?_
 refine wl_storeC (wn rfl) rfl F S rfl rfl (vs := [.i6 y1.2.Code, .i6 y1.2.Index]) rfl ts24 (one_cons rfl (one_cons rfl one_nil)) (k := 0) rfl (lb rfl) (c' := #[.i6 y1.2.Code, .i6 y1.2.Index]) rfl rfl ?_; clear S; intro w S
 refine wpList_nil ?_
 refine then_n ?_
 refine wp_seq ?_
 refine wp_region_lit ?_
 refine wE (ev_move rfl) F S rfl fun a F=>?_
 refine wE (ev_move rfl) F S rfl fun a F=>?_
 refine wE (ev_move rfl) F S rfl fun a F=>?_
 obtain ⟨y2, hy2, hm⟩ := bind_some hm
 refine wl_call0 (wn rfl) rfl F rfl (changeforgeref2_Written_ok (fr := (fl [[bx b1 #[.i6 y1.2.Code, .i6 y1.2.Index] 24], c1] fr)) a_ va_1 (ha_1.mono l1) replica value S hy2) rfl tc10 rfl rfl ?_; clear F a S
 rintro _ a w ⟨g2, v2, c2, l2, S, h2, rfl⟩ F; replace S : St g2 [c2, [bx b1 #[.i6 y1.2.Code, .i6 y1.2.Index] 24], c1] fr w := S
 refine wE (ev_move rfl) F S rfl fun a F=>?_
 refine wE (ev_extract rfl rfl) F S rfl fun a F=>?_
 refine wE (ev_extract rfl rfl) F S rfl fun a F=>?_
 refine wl_alloc (wn rfl) rfl tz24 (cs := [.i6 0, .i6 0]) rfl F S rfl rfl ?_; clear F a S; rintro b2 a w F S
 refine wE (ev_assign rfl) F S rfl fun a F=>?_
 refine wl_storeC (wn rfl) rfl F S rfl rfl (vs := [.i6 y2.2.Code, .i6 y2.2.Index]) rfl ts24 (one_cons rfl (one_cons rfl one_nil)) (k := 0) rfl (lb rfl) (c' := #[.i6 y2.2.Code, .i6 y2.2.Index]) rfl rfl ?_; clear S; intro w S
 refine wpList_nil ?_
 refine then_n ?_
 refine wp_seq ?_
 refine wp_region_lit ?_
 refine wE (ev_move rfl) F S rfl fun a F=>?_
 refine wE (ev_move rfl) F S rfl fun a F=>?_
 obtain ⟨y3, hy3, hm⟩ := bind_some hm
 refine wl_call0 (wn rfl) rfl F rfl (multivalue_Merge_ok (fr := (fl [[bx b2 #[.i6 y2.2.Code, .i6 y2.2.Index] 24], c2, [bx b1 #[.i6 y1.2.Code, .i6 y1.2.Index] 24], c1] fr)) a_ va_1 (ha_1.mono (l1.trans l2)) b_ vb_1 (hb_1.mono (l1.trans l2)) S hy3) rfl tc11 rfl rfl ?_; clear F a S
 rintro _ a w ⟨g3, v3, c3, l3, S, h3, rfl⟩ F; replace S : St g3 [c3, [bx b2 #[.i6 y2.2.Code, .i6 y2.2.Index] 24], c2, [bx b1 #[.i6 y1.2.Code, .i6 y1.2.Index] 24], c1] fr w := S
 refine wE (ev_move rfl) F S rfl fun a F=>?_
 refine wE (ev_extract rfl rfl) F S rfl fun a F=>?_
 refine wE (ev_extract rfl rfl) F S rfl fun a F=>?_
 refine wl_alloc (wn rfl) rfl tz24 (cs := [.i6 0, .i6 0]) rfl F S rfl rfl ?_; clear F a S; rintro b3 a w F S
 refine wE (ev_assign rfl) F S rfl fun a F=>?_
 refine wl_storeC (wn rfl) rfl F S rfl rfl (vs := [.i6 y3.2.Code, .i6 y3.2.Index]) rfl ts24 (one_cons rfl (one_cons rfl one_nil)) (k := 0) rfl (lb rfl) (c' := #[.i6 y3.2.Code, .i6 y3.2.Index]) rfl rfl ?_; clear S; intro w S
 refine wpList_nil ?_
 refine then_n ?_
 refine wp_seq ?_
 refine wp_region_lit ?_
 refine wE (ev_move rfl) F S rfl fun a F=>?_
 refine wE (ev_move rfl) F S rfl fun a F=>?_
 obtain ⟨y4, hy4, hm⟩ := bind_some hm
 refine wl_call0 (wn rfl) rfl F rfl (changeforgeref2_MergedValues_ok (fr := (fl [[bx b3 #[.i6 y3.2.Code, .i6 y3.2.Index] 24], c3, [bx b2 #[.i6 y2.2.Code, .i6 y2.2.Index] 24], c2, [bx b1 #[.i6 y1.2.Code, .i6 y1.2.Index] 24], c1] fr)) a_ va_1 (ha_1.mono ((l1.trans l2).trans l3)) b_ vb_1 (hb_1.mono ((l1.trans l2).trans l3)) S hy4) rfl tc12 rfl rfl ?_; clear F a S
 rintro _ a w ⟨g4, v4, c4, l4, S, h4, rfl⟩ F; replace S : St g4 [c4, [bx b3 #[.i6 y3.2.Code, .i6 y3.2.Index] 24], c3, [bx b2 #[.i6 y2.2.Code, .i6 y2.2.Index] 24], c2, [bx b1 #[.i6 y1.2.Code, .i6 y1.2.Index] 24], c1] fr w := S
 refine wE (ev_move rfl) F S rfl fun a F=>?_
 refine wE (ev_extract rfl rfl) F S rfl fun a F=>?_
 refine wE (ev_extract rfl rfl) F S rfl fun a F=>?_
 refine wl_alloc (wn rfl) rfl tz24 (cs := [.i6 0, .i6 0]) rfl F S rfl rfl ?_; clear F a S; rintro b4 a w F S
 refine wE (ev_assign rfl) F S rfl fun a F=>?_
 refine wl_storeC (wn rfl) rfl F S rfl rfl (vs := [.i6 y4.2.Code, .i6 y4.2.Index]) rfl ts24 (one_cons rfl (one_cons rfl one_nil)) (k := 0) rfl (lb rfl) (c' := #[.i6 y4.2.Code, .i6 y4.2.Index]) rfl rfl ?_; clear S; intro w S
 refine wpList_nil ?_
 refine then_n ?_
 refine wp_seq ?_
 refine wp_region_lit ?_
 refine wE (ev_move rfl) F S rfl fun a F=>?_
 obtain ⟨y5, hy5, hm⟩ := bind_some hm
 refine wl_call0 (wn rfl) rfl F rfl (multivalue_Validate_ok (fr := (fl [[bx b4 #[.i6 y4.2.Code, .i6 y4.2.Index] 24], c4, [bx b3 #[.i6 y3.2.Code, .i6 y3.2.Index] 24], c3, [bx b2 #[.i6 y2.2.Code, .i6 y2.2.Index] 24], c2, [bx b1 #[.i6 y1.2.Code, .i6 y1.2.Index] 24], c1] fr)) a_ va_1 (ha_1.mono (((l1.trans l2).trans l3).trans l4)) S hy5) rfl tc13 rfl rfl ?_; clear F a S
 rintro _ a w ⟨g5, l5, S, rfl⟩ F; replace S : St g5 [[bx b4 #[.i6 y4.2.Code, .i6 y4.2.Index] 24], c4, [bx b3 #[.i6 y3.2.Code, .i6 y3.2.Index] 24], c3, [bx b2 #[.i6 y2.2.Code, .i6 y2.2.Index] 24], c2, [bx b1 #[.i6 y1.2.Code, .i6 y1.2.Index] 24], c1] fr w := S
 refine wE (ev_move rfl) F S rfl fun a F=>?_
 obtain ⟨y6, hy6, hm⟩ := bind_some hm
 refine wl_call0 (wn rfl) rfl F rfl (changeforgeref2_ValuesFault_ok (fr := (fl [[bx b4 #[.i6 y4.2.Code, .i6 y4.2.Index] 24], c4, [bx b3 #[.i6 y3.2.Code, .i6 y3.2.Index] 24], c3, [bx b2 #[.i6 y2.2.Code, .i6 y2.2.Index] 24], c2, [bx b1 #[.i6 y1.2.Code, .i6 y1.2.Index] 24], c1] fr)) a_ va_1 (ha_1.mono ((((l1.trans l2).trans l3).trans l4).trans l5)) S hy6) rfl tc14 rfl rfl ?_; clear F a S
 rintro _ a w ⟨g6, l6, S, rfl⟩ F; replace S : St g6 [[bx b4 #[.i6 y4.2.Code, .i6 y4.2.Index] 24], c4, [bx b3 #[.i6 y3.2.Code, .i6 y3.2.Index] 24], c3, [bx b2 #[.i6 y2.2.Code, .i6 y2.2.Index] 24], c2, [bx b1 #[.i6 y1.2.Code, .i6 y1.2.Index] 24], c1] fr w := S
 refine wE (ev_eqS tu24 tqa24 tqb24 tqc24 (xs := [.i6 y5.Code, .i6 y5.Index]) (ys := [.i6 y6.Code, .i6 y6.Index]) rfl rfl ⟨_, _, rfl, by decide, ⟨_, _, rfl, rfl, leaf_int tu3⟩, ⟨_, _, rfl, by decide, ⟨_, _, rfl, rfl, leaf_int tu3⟩, rfl⟩⟩) F S rfl fun a F=>?_
 refine wE (ev_move rfl) F S rfl fun a F=>?_
 obtain ⟨g7, l7, S, h5⟩ : ∃ gz, Le g6 gz ∧ St gz [[bx b4 #[.i6 y4.2.Code, .i6 y4.2.Index] 24], c4, [bx b3 #[.i6 y3.2.Code, .i6 y3.2.Index] 24], c3, [bx b2 #[.i6 y2.2.Code, .i6 y2.2.Index] 24], [bx b1 #[.i6 y1.2.Code, .i6 y1.2.Index] 24], c1] fr w ∧ RepSl gz y2.1 v2 := ⟨_, Le.add _ _, S.freeze 5 rfl, OwnS.freeze (S.front 5 rfl) (h2.mono (((l3.trans l4).trans l5).trans l6))⟩
 obtain ⟨g8, l8, S, h6⟩ : ∃ gz, Le g7 gz ∧ St gz [[bx b4 #[.i6 y4.2.Code, .i6 y4.2.Index] 24], c4, [bx b3 #[.i6 y3.2.Code, .i6 y3.2.Index] 24], c3, [bx b2 #[.i6 y2.2.Code, .i6 y2.2.Index] 24], [bx b1 #[.i6 y1.2.Code, .i6 y1.2.Index] 24]] fr w ∧ RepSl gz y1.1 v1 := ⟨_, Le.add _ _, S.freeze 6 rfl, OwnS.freeze (S.front 6 rfl) (h1.mono (((((l2.trans l3).trans l4).trans l5).trans l6).trans l7))⟩
 obtain ⟨x1, hx1, hm⟩ := bind_some hm
 refine wl_cut 4 (fun a w => ∃ g9, Fr 71 a [(52, .bool x1), (15, v4), (16, bp b4 0), (13, v3), (14, bp b3 0), (12, bp b2 0), (10, bp b1 0), (8, .bool false)] ∧ Le g8 g9 ∧ St g9 [[bx b4 #[.i6 y4.2.Code, .i6 y4.2.Index] 24], c4, [bx b3 #[.i6 y3.2.Code, .i6 y3.2.Index] 24], c3, [bx b2 #[.i6 y2.2.Code, .i6 y2.2.Index] 24], [bx b1 #[.i6 y1.2.Code, .i6 y1.2.Index] 24]] fr w) ?_ ?_
 ·clear hm; obtain ⟨hc1, hm⟩ | ⟨hc1, hm⟩ := ite_or hx1
  ·refine wl_ev (wg F rfl rfl rfl rfl hc1) (ev_move rfl) F S rfl rfl ?_; clear F a; intro a F
   refine wl_ev (wg F rfl rfl rfl rfl hc1) (ev_move rfl) F S rfl rfl ?_; clear F a; intro a F
   obtain ⟨y7, hy7, hm⟩ := bind_some hm
   refine wl_call0 (wg F rfl rfl rfl rfl hc1) rfl F rfl (changeforgeequal_Values_ok (fr := (fl [[bx b4 #[.i6 y4.2.Code, .i6 y4.2.Index] 24], c4, [bx b3 #[.i6 y3.2.Code, .i6 y3.2.Index] 24], c3, [bx b2 #[.i6 y2.2.Code, .i6 y2.2.Index] 24], [bx b1 #[.i6 y1.2.Code, .i6 y1.2.Index] 24]] fr)) y1.1 v1 h6 y2.1 v2 (h5.mono l8) S hy7) rfl tc15 rfl rfl ?_; clear F a S
   rintro _ a w ⟨g10, l10, S, rfl⟩ F; replace S : St g10 [[bx b4 #[.i6 y4.2.Code, .i6 y4.2.Index] 24], c4, [bx b3 #[.i6 y3.2.Code, .i6 y3.2.Index] 24], c3, [bx b2 #[.i6 y2.2.Code, .i6 y2.2.Index] 24], [bx b1 #[.i6 y1.2.Code, .i6 y1.2.Index] 24]] fr w := S
   refine wE (ev_pickT rfl hc1 rfl) F S rfl fun a F=>?_
   obtain rfl := sinj hm
   refine wpList_nil (then_n ?_); exact ⟨g10, F.sub ⟨rfl, rfl, rfl, rfl, rfl, rfl, rfl, rfl, trivial⟩, l10, S⟩
  ·refine wl_skip rfl rfl rfl rfl (ne_tf hc1) F rfl rfl ?_; clear F a; intro a F
   refine wl_skip rfl rfl rfl rfl (ne_tf hc1) F rfl rfl ?_; clear F a; intro a F
   refine wl_skip rfl rfl rfl rfl (ne_tf hc1) F rfl rfl ?_; clear F a; intro a F
   refine wE (ev_pickF rfl hc1 rfl) F S rfl fun a F=>?_
   obtain rfl := sinj hm
   refine wpList_nil (then_n ?_); exact ⟨g8, F.sub ⟨rfl, rfl, rfl, rfl, rfl, rfl, rfl, rfl, trivial⟩, (Le.refl _), S⟩
 clear F S; rintro a w ⟨g9, F, l9, S⟩
 refine wE (ev_move rfl) F S rfl fun a F=>?_
 obtain ⟨x2, hx2, hm⟩ := bind_some hm
 refine wl_cut 4 (fun a w' => w = w' ∧ Fr 71 a [(57, .bool x2), (15, v4), (16, bp b4 0), (13, v3), (14, bp b3 0), (8, .bool false)]) ?_ ?_
 ·clear hm; obtain ⟨hc2, hm⟩ | ⟨hc2, hm⟩ := ite_or hx2
  ·refine wl_ev (wg F rfl rfl rfl rfl hc2) (ev_loadA tu24 rfl (cs := [.i6 y1.2.Code, .i6 y1.2.Index]) ts24 rfl (box_ptr (cells := [.i6 y1.2.Code, .i6 y1.2.Index]) 5 rfl 0 rfl (lb rfl))) F S rfl rfl ?_; clear F a; intro a F
   refine wl_ev (wg F rfl rfl rfl rfl hc2) (ev_loadA tu24 rfl (cs := [.i6 y2.2.Code, .i6 y2.2.Index]) ts24 rfl (box_ptr (cells := [.i6 y2.2.Code, .i6 y2.2.Index]) 4 rfl 0 rfl (lb rfl))) F S rfl rfl ?_; clear F a; intro a F
   refine wl_ev (wg F rfl rfl rfl rfl hc2) (ev_eqS tu24 tqa24 tqb24 tqc24 (xs := [.i6 y1.2.Code, .i6 y1.2.Index]) (ys := [.i6 y2.2.Code, .i6 y2.2.Index]) rfl rfl ⟨_, _, rfl, by decide, ⟨_, _, rfl, rfl, leaf_int tu3⟩, ⟨_, _, rfl, by decide, ⟨_, _, rfl, rfl, leaf_int tu3⟩, rfl⟩⟩) F S rfl rfl ?_; clear F a; intro a F
   refine wE (ev_pickT rfl hc2 rfl) F S rfl fun a F=>?_
   obtain rfl := sinj hm
   refine wpList_nil (then_n ?_); exact ⟨rfl, F.sub ⟨rfl, rfl, rfl, rfl, rfl, rfl, trivial⟩⟩
  ·refine wl_skip rfl rfl rfl rfl (ne_tf hc2) F rfl rfl ?_; clear F a; intro a F
   refine wl_skip rfl rfl rfl rfl (ne_tf hc2) F rfl rfl ?_; clear F a; intro a F
   refine wl_skip rfl rfl rfl rfl (ne_tf hc2) F rfl rfl ?_; clear F a; intro a F
   refine wE (ev_pickF rfl hc2 rfl) F S rfl fun a F=>?_
   obtain rfl := sinj hm
   refine wpList_nil (then_n ?_); exact ⟨rfl, F.sub ⟨rfl, rfl, rfl, rfl, rfl, rfl, trivial⟩⟩
 clear F; rintro a w' ⟨rfl, F⟩
 refine wE (ev_move rfl) F S rfl fun a F=>?_
 obtain ⟨g11, l11, S, h7⟩ : ∃ gz, Le g9 gz ∧ St gz [[bx b4 #[.i6 y4.2.Code, .i6 y4.2.Index] 24], [bx b3 #[.i6 y3.2.Code, .i6 y3.2.Index] 24], c3, [bx b2 #[.i6 y2.2.Code, .i6 y2.2.Index] 24], [bx b1 #[.i6 y1.2.Code, .i6 y1.2.Index] 24]] fr w ∧ RepSl gz y4.1 v4 := ⟨_, Le.add _ _, S.freeze 1 rfl, OwnS.freeze (S.front 1 rfl) (h4.mono ((((l5.trans l6).trans l7).trans l8).trans l9))⟩
 obtain ⟨g12, l12, S, h8⟩ : ∃ gz, Le g11 gz ∧ St gz [[bx b4 #[.i6 y4.2.Code, .i6 y4.2.Index] 24], [bx b3 #[.i6 y3.2.Code, .i6 y3.2.Index] 24], [bx b2 #[.i6 y2.2.Code, .i6 y2.2.Index] 24], [bx b1 #[.i6 y1.2.Code, .i6 y1.2.Index] 24]] fr w ∧ RepSl gz y3.1 v3 := ⟨_, Le.add _ _, S.freeze 2 rfl, OwnS.freeze (S.front 2 rfl) (h3.mono ((((((l4.trans l5).trans l6).trans l7).trans l8).trans l9).trans l11))⟩
 obtain ⟨x3, hx3, hm⟩ := bind_some hm
 refine wl_cut 4 (fun a w => ∃ g13, Fr 71 a [(62, .bool x3), (16, bp b4 0), (14, bp b3 0), (8, .bool false)] ∧ Le g12 g13 ∧ St g13 [[bx b4 #[.i6 y4.2.Code, .i6 y4.2.Index] 24], [bx b3 #[.i6 y3.2.Code, .i6 y3.2.Index] 24], [bx b2 #[.i6 y2.2.Code, .i6 y2.2.Index] 24], [bx b1 #[.i6 y1.2.Code, .i6 y1.2.Index] 24]] fr w) ?_ ?_
 ·clear hm; obtain ⟨hc3, hm⟩ | ⟨hc3, hm⟩ := ite_or hx3
  ·refine wl_ev (wg F rfl rfl rfl rfl hc3) (ev_move rfl) F S rfl rfl ?_; clear F a; intro a F
   refine wl_ev (wg F rfl rfl rfl rfl hc3) (ev_move rfl) F S rfl rfl ?_; clear F a; intro a F
   obtain ⟨y8, hy8, hm⟩ := bind_some hm
   refine wl_call0 (wg F rfl rfl rfl rfl hc3) rfl F rfl (changeforgeequal_Values_ok (fr := (fl [[bx b4 #[.i6 y4.2.Code, .i6 y4.2.Index] 24], [bx b3 #[.i6 y3.2.Code, .i6 y3.2.Index] 24], [bx b2 #[.i6 y2.2.Code, .i6 y2.2.Index] 24], [bx b1 #[.i6 y1.2.Code, .i6 y1.2.Index] 24]] fr)) y3.1 v3 h8 y4.1 v4 (h7.mono l12) S hy8) rfl tc15 rfl rfl ?_; clear F a S
   rintro _ a w ⟨g14, l14, S, rfl⟩ F; replace S : St g14 [[bx b4 #[.i6 y4.2.Code, .i6 y4.2.Index] 24], [bx b3 #[.i6 y3.2.Code, .i6 y3.2.Index] 24], [bx b2 #[.i6 y2.2.Code, .i6 y2.2.Index] 24], [bx b1 #[.i6 y1.2.Code, .i6 y1.2.Index] 24]] fr w := S
   refine wE (ev_pickT rfl hc3 rfl) F S rfl fun a F=>?_
   obtain rfl := sinj hm
   refine wpList_nil (then_n ?_); exact ⟨g14, F.sub ⟨rfl, rfl, rfl, rfl, trivial⟩, l14, S⟩
  ·refine wl_skip rfl rfl rfl rfl (ne_tf hc3) F rfl rfl ?_; clear F a; intro a F
   refine wl_skip rfl rfl rfl rfl (ne_tf hc3) F rfl rfl ?_; clear F a; intro a F
   refine wl_skip rfl rfl rfl rfl (ne_tf hc3) F rfl rfl ?_; clear F a; intro a F
   refine wE (ev_pickF rfl hc3 rfl) F S rfl fun a F=>?_
   obtain rfl := sinj hm
   refine wpList_nil (then_n ?_); exact ⟨g12, F.sub ⟨rfl, rfl, rfl, rfl, trivial⟩, (Le.refl _), S⟩
 clear F S; rintro a w ⟨g13, F, l13, S⟩
 refine wE (ev_move rfl) F S rfl fun a F=>?_
 obtain ⟨x4, hx4, hm⟩ := bind_some hm
 refine wl_cut 4 (fun a w' => w = w' ∧ Fr 71 a [(67, .bool x4), (8, .bool false)]) ?_ ?_
 ·clear hm; obtain ⟨hc4, hm⟩ | ⟨hc4, hm⟩ := ite_or hx4
  ·refine wl_ev (wg F rfl rfl rfl rfl hc4) (ev_loadA tu24 rfl (cs := [.i6 y3.2.Code, .i6 y3.2.Index]) ts24 rfl (box_ptr (cells := [.i6 y3.2.Code, .i6 y3.2.Index]) 1 rfl 0 rfl (lb rfl))) F S rfl rfl ?_; clear F a; intro a F
   refine wl_ev (wg F rfl rfl rfl rfl hc4) (ev_loadA tu24 rfl (cs := [.i6 y4.2.Code, .i6 y4.2.Index]) ts24 rfl (box_ptr (cells := [.i6 y4.2.Code, .i6 y4.2.Index]) 0 rfl 0 rfl (lb rfl))) F S rfl rfl ?_; clear F a; intro a F
   refine wl_ev (wg F rfl rfl rfl rfl hc4) (ev_eqS tu24 tqa24 tqb24 tqc24 (xs := [.i6 y3.2.Code, .i6 y3.2.Index]) (ys := [.i6 y4.2.Code, .i6 y4.2.Index]) rfl rfl ⟨_, _, rfl, by decide, ⟨_, _, rfl, rfl, leaf_int tu3⟩, ⟨_, _, rfl, by decide, ⟨_, _, rfl, rfl, leaf_int tu3⟩, rfl⟩⟩) F S rfl rfl ?_; clear F a; intro a F
   refine wE (ev_pickT rfl hc4 rfl) F S rfl fun a F=>?_
   obtain rfl := sinj hm
   refine wpList_nil (then_n ?_); exact ⟨rfl, F.sub ⟨rfl, rfl, trivial⟩⟩
  ·refine wl_skip rfl rfl rfl rfl (ne_tf hc4) F rfl rfl ?_; clear F a; intro a F
   refine wl_skip rfl rfl rfl rfl (ne_tf hc4) F rfl rfl ?_; clear F a; intro a F
   refine wl_skip rfl rfl rfl rfl (ne_tf hc4) F rfl rfl ?_; clear F a; intro a F
   refine wE (ev_pickF rfl hc4 rfl) F S rfl fun a F=>?_
   obtain rfl := sinj hm
   refine wpList_nil (then_n ?_); exact ⟨rfl, F.sub ⟨rfl, rfl, trivial⟩⟩
 clear F; rintro a w' ⟨rfl, F⟩
 refine wE (ev_move rfl) F S rfl fun a F=>?_
 obtain ⟨x5, hx5, hm⟩ := bind_some hm
 refine wl_cut 2 (fun a w => ∃ g15, Fr 71 a [(70, .bool x5), (8, .bool false)] ∧ Le g13 g15 ∧ St g15 [[bx b4 #[.i6 y4.2.Code, .i6 y4.2.Index] 24], [bx b3 #[.i6 y3.2.Code, .i6 y3.2.Index] 24], [bx b2 #[.i6 y2.2.Code, .i6 y2.2.Index] 24], [bx b1 #[.i6 y1.2.Code, .i6 y1.2.Index] 24]] fr w) ?_ ?_
 ·clear hm; obtain ⟨hc5, hm⟩ | ⟨hc5, hm⟩ := ite_or hx5
  ·obtain ⟨y9, hy9, hm⟩ := bind_some hm
   refine wl_call0 (wg F rfl rfl rfl rfl hc5) rfl F rfl (changeforgelaw2_first_ok (fr := (fl [[bx b4 #[.i6 y4.2.Code, .i6 y4.2.Index] 24], [bx b3 #[.i6 y3.2.Code, .i6 y3.2.Index] 24], [bx b2 #[.i6 y2.2.Code, .i6 y2.2.Index] 24], [bx b1 #[.i6 y1.2.Code, .i6 y1.2.Index] 24]] fr))  S hy9) rfl tc16 rfl rfl ?_; clear F a S
   rintro _ a w ⟨g16, l16, S, rfl⟩ F; replace S : St g16 [[bx b4 #[.i6 y4.2.Code, .i6 y4.2.Index] 24], [bx b3 #[.i6 y3.2.Code, .i6 y3.2.Index] 24], [bx b2 #[.i6 y2.2.Code, .i6 y2.2.Index] 24], [bx b1 #[.i6 y1.2.Code, .i6 y1.2.Index] 24]] fr w := S
   refine wE (ev_pickT rfl hc5 rfl) F S rfl fun a F=>?_
   obtain rfl := sinj hm
   refine wpList_nil (then_n ?_); exact ⟨g16, F.sub ⟨rfl, rfl, trivial⟩, l16, S⟩
  ·refine wl_skip rfl rfl rfl rfl (ne_tf hc5) F rfl rfl ?_; clear F a; intro a F
   refine wE (ev_pickF rfl hc5 rfl) F S rfl fun a F=>?_
   obtain rfl := sinj hm
   refine wpList_nil (then_n ?_); exact ⟨g13, F.sub ⟨rfl, rfl, trivial⟩, (Le.refl _), S⟩
 clear F S; rintro a w ⟨g15, F, l15, S⟩
 refine wE (ev_assign rfl) F S rfl fun a F=>?_
 refine wpList_nil ?_
 refine then_n ?_
 refine wp_ret ?_
 obtain rfl := sinj hm
 refine post_r _ F rfl (ar_cons (resT rfl) ar_nil) ?_
 replace S : St g15 [] fr w := St.tail [] _ S
 exact ⟨_, rfl, g15, ((((((((((((l1.trans l2).trans l3).trans l4).trans l5).trans l6).trans l7).trans l8).trans l9).trans l11).trans l12).trans l13).trans l15), S, rfl⟩
end Go.Dc
