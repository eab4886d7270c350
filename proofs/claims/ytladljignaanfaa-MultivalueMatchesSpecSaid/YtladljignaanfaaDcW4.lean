/- Walks: each function comes to what its model says. -/
import Derived.Test.YtladljignaanfaaDcTab
import Derived.Test.YtladljignaanfaaDcM
import Derived.Test.YtladljignaanfaaDcW1
namespace Go.Dc
open Go Go.Proofs
set_option maxRecDepth 100000
set_option maxHeartbeats 4000000
set_option linter.unusedVariables false
theorem multivalue_left_ok {g : Gh} {fr : Hl} {w : World} {r : (List VersionedValue)} (a_ : (List VersionedValue)) (va_1 : Value) (ha_1 : RepSl g a_ va_1) (b_ : (List VersionedValue)) (vb_1 : Value) (hb_1 : RepSl g b_ vb_1) (S : St g [] fr w) (hm : multivalue_left a_ b_ = some r) :
  Calls Try.prog 21 [va_1, vb_1].toArray w (fun en w' => ∃ v, en = .returned v ∧ ∃ (g' : Gh) (v1 : Value) (c1 : Hl), Le g g' ∧ St g' [c1] fr w' ∧ OwnS g' r v1 c1 ∧ v1 = v) := by
 unfold multivalue_left at hm
 refine calls_enter (fn := Try.f21) Try.func21 rfl Try.ntmps21 (lb rfl) ?_
 intro a F
 replace F : Fr 31 a [(0, va_1), (1, vb_1)] := F
 refine wp_seq ?_
 refine wp_region_lit ?_
 refine wE (ev_assign rfl) F S rfl fun a F=>?_
 refine wpList_nil ?_
 refine then_n ?_
 refine wp_seq ?_
 refine wp_region_lit ?_
 refine wE (ev_assign rfl) F S rfl fun a F=>?_
 refine wpList_nil ?_
 refine then_n ?_
 refine wp_cut (fun a w => ∃ (x1 : List VersionedValue) (v1 : Value) (c1 : Hl) (g1 : Gh), Fr 31 a [(5, v1)] ∧ Le g g1 ∧ St g1 [c1] fr w ∧ OwnS g1 x1 v1 c1 ∧ multivalue_left.j1 x1 = some r) ?_ ?_
 ·refine wp_seq ?_
  refine wp_region_lit ?_
  refine wE (ev_move rfl) F S rfl fun a F=>?_
  refine wE (ev_lenSh ha_1 rfl tu22) F S rfl fun a F=>?_
  refine wE (ev_move rfl) F S rfl fun a F=>?_
  refine wpList_nil ?_
  refine then_n ?_
  refine wp_block ?_
  obtain ⟨r1, hr1, hm⟩ := bind_some hm
  have hmo1 := hm; clear hm
  refine wp_iter (σ := Int × (List VersionedValue)) (ρ := (List VersionedValue)) (m := fun s => multivalue_left.l1 a_ b_ s.1 s.2) (I := fun s a w => match s with | (x2, x3) => ∃ (v2 : Value) (c2 : Hl) (g2 : Gh), Fr 31 a [(11, .i6 x2), (10, .i6 (a_.length : Int)), (9, va_1), (5, v2), (1, vb_1)] ∧ Le g g2 ∧ St g2 [c2] fr w ∧ OwnS g2 x3 v2 c2) hr1 ?_ ?_
  ·dsimp only
   replace S : St g [[]] fr w := S
   exact ⟨(nilS), [], g, F.sub ⟨rfl, rfl, rfl, rfl, rfl, trivial⟩, (Le.refl _), S, (OwnS.nil _)⟩
  ·clear F S; rintro ⟨x2, x3⟩ a w x4 ⟨v2, c2, g2, F, l2, S, h2⟩ hx1 hfin1
   have hm : multivalue_left.l1 a_ b_ x2 x3 = some x4 := hx1; clear hx1
   unfold multivalue_left.l1 at hm
   refine wp_seq ?_
   refine wp_region_lit ?_
   refine wE (ev_int rfl rfl (bo_lss _ _ _ _)) F S rfl fun a F=>?_
   refine wpList_nil ?_
   refine then_n ?_
   refine wp_seq ?_
   obtain ⟨hc1, hm⟩ | ⟨hc1, hm⟩ := ite_or hm
   ·refine wp_condT F rfl hc1 ?_
    refine wp_skip ?_
    refine then_n ?_
    refine wp_cut (fun a w => ∃ (x5 : List VersionedValue) (v3 : Value) (c3 : Hl) (g3 : Gh), Fr 31 a [(5, v3), (11, .i6 x2), (10, .i6 (a_.length : Int)), (9, va_1), (1, vb_1)] ∧ Le g2 g3 ∧ St g3 [c3] fr w ∧ OwnS g3 x5 v3 c3 ∧ multivalue_left.j2 x2 x5 = some x4) ?_ ?_
    ·refine wp_block ?_
     refine wp_seq ?_
     refine wp_region_lit ?_
     obtain ⟨y1, hy1, hm⟩ := bind_some hm
     obtain ⟨cs1, hr2, hp1⟩ := elemS (ha_1.mono l2) hy1
     obtain ⟨v4, rfl, h4⟩ := rep_VersionedValue hr2
     refine wE (ev_idxS (ha_1.mono l2) hy1 tu22 ts35 rfl rfl) F S rfl fun a F=>?_
     refine wE (ev_loadA tu35 rfl (cs := [.i6 y1.Value, v4]) ts35 rfl (ptr_mono (cks := [c2]) (fr := fr) hp1 (Le.refl _))) F S rfl fun a F=>?_
     refine wl_alloc (wn rfl) rfl tz35 (cs := [.i6 0, nilS]) rfl F S rfl rfl ?_; clear F a S; rintro b1 a w F S
     refine wl_storeC (wn rfl) rfl F S rfl rfl (vs := [.i6 y1.Value, v4]) rfl ts35 (one_cons rfl (one_cons h4.one one_nil)) (k := 0) rfl (lb rfl) (c' := #[.i6 y1.Value, v4]) rfl rfl ?_; clear S; intro w S
     refine wpList_nil ?_
     refine then_n ?_
     refine wp_seq ?_
     refine wp_region_lit ?_
     refine wE (ev_move rfl) F S rfl fun a F=>?_
     refine wE (ev_makeFunc (xs := [.tmp 7]) (vs := [bp b1 0]) rfl) F S rfl fun a F=>?_
     replace F := F.sub (e' := [(16, .func (.func 31) #[] #[bp b1 0]), (15, vb_1), (7, bp b1 0), (11, .i6 x2), (10, .i6 (a_.length : Int)), (9, va_1), (5, v2), (1, vb_1)]) ⟨rfl, rfl, rfl, rfl, rfl, rfl, rfl, rfl, trivial⟩
     refine wl_callK (wn rfl) rfl (xs := [.tmp 15, .tmp 16]) (vs := [vb_1, .func (.func 31) #[] #[bp b1 0]]) (cap := []) (e' := [(7, bp b1 0), (11, .i6 x2), (10, .i6 (a_.length : Int)), (9, va_1), (5, v2), (1, vb_1)]) ⟨rfl, rfl, rfl, rfl, rfl, rfl, trivial⟩ F rfl rfl tc30 rfl rfl (calls_enter (fn := Try.f30) Try.func30 rfl Try.ntmps30 (lb rfl) ?_); clear F a; intro a F
     replace F : Fr 9 a [(0, vb_1), (1, .func (.func 31) #[] #[bp b1 0])] := F
     refine wp_seq ?_
     refine wp_region_lit ?_
     refine wE (ev_assign rfl) F S rfl fun a F=>?_
     refine wpList_nil ?_
     refine then_n ?_
     refine wp_seq ?_
     refine wp_region_lit ?_
     refine wE (ev_move rfl) F S rfl fun a F=>?_
     refine wE (ev_move rfl) F S rfl fun a F=>?_
     refine wl_call (wn rfl) rfl (xs := [.tmp 5, .tmp 6]) (vs := [vb_1, .func (.func 31) #[] #[bp b1 0]]) (cap := []) (R := fun u1 w => ∃ (x6 : Int) (g4 : Gh), u1 = .i6 x6 ∧ Le g2 g4 ∧ St g4 [[bx b1 #[.i6 y1.Value, v4] 35], c2] fr w ∧ multivalue_left.j3 x2 x3 y1 x6 = some x4) F rfl rfl tc41 (calls_enter (fn := Try.f41) Try.func41 rfl Try.ntmps41 (lb rfl) ?_) rfl rfl ?_
     ·clear F a; intro a F
      replace F : Fr 19 a [(0, vb_1), (1, .func (.func 31) #[] #[bp b1 0])] := F
      refine wp_seq ?_
      refine wp_region_lit ?_
      refine wE (ev_assign rfl) F S rfl fun a F=>?_
      refine wpList_nil ?_
      refine then_n ?_
      refine wp_cut (fun a w => ∃ (g7 : Gh), Fr 19 a [] ∧ Le g2 g7 ∧ St g7 [[bx b1 #[.i6 y1.Value, v4] 35], c2] fr w ∧ multivalue_left.j4 x2 x3 y1 = some x4) ?_ ?_
      ·refine wp_seq ?_
       refine wp_region_lit ?_
       refine wE (ev_move rfl) F S rfl fun a F=>?_
       refine wE (ev_lenSh hb_1 rfl tu22) F S rfl fun a F=>?_
       refine wE (ev_move rfl) F S rfl fun a F=>?_
       refine wpList_nil ?_
       refine then_n ?_
       refine wp_block ?_
       obtain ⟨r2, hr4, hm⟩ := bind_some hm
       have hmo2 := hm; clear hm
       refine wp_iter (σ := Int) (ρ := Int ⊕ Unit) (m := fun s => multivalue_left.l2 b_ y1 s) (I := fun x7 a w => ∃ (g8 : Gh), Fr 19 a [(8, .i6 x7), (7, .i6 (b_.length : Int)), (0, vb_1), (1, .func (.func 31) #[] #[bp b1 0])] ∧ Le g2 g8 ∧ St g8 [[bx b1 #[.i6 y1.Value, v4] 35], c2] fr w) hr4 ?_ ?_
       ·exact ⟨g2, F.sub ⟨rfl, rfl, rfl, rfl, trivial⟩, (Le.refl _), S⟩
       ·clear F S; rintro x7 a w x8 ⟨g8, F, l8, S⟩ hx2 hfin2
        have hm : multivalue_left.l2 b_ y1 x7 = some x8 := hx2; clear hx2
        unfold multivalue_left.l2 at hm
        refine wp_seq ?_
        refine wp_region_lit ?_
        refine wE (ev_int rfl rfl (bo_lss _ _ _ _)) F S rfl fun a F=>?_
        refine wpList_nil ?_
        refine then_n ?_
        refine wp_seq ?_
        obtain ⟨hc3, hm⟩ | ⟨hc3, hm⟩ := ite_or hm
        ·refine wp_condT F rfl hc3 ?_
         refine wp_skip ?_
         refine then_n ?_
         refine wp_seq ?_
         refine wp_block ?_
         refine wp_seq ?_
         refine wp_region_lit ?_
         refine wE (ev_move rfl) F S rfl fun a F=>?_
         refine wE (ev_assign rfl) F S rfl fun a F=>?_
         refine wpList_nil ?_
         refine then_n ?_
         refine wp_seq ?_
         refine wp_region_lit ?_
         refine wE (ev_move rfl) F S rfl fun a F=>?_
         refine wE (ev_move rfl) F S rfl fun a F=>?_
         refine wE (ev_move rfl) F S rfl fun a F=>?_
         obtain ⟨y4, hy4, hm⟩ := bind_some hm
         obtain ⟨cs3, hr5, hp2⟩ := elemS (hb_1.mono (l2.trans l8)) hy4
         obtain ⟨v8, rfl, h9⟩ := rep_VersionedValue hr5
         refine wE (ev_idxS (hb_1.mono (l2.trans l8)) hy4 tu22 ts35 rfl rfl) F S rfl fun a F=>?_
         refine wE (ev_loadA tu35 rfl (cs := [.i6 y4.Value, v8]) ts35 rfl (ptr_mono (cks := [[bx b1 #[.i6 y1.Value, v4] 35], c2]) (fr := fr) hp2 (Le.refl _))) F S rfl fun a F=>?_
         replace F := F.sub (e' := [(15, .agg #[.i6 y4.Value, v8]), (11, .func (.func 31) #[] #[bp b1 0]), (5, .i6 x7), (8, .i6 x7), (7, .i6 (b_.length : Int)), (0, vb_1), (1, .func (.func 31) #[] #[bp b1 0])]) ⟨rfl, rfl, rfl, rfl, rfl, rfl, rfl, trivial⟩
         refine wl_callK (wn rfl) rfl (xs := [.tmp 15]) (vs := [.agg #[.i6 y4.Value, v8]]) (cap := [bp b1 0]) (e' := [(5, .i6 x7), (8, .i6 x7), (7, .i6 (b_.length : Int)), (0, vb_1), (1, .func (.func 31) #[] #[bp b1 0])]) ⟨rfl, rfl, rfl, rfl, rfl, trivial⟩ F rfl rfl tc31 rfl rfl (calls_enter (fn := Try.f31) Try.func31 rfl Try.ntmps31 (lb rfl) ?_); clear F a; intro a F
         replace F : Fr 17 a [(0, .agg #[.i6 y4.Value, v8]), (1, bp b1 0)] := F
         refine wp_seq ?_
         refine wp_region_lit ?_
         refine wl_boxC (wn rfl) rfl rfl rfl F S rfl rfl ?_; clear F a S; rintro b2 a w F S
         refine wE (ev_assign rfl) F S rfl fun a F=>?_
         refine wpList_nil ?_
         refine then_n ?_
         refine wp_seq ?_
         refine wp_region_lit ?_
         refine wE (ev_fieldAddr' tu35 tf35_1 (z := 0) ts33 rfl ⟨_, rfl⟩ rfl) F S rfl fun a F=>?_
         refine wE (ev_load1 tu33 rfl rfl (box_ptr (cells := [v8]) 0 rfl 1 rfl (lb rfl))) F S rfl fun a F=>?_
         refine wE (ev_fieldAddr' tu35 tf35_1 (z := 0) ts33 rfl ⟨_, rfl⟩ rfl) F S rfl fun a F=>?_
         refine wE (ev_load1 tu33 rfl rfl (box_ptr (cells := [v4]) 1 rfl 1 rfl (lb rfl))) F S rfl fun a F=>?_
         obtain ⟨y5, hy5, hm⟩ := bind_some hm
         refine wl_call0 (wn rfl) rfl F rfl (multivalue_covers_ok (fr := (fl [[bx b2 #[.i6 y4.Value, v8] 35], [bx b1 #[.i6 y1.Value, v4] 35], c2] fr)) y4.Vector v8 h9 y1.Vector v4 (h4.mono l8) S hy5) rfl tc32 rfl rfl ?_; clear F a S
         rintro _ a w ⟨g9, l9, S, rfl⟩ F; replace S : St g9 [[bx b2 #[.i6 y4.Value, v8] 35], [bx b1 #[.i6 y1.Value, v4] 35], c2] fr w := S
         refine wE (ev_move rfl) F S rfl fun a F=>?_
         obtain ⟨x9, hx3, hm⟩ := bind_some hm
         refine wl_cut 7 (fun a w => ∃ g10, Fr 17 a [(16, .bool x9), (3, .bool false)] ∧ Le g9 g10 ∧ St g10 [[bx b2 #[.i6 y4.Value, v8] 35], [bx b1 #[.i6 y1.Value, v4] 35], c2] fr w) ?_ ?_
         ·clear hm; obtain ⟨hc4, hm⟩ | ⟨hc4, hm⟩ := ite_or hx3
          ·refine wl_ev (wg F rfl rfl rfl rfl hc4) (ev_fieldAddr' tu35 tf35_1 (z := 0) ts33 rfl ⟨_, rfl⟩ rfl) F S rfl rfl ?_; clear F a; intro a F
           refine wl_ev (wg F rfl rfl rfl rfl hc4) (ev_load1 tu33 rfl rfl (box_ptr (cells := [v8]) 0 rfl 1 rfl (lb rfl))) F S rfl rfl ?_; clear F a; intro a F
           refine wl_ev (wg F rfl rfl rfl rfl hc4) (ev_fieldAddr' tu35 tf35_1 (z := 0) ts33 rfl ⟨_, rfl⟩ rfl) F S rfl rfl ?_; clear F a; intro a F
           refine wl_ev (wg F rfl rfl rfl rfl hc4) (ev_load1 tu33 rfl rfl (box_ptr (cells := [v4]) 1 rfl 1 rfl (lb rfl))) F S rfl rfl ?_; clear F a; intro a F
           obtain ⟨y6, hy6, hm⟩ := bind_some hm
           refine wl_call0 (wg F rfl rfl rfl rfl hc4) rfl F rfl (slices_Equal_ok (fr := (fl [[bx b2 #[.i6 y4.Value, v8] 35], [bx b1 #[.i6 y1.Value, v4] 35], c2] fr)) y4.Vector v8 (h9.mono l9) y1.Vector v4 (h4.mono (l8.trans l9)) S hy6) rfl tc20 rfl rfl ?_; clear F a S
           rintro _ a w ⟨g11, l11, S, rfl⟩ F; replace S : St g11 [[bx b2 #[.i6 y4.Value, v8] 35], [bx b1 #[.i6 y1.Value, v4] 35], c2] fr w := S
           refine wl_ev (wg F rfl rfl rfl rfl hc4) (ev_not rfl) F S rfl rfl ?_; clear F a; intro a F
           refine wE (ev_pickT rfl hc4 rfl) F S rfl fun a F=>?_
           obtain rfl := sinj hm
           refine wpList_nil (then_n ?_); exact ⟨g11, F.sub ⟨rfl, rfl, trivial⟩, l11, S⟩
          ·refine wl_skip rfl rfl rfl rfl (ne_tf hc4) F rfl rfl ?_; clear F a; intro a F
           refine wl_skip rfl rfl rfl rfl (ne_tf hc4) F rfl rfl ?_; clear F a; intro a F
           refine wl_skip rfl rfl rfl rfl (ne_tf hc4) F rfl rfl ?_; clear F a; intro a F
           refine wl_skip rfl rfl rfl rfl (ne_tf hc4) F rfl rfl ?_; clear F a; intro a F
           refine wl_skip rfl rfl rfl rfl (ne_tf hc4) F rfl rfl ?_; clear F a; intro a F
           refine wl_skip rfl rfl rfl rfl (ne_tf hc4) F rfl rfl ?_; clear F a; intro a F
           refine wE (ev_pickF rfl hc4 rfl) F S rfl fun a F=>?_
           obtain rfl := sinj hm
           refine wpList_nil (then_n ?_); exact ⟨g9, F.sub ⟨rfl, rfl, trivial⟩, (Le.refl _), S⟩
         clear F S; rintro a w ⟨g10, F, l10, S⟩
         refine wE (ev_assign rfl) F S rfl fun a F=>?_
         refine wpList_nil ?_
         refine then_n ?_
         refine wp_ret ?_
         refine post_r _ F rfl (ar_cons (resT rfl) ar_nil) ?_
         refine ⟨_, rfl, ?_⟩; clear F a; intro a F
         replace F : Fr 19 a [(16, .bool x9), (5, .i6 x7), (8, .i6 x7), (7, .i6 (b_.length : Int)), (0, vb_1), (1, .func (.func 31) #[] #[bp b1 0])] := F
         refine wpList_nil ?_
         refine then_n ?_
         obtain ⟨hc5, hm⟩ | ⟨hc5, hm⟩ := ite_or hm
         ·refine wp_condT F rfl hc5 ?_
          refine wp_seq ?_
          refine wp_region_lit ?_
          refine wE (ev_move rfl) F S rfl fun a F=>?_
          refine wE (ev_assign rfl) F S rfl fun a F=>?_
          refine wpList_nil ?_
          refine then_n ?_
          refine wp_ret ?_
          refine inb_r ?_
          refine then_r ?_
          refine then_r ?_
          refine inb_r ?_
          refine then_r ?_
          obtain rfl := sinj hm
          obtain rfl := hfin2 _ rfl
          clear hm
          have hm : (multivalue_left.j3 x2 x3 y1 x7 : Option (Step (Int × (List VersionedValue)) (List VersionedValue))) = some _ := hmo2
          refine post_r _ F rfl (ar_cons (resT rfl) ar_nil) ?_
          replace S : St g10 [[bx b1 #[.i6 y1.Value, v4] 35], c2] fr w := St.tail [[bx b1 #[.i6 y1.Value, v4] 35], c2] _ ((S.frontC 2 rfl).frontC 2 rfl)
          exact ⟨_, rfl, ⟨x7, g10, rfl, ((l8.trans l9).trans l10), S, hm⟩⟩
         ·refine wp_condF F rfl hc5 ?_
          refine wp_skip ?_
          refine inb_n ?_
          refine then_n ?_
          refine wp_region_lit ?_
          obtain ⟨z2, hz2, hm⟩ := bind_some hm
          refine wE (ev_int rfl rfl (bo_add hz2)) F S rfl fun a F=>?_
          refine wE (ev_move rfl) F S rfl fun a F=>?_
          refine wpList_nil ?_
          refine then_n ?_
          obtain rfl := sinj hm
          refine ⟨_, rfl, ?_⟩
          replace S : St g10 [[bx b1 #[.i6 y1.Value, v4] 35], c2] fr w := St.tail [[bx b1 #[.i6 y1.Value, v4] 35], c2] _ ((S.frontC 2 rfl).frontC 2 rfl)
          exact ⟨g10, F.sub ⟨rfl, rfl, rfl, rfl, trivial⟩, ((l8.trans l9).trans l10), S⟩
        ·refine wp_condF F rfl hc3 ?_
         refine wp_exit ?_
         refine then_e ?_
         refine then_e ?_
         refine inb_x ?_
         refine then_n ?_
         obtain rfl := sinj hm
         obtain rfl := hfin2 _ rfl
         clear hm
         have hm : (multivalue_left.j4 x2 x3 y1 : Option (Step (Int × (List VersionedValue)) (List VersionedValue))) = some _ := hmo2
         exact ⟨g8, F.sub trivial, l8, S, hm⟩
      ·clear F S hm; rintro a w ⟨g7, F, l7, S, hm⟩
       refine wp_seq ?_
       refine wp_region_lit ?_
       refine wE (ev_assign rfl) F S rfl fun a F=>?_
       refine wpList_nil ?_
       refine then_n ?_
       refine wp_ret ?_
       refine post_r _ F rfl (ar_cons (resT rfl) ar_nil) ?_
       exact ⟨_, rfl, ⟨(-1), g7, rfl, l7, S, hm⟩⟩
     ·clear F S hm; rintro _ a w ⟨x6, g4, rfl, l4, S, hm⟩ F
      replace F := F.sub (e' := [(7, .i6 x6)]) ⟨rfl, trivial⟩
      refine wE (ev_int rfl rfl (bo_geq _ _ _ _)) F S rfl fun a F=>?_
      refine wE (ev_assign rfl) F S rfl fun a F=>?_
      refine wpList_nil ?_
      refine then_n ?_
      refine wp_ret ?_
      refine post_r _ F rfl (ar_cons (resT rfl) ar_nil) ?_
      refine ⟨_, rfl, ?_⟩; clear F a; intro a F
      replace F : Fr 31 a [(17, .bool (decide (x6 ≥ 0))), (7, bp b1 0), (11, .i6 x2), (10, .i6 (a_.length : Int)), (9, va_1), (5, v2), (1, vb_1)] := F
      refine wE (ev_assign rfl) F S rfl fun a F=>?_
      refine wpList_nil ?_
      refine then_n ?_
      refine wp_seq ?_
      refine wp_region_lit ?_
      refine wE (ev_move rfl) F S rfl fun a F=>?_
      refine wE (ev_not rfl) F S rfl fun a F=>?_
      refine wpList_nil ?_
      refine then_n ?_
      obtain ⟨hc2, hm⟩ | ⟨hc2, hm⟩ := ite_or hm
      ·refine wp_condT F rfl hc2 ?_
       refine wp_dv [9] mo S ?_; clear S; intro ok1 w S
       refine dv_et ok1 0 rfl (ev_move rfl) F rfl fun a F=>?_
       refine dv_et ok1 1 rfl (ev_fieldAddr' tu35 tf35_0 (z := 0) ts3 rfl ⟨_, rfl⟩ rfl) F rfl fun a F=>?_
       refine dv_ev ok1 2 rfl (ev_load1 tu3 rfl rfl (box_ptr (cells := [.i6 y1.Value]) 0 rfl 0 rfl (lb rfl))) F S rfl fun a F=>?_
       refine dv_et ok1 3 rfl (ev_fieldAddr' tu35 tf35_1 (z := 0) ts33 rfl ⟨_, rfl⟩ rfl) F rfl fun a F=>?_
       refine dv_ev ok1 4 rfl (ev_load1 tu33 rfl rfl (box_ptr (cells := [v4]) 0 rfl 1 rfl (lb rfl))) F S rfl fun a F=>?_
       refine dv_op ok1 5 rfl [(2, .i6 y1.Value)] ?_
       obtain ⟨y2, hy2, hm⟩ := bind_some hm
       refine wl_call0 (wn rfl) rfl F rfl (slices_Clone_ok (fr := (fl [[bx b1 #[.i6 y1.Value, v4] 35], c2] fr)) y1.Vector v4 (h4.mono l4) S hy2) rfl tc33 rfl rfl ?_; clear F a S
       rintro _ a w ⟨g5, v5, c4, l5, S, h5, rfl⟩ F; replace S : St g5 [c4, [bx b1 #[.i6 y1.Value, v4] 35], c2] fr w := S
       refine dv_nx ⟨yl_ev rfl rfl (ev_load1 tu3 rfl rfl (box_ptr (cells := [.i6 y1.Value]) 1 rfl 0 rfl (lb rfl))) F S, trivial⟩ ?_
       refine dv_et ok1 6 rfl (ev_build (parts := [(0, .tmp 22), (1, .tmp 25)]) (vs := [(0, .i6 y1.Value), (1, v5)]) rfl (fun w => tb35_0_1 y1.Value v5 (OwnS.isSl h5) w)) F rfl fun a F=>?_
       refine dv_op ok1 7 rfl [] ?_
       obtain ⟨g6, l6, S, h6⟩ : ∃ gz, Le g5 gz ∧ St gz [[bx b1 #[.i6 y1.Value, v4] 35], c2] fr w ∧ RepSl gz y2 v5 := ⟨_, Le.add _ _, S.freeze 0 rfl, OwnS.freeze (S.front 0 rfl) h5⟩
       refine wl_lit (l := ([({ Value := y1.Value, Vector := y2 } : VersionedValue)] : List VersionedValue)) (vs := [.agg #[.i6 y1.Value, v5]]) (parts := [(0, .tmp 26)]) (wn rfl) rfl rfl rfl tu22 te35 (sz_cons rfl sz_nil) rfl (Cat.cons (rep_VersionedValue_mk (x := ({ Value := y1.Value, Vector := y2 } : VersionedValue)) h6) (Cat.nil _)) (coa_cons rfl coa_nil) rfl F S rfl rfl ?_; clear F a S
       rintro v6 c5 a w h7 F S
       refine dv_nx trivial ?_
       refine dv_op ok1 8 rfl [] ?_
       obtain ⟨cs2, hk1, hr3⟩ := OwnS.reads h7
       obtain ⟨y3, hy3, hm⟩ := bind_some hm
       refine wl_append (wn rfl) rfl tu22 tu22 te35 (by decide) (by decide) F S rfl rfl (k := 2) rfl (h2.mono ((l4.trans l5).trans l6)) hk1 rfl (hr3 _ _ _ 0 rfl S) hy3 rfl rfl ?_; clear F a S
       rintro v7 c6 a w h8 S F; replace S : St g6 [c5, [bx b1 #[.i6 y1.Value, v4] 35], c6] fr w := S
       refine dv_nx trivial ?_
       refine dv_op ok1 9 rfl [] ?_
       refine wE (ev_assign rfl) F S rfl fun a F=>?_
       refine dv_nx trivial ?_
       refine dv_fin ok1 ?_
       refine inb_n ?_
       refine then_n ?_
       replace S : St g6 [c6] fr w := St.tail [c6] _ (S.frontC 2 rfl)
       exact ⟨y3, v7, c6, g6, F.sub ⟨rfl, rfl, rfl, rfl, rfl, trivial⟩, ((l4.trans l5).trans l6), S, h8, hm⟩
      ·refine wp_condF F rfl hc2 ?_
       refine wp_skip ?_
       refine inb_n ?_
       refine then_n ?_
       replace S : St g4 [c2] fr w := St.tail [c2] _ (S.frontC 1 rfl)
       exact ⟨x3, v2, c2, g4, F.sub ⟨rfl, rfl, rfl, rfl, rfl, trivial⟩, l4, S, (h2.mono l4), hm⟩
    ·clear F S hm; rintro a w ⟨x5, v3, c3, g3, F, l3, S, h3, hm⟩
     refine wp_region_lit ?_
     obtain ⟨z1, hz1, hm⟩ := bind_some hm
     refine wE (ev_int rfl rfl (bo_add hz1)) F S rfl fun a F=>?_
     refine wE (ev_move rfl) F S rfl fun a F=>?_
     refine wpList_nil ?_
     refine then_n ?_
     obtain rfl := sinj hm
     refine ⟨_, rfl, ?_⟩
     dsimp only
     exact ⟨v3, c3, g3, F.sub ⟨rfl, rfl, rfl, rfl, rfl, trivial⟩, (l2.trans l3), S, h3⟩
   ·refine wp_condF F rfl hc1 ?_
    refine wp_exit ?_
    refine then_e ?_
    refine then_e ?_
    refine inb_x ?_
    refine then_n ?_
    obtain rfl := sinj hm
    obtain rfl := hfin1 _ rfl
    clear hm
    have hm : (multivalue_left.j1 x3 : Option (List VersionedValue)) = some _ := hmo1
    exact ⟨x3, v2, c2, g2, F.sub ⟨rfl, trivial⟩, l2, S, h2, hm⟩
 ·clear F S hm; rintro a w ⟨x1, v1, c1, g1, F, l1, S, h1, hm⟩
  refine wp_seq ?_
  refine wp_region_lit ?_
  refine wE (ev_move rfl) F S rfl fun a F=>?_
  refine wE (ev_assign rfl) F S rfl fun a F=>?_
  refine wpList_nil ?_
  refine then_n ?_
  refine wp_ret ?_
  obtain rfl := sinj hm
  refine post_r _ F rfl (ar_cons (resT rfl) ar_nil) ?_
  exact ⟨_, rfl, g1, v1, c1, l1, S, h1, rfl⟩

theorem multivalue_Merge_s1_ok {g : Gh} {fr : Hl} {w : World} {r : Int} (x_ : VersionedValue) (vx_1 : Value) (hx_1 : RepSl g x_.Vector vx_1) (y : VersionedValue) (vy1 : Value) (hy1 : RepSl g y.Vector vy1) (S : St g [] fr w) (hm : multivalue_Merge_s1 x_ y = some r) :
  Calls Try.prog 23 [.agg #[.i6 x_.Value, vx_1], .agg #[.i6 y.Value, vy1]].toArray w (fun en w' => ∃ v, en = .returned v ∧ ∃ (g' : Gh), Le g g' ∧ St g' [] fr w' ∧ .i6 r = v) := by
 unfold multivalue_Merge_s1 at hm
 refine calls_enter (fn := Try.f23) Try.func23 rfl Try.ntmps23 (lb rfl) ?_
 intro a F
 replace F : Fr 10 a [(0, .agg #[.i6 x_.Value, vx_1]), (1, .agg #[.i6 y.Value, vy1])] := F
 refine wp_seq ?_
 refine wp_region_lit ?_
 refine wl_boxC (wn rfl) rfl rfl rfl F S rfl rfl ?_; clear F a S; rintro b1 a w F S
 refine wl_boxC (wn rfl) rfl rfl rfl F S rfl rfl ?_; clear F a S; rintro b2 a w F S
 refine wE (ev_assign rfl) F S rfl fun a F=>?_
 refine wpList_nil ?_
 refine then_n ?_
 refine wp_seq ?_
 refine wp_region_lit ?_
 refine wE (ev_fieldAddr' tu35 tf35_1 (z := 0) ts33 rfl ⟨_, rfl⟩ rfl) F S rfl fun a F=>?_
 refine wE (ev_load1 tu33 rfl rfl (box_ptr (cells := [vx_1]) 1 rfl 1 rfl (lb rfl))) F S rfl fun a F=>?_
 refine wE (ev_fieldAddr' tu35 tf35_1 (z := 0) ts33 rfl ⟨_, rfl⟩ rfl) F S rfl fun a F=>?_
 refine wE (ev_load1 tu33 rfl rfl (box_ptr (cells := [vy1]) 0 rfl 1 rfl (lb rfl))) F S rfl fun a F=>?_
 obtain ⟨y1, hy2, hm⟩ := bind_some hm
 refine wl_call0 (wn rfl) rfl F rfl (slices_Compare_ok (fr := (fl [[bx b2 #[.i6 y.Value, vy1] 35], [bx b1 #[.i6 x_.Value, vx_1] 35]] fr)) x_.Vector vx_1 hx_1 y.Vector vy1 hy1 S hy2) rfl tc24 rfl rfl ?_; clear F a S
 rintro _ a w ⟨g1, l1, S, rfl⟩ F; replace S : St g1 [[bx b2 #[.i6 y.Value, vy1] 35], [bx b1 #[.i6 x_.Value, vx_1] 35]] fr w := S
 refine wE (ev_assign rfl) F S rfl fun a F=>?_
 refine wpList_nil ?_
 refine then_n ?_
 refine wp_ret ?_
 obtain rfl := sinj hm
 refine post_r _ F rfl (ar_cons (resT rfl) ar_nil) ?_
 replace S : St g1 [] fr w := St.tail [] _ S
 exact ⟨_, rfl, g1, l1, S, rfl⟩

theorem multivalue_Merge_s2_ok {g : Gh} {fr : Hl} {w : World} {r : Bool} (x_ : VersionedValue) (vx_1 : Value) (hx_1 : RepSl g x_.Vector vx_1) (y : VersionedValue) (vy1 : Value) (hy1 : RepSl g y.Vector vy1) (S : St g [] fr w) (hm : multivalue_Merge_s2 x_ y = some r) :
  Calls Try.prog 26 [.agg #[.i6 x_.Value, vx_1], .agg #[.i6 y.Value, vy1]].toArray w (fun en w' => ∃ v, en = .returned v ∧ ∃ (g' : Gh), Le g g' ∧ St g' [] fr w' ∧ .bool r = v) := by
 unfold multivalue_Merge_s2 at hm
 refine calls_enter (fn := Try.f26) Try.func26 rfl Try.ntmps26 (lb rfl) ?_
 intro a F
 replace F : Fr 10 a [(0, .agg #[.i6 x_.Value, vx_1]), (1, .agg #[.i6 y.Value, vy1])] := F
 refine wp_seq ?_
 refine wp_region_lit ?_
 refine wl_boxC (wn rfl) rfl rfl rfl F S rfl rfl ?_; clear F a S; rintro b1 a w F S
 refine wl_boxC (wn rfl) rfl rfl rfl F S rfl rfl ?_; clear F a S; rintro b2 a w F S
 refine wE (ev_assign rfl) F S rfl fun a F=>?_
 refine wpList_nil ?_
 refine then_n ?_
 refine wp_seq ?_
 refine wp_region_lit ?_
 refine wE (ev_fieldAddr' tu35 tf35_1 (z := 0) ts33 rfl ⟨_, rfl⟩ rfl) F S rfl fun a F=>?_
 refine wE (ev_load1 tu33 rfl rfl (box_ptr (cells := [vx_1]) 1 rfl 1 rfl (lb rfl))) F S rfl fun a F=>?_
 refine wE (ev_fieldAddr' tu35 tf35_1 (z := 0) ts33 rfl ⟨_, rfl⟩ rfl) F S rfl fun a F=>?_
 refine wE (ev_load1 tu33 rfl rfl (box_ptr (cells := [vy1]) 0 rfl 1 rfl (lb rfl))) F S rfl fun a F=>?_
 obtain ⟨y1, hy2, hm⟩ := bind_some hm
 refine wl_call0 (wn rfl) rfl F rfl (slices_Equal_ok (fr := (fl [[bx b2 #[.i6 y.Value, vy1] 35], [bx b1 #[.i6 x_.Value, vx_1] 35]] fr)) x_.Vector vx_1 hx_1 y.Vector vy1 hy1 S hy2) rfl tc20 rfl rfl ?_; clear F a S
 rintro _ a w ⟨g1, l1, S, rfl⟩ F; replace S : St g1 [[bx b2 #[.i6 y.Value, vy1] 35], [bx b1 #[.i6 x_.Value, vx_1] 35]] fr w := S
 refine wE (ev_assign rfl) F S rfl fun a F=>?_
 refine wpList_nil ?_
 refine then_n ?_
 refine wp_ret ?_
 obtain rfl := sinj hm
 refine post_r _ F rfl (ar_cons (resT rfl) ar_nil) ?_
 replace S : St g1 [] fr w := St.tail [] _ S
 exact ⟨_, rfl, g1, l1, S, rfl⟩

theorem multivalue_Merge_ok {g : Gh} {fr : Hl} {w : World} {r : (List VersionedValue) × Fault} (a_ : (List VersionedValue)) (va_1 : Value) (ha_1 : RepSl g a_ va_1) (b_ : (List VersionedValue)) (vb_1 : Value) (hb_1 : RepSl g b_ vb_1) (S : St g [] fr w) (hm : multivalue_Merge a_ b_ = some r) :
  Calls Try.prog 11 [va_1, vb_1].toArray w (fun en w' => ∃ v, en = .returned v ∧ ∃ (g' : Gh) (v1 : Value) (c1 : Hl), Le g g' ∧ St g' [c1] fr w' ∧ OwnS g' r.1 v1 c1 ∧ .tuple #[v1, .agg #[.i6 r.2.Code, .i6 r.2.Index]] = v) := by
 unfold multivalue_Merge at hm
 refine calls_enter (fn := Try.f11) Try.func11 rfl Try.ntmps11 (lb rfl) ?_
 intro a F
 replace F : Fr 73 a [(0, va_1), (1, vb_1)] := F
 refine wp_seq ?_
 refine wp_region_lit ?_
 refine wE (ev_assign rfl) F S rfl fun a F=>?_
 refine wl_alloc (wn rfl) rfl tz24 (cs := [.i6 0, .i6 0]) rfl F S rfl rfl ?_; clear F a S; rintro b1 a w F S
 refine wpList_nil ?_
 refine then_n ?_
 refine wp_seq ?_
 refine wp_seq ?_
 refine wp_region_lit ?_
 refine wE (ev_move rfl) F S rfl fun a F=>?_
 obtain ⟨y1, hy1, hm⟩ := bind_some hm
 refine wl_call0 (wn rfl) rfl F rfl (multivalue_Validate_ok (fr := (fl [[bx b1 #[.i6 0, .i6 0] 24]] fr)) a_ va_1 ha_1 S hy1) rfl tc13 rfl rfl ?_; clear F a S
 rintro _ a w ⟨g1, l1, S, rfl⟩ F; replace S : St g1 [[bx b1 #[.i6 0, .i6 0] 24]] fr w := S
 refine wl_alloc (wn rfl) rfl tz24 (cs := [.i6 0, .i6 0]) rfl F S rfl rfl ?_; clear F a S; rintro b2 a w F S
 refine wl_storeC (wn rfl) rfl F S rfl rfl (vs := [.i6 y1.Code, .i6 y1.Index]) rfl ts24 (one_cons rfl (one_cons rfl one_nil)) (k := 0) rfl (lb rfl) (c' := #[.i6 y1.Code, .i6 y1.Index]) rfl rfl ?_; clear S; intro w S
 refine wpList_nil ?_
 refine then_n ?_
 refine wp_seq ?_
 refine wp_region_lit ?_
 refine wE (ev_loadA tu24 rfl (cs := [.i6 y1.Code, .i6 y1.Index]) ts24 rfl (box_ptr (cells := [.i6 y1.Code, .i6 y1.Index]) 0 rfl 0 rfl (lb rfl))) F S rfl fun a F=>?_
 refine wE (ev_build (parts := []) (vs := []) rfl (fun w => tb24_  w)) F S rfl fun a F=>?_
 refine wE (ev_neS tu24 tqa24 tqb24 tqc24 (xs := [.i6 y1.Code, .i6 y1.Index]) (ys := [.i6 0, .i6 0]) rfl rfl ⟨_, _, rfl, by decide, ⟨_, _, rfl, rfl, leaf_int tu3⟩, ⟨_, _, rfl, by decide, ⟨_, _, rfl, rfl, leaf_int tu3⟩, rfl⟩⟩) F S rfl fun a F=>?_
 refine wpList_nil ?_
 refine then_n ?_
 obtain ⟨hc1, hm⟩ | ⟨hc1, hm⟩ := ite_or hm
 ·refine wp_condT F rfl hc1 ?_
  refine wp_seq ?_
  refine wp_dv [] mo S ?_; clear S; intro ok1 w S
  refine dv_ev ok1 0 rfl (ev_loadA tu24 rfl (cs := [.i6 y1.Code, .i6 y1.Index]) ts24 rfl (box_ptr (cells := [.i6 y1.Code, .i6 y1.Index]) 0 rfl 0 rfl (lb rfl))) F S rfl fun a F=>?_
  refine dv_et ok1 1 rfl (ev_assign rfl) F rfl fun a F=>?_
  refine dv_op ok1 2 rfl [] ?_
  refine wl_storeC (wn rfl) rfl F S rfl rfl (vs := [.i6 y1.Code, .i6 y1.Index]) rfl ts24 (one_cons rfl (one_cons rfl one_nil)) (k := 1) rfl (lb rfl) (c' := #[.i6 y1.Code, .i6 y1.Index]) rfl rfl ?_; clear S; intro w S
  refine dv_nx trivial ?_
  refine dv_fin ok1 ?_
  refine then_n ?_
  refine wp_ret ?_
  refine then_r ?_
  obtain rfl := sinj hm
  replace S : St g1 [[], [bx b2 #[.i6 y1.Code, .i6 y1.Index] 24], [bx b1 #[.i6 y1.Code, .i6 y1.Index] 24]] fr w := S
  refine post_r _ F rfl (ar_cons (resT rfl) (ar_cons (resA rfl tu24 rfl (box_ptr (cells := [.i6 y1.Code, .i6 y1.Index]) 2 rfl 0 rfl (lb rfl) w S) ts24) ar_nil)) ?_
  replace S : St g1 [[]] fr w := St.tail [[]] _ (S.frontC 0 rfl)
  exact ⟨_, rfl, g1, (nilS), [], l1, S, (OwnS.nil _), rfl⟩
 ·refine wp_condF F rfl hc1 ?_
  refine wp_skip ?_
  refine then_n ?_
  refine wp_seq ?_
  refine wp_seq ?_
  refine wp_region_lit ?_
  refine wE (ev_move rfl) F S rfl fun a F=>?_
  obtain ⟨y2, hy2, hm⟩ := bind_some hm
  refine wl_call0 (wn rfl) rfl F rfl (multivalue_Validate_ok (fr := (fl [[bx b2 #[.i6 y1.Code, .i6 y1.Index] 24], [bx b1 #[.i6 0, .i6 0] 24]] fr)) b_ vb_1 (hb_1.mono l1) S hy2) rfl tc13 rfl rfl ?_; clear F a S
  rintro _ a w ⟨g2, l2, S, rfl⟩ F; replace S : St g2 [[bx b2 #[.i6 y1.Code, .i6 y1.Index] 24], [bx b1 #[.i6 0, .i6 0] 24]] fr w := S
  refine wl_alloc (wn rfl) rfl tz24 (cs := [.i6 0, .i6 0]) rfl F S rfl rfl ?_; clear F a S; rintro b3 a w F S
  refine wl_storeC (wn rfl) rfl F S rfl rfl (vs := [.i6 y2.Code, .i6 y2.Index]) rfl ts24 (one_cons rfl (one_cons rfl one_nil)) (k := 0) rfl (lb rfl) (c' := #[.i6 y2.Code, .i6 y2.Index]) rfl rfl ?_; clear S; intro w S
  refine wpList_nil ?_
  refine then_n ?_
  refine wp_seq ?_
  refine wp_region_lit ?_
  refine wE (ev_loadA tu24 rfl (cs := [.i6 y2.Code, .i6 y2.Index]) ts24 rfl (box_ptr (cells := [.i6 y2.Code, .i6 y2.Index]) 0 rfl 0 rfl (lb rfl))) F S rfl fun a F=>?_
  refine wE (ev_build (parts := []) (vs := []) rfl (fun w => tb24_  w)) F S rfl fun a F=>?_
  refine wE (ev_neS tu24 tqa24 tqb24 tqc24 (xs := [.i6 y2.Code, .i6 y2.Index]) (ys := [.i6 0, .i6 0]) rfl rfl ⟨_, _, rfl, by decide, ⟨_, _, rfl, rfl, leaf_int tu3⟩, ⟨_, _, rfl, by decide, ⟨_, _, rfl, rfl, leaf_int tu3⟩, rfl⟩⟩) F S rfl fun a F=>?_
  refine wpList_nil ?_
  refine then_n ?_
  obtain ⟨hc2, hm⟩ | ⟨hc2, hm⟩ := ite_or hm
  ·refine wp_condT F rfl hc2 ?_
   refine wp_seq ?_
   refine wp_dv [] mo S ?_; clear S; intro ok2 w S
   refine dv_et ok2 0 rfl (ev_fieldAddr' tu24 tf24_0 (z := 0) ts3 rfl ⟨_, rfl⟩ rfl) F rfl fun a F=>?_
   refine dv_ev ok2 1 rfl (ev_load1 tu3 rfl rfl (box_ptr (cells := [.i6 y2.Code]) 0 rfl 0 rfl (lb rfl))) F S rfl fun a F=>?_
   refine dv_et ok2 2 rfl (ev_build (parts := [(0, .tmp 25), (1, .const (.i6 (-2)))]) (vs := [(0, .i6 y2.Code), (1, .i6 (-2))]) rfl (fun w => tb24_0_1 y2.Code (-2) w)) F rfl fun a F=>?_
   refine dv_et ok2 3 rfl (ev_assign rfl) F rfl fun a F=>?_
   refine dv_op ok2 4 rfl [] ?_
   refine wl_storeC (wn rfl) rfl F S rfl rfl (vs := [.i6 y2.Code, .i6 (-2)]) rfl ts24 (one_cons rfl (one_cons rfl one_nil)) (k := 2) rfl (lb rfl) (c' := #[.i6 y2.Code, .i6 (-2)]) rfl rfl ?_; clear S; intro w S
   refine dv_nx trivial ?_
   refine dv_fin ok2 ?_
   refine then_n ?_
   refine wp_ret ?_
   refine then_r ?_
   obtain rfl := sinj hm
   replace S : St g2 [[], [bx b3 #[.i6 y2.Code, .i6 y2.Index] 24], [bx b2 #[.i6 y1.Code, .i6 y1.Index] 24], [bx b1 #[.i6 y2.Code, .i6 (-2)] 24]] fr w := S
   refine post_r _ F rfl (ar_cons (resT rfl) (ar_cons (resA rfl tu24 rfl (box_ptr (cells := [.i6 y2.Code, .i6 (-2)]) 3 rfl 0 rfl (lb rfl) w S) ts24) ar_nil)) ?_
   replace S : St g2 [[]] fr w := St.tail [[]] _ (S.frontC 0 rfl)
   exact ⟨_, rfl, g2, (nilS), [], (l1.trans l2), S, (OwnS.nil _), rfl⟩
  ·refine wp_condF F rfl hc2 ?_
   refine wp_skip ?_
   refine then_n ?_
   refine wp_cut (fun a w => ∃ (g3 : Gh), Fr 73 a [(5, bp b1 0), (0, va_1), (1, vb_1)] ∧ Le g2 g3 ∧ St g3 [[bx b1 #[.i6 0, .i6 0] 24]] fr w ∧ multivalue_Merge.j1 a_ b_ = some r) ?_ ?_
   ·refine wp_seq ?_
    refine wp_region_lit ?_
    refine wE (ev_move rfl) F S rfl fun a F=>?_
    refine wE (ev_lenSh hb_1 rfl tu22) F S rfl fun a F=>?_
    refine wE (ev_move rfl) F S rfl fun a F=>?_
    refine wpList_nil ?_
    refine then_n ?_
    refine wp_block ?_
    obtain ⟨r3, hr9, hm⟩ := bind_some hm
    have hmo3 := hm; clear hm
    refine wp_iter (σ := Int) (ρ := ((List VersionedValue) × Fault) ⊕ Unit) (m := fun s => multivalue_Merge.l3 a_ b_ s) (I := fun x12 a w => ∃ (g15 : Gh), Fr 73 a [(29, .i6 x12), (28, .i6 (b_.length : Int)), (27, vb_1), (5, bp b1 0), (0, va_1), (1, vb_1)] ∧ Le g2 g15 ∧ St g15 [[bx b1 #[.i6 0, .i6 0] 24]] fr w) hr9 ?_ ?_
    ·replace S : St g2 [[bx b1 #[.i6 0, .i6 0] 24]] fr w := St.tail [[bx b1 #[.i6 0, .i6 0] 24]] _ (S.frontC 2 rfl)
     exact ⟨g2, F.sub ⟨rfl, rfl, rfl, rfl, rfl, rfl, trivial⟩, (Le.refl _), S⟩
    ·clear F S; rintro x12 a w x13 ⟨g15, F, l15, S⟩ hx3 hfin3
     have hm : multivalue_Merge.l3 a_ b_ x12 = some x13 := hx3; clear hx3
     unfold multivalue_Merge.l3 at hm
     refine wp_seq ?_
     refine wp_region_lit ?_
     refine wE (ev_int rfl rfl (bo_lss _ _ _ _)) F S rfl fun a F=>?_
     refine wpList_nil ?_
     refine then_n ?_
     refine wp_seq ?_
     obtain ⟨hc9, hm⟩ | ⟨hc9, hm⟩ := ite_or hm
     ·refine wp_condT F rfl hc9 ?_
      refine wp_skip ?_
      refine then_n ?_
      refine wp_cut (fun a w => ∃ (g16 : Gh), Fr 73 a [(29, .i6 x12), (28, .i6 (b_.length : Int)), (27, vb_1), (5, bp b1 0), (0, va_1), (1, vb_1)] ∧ Le g15 g16 ∧ St g16 [[bx b1 #[.i6 0, .i6 0] 24]] fr w ∧ multivalue_Merge.j7 x12 = some x13) ?_ ?_
      ·refine wp_block ?_
       refine wp_seq ?_
       refine wp_region_lit ?_
       refine wE (ev_move rfl) F S rfl fun a F=>?_
       obtain ⟨y18, hy18, hm⟩ := bind_some hm
       obtain ⟨cs7, hr10, hp1⟩ := elemS (hb_1.mono ((l1.trans l2).trans l15)) hy18
       obtain ⟨v16, rfl, h17⟩ := rep_VersionedValue hr10
       refine wE (ev_idxS (hb_1.mono ((l1.trans l2).trans l15)) hy18 tu22 ts35 rfl rfl) F S rfl fun a F=>?_
       refine wE (ev_loadA tu35 rfl (cs := [.i6 y18.Value, v16]) ts35 rfl (ptr_mono (cks := [[bx b1 #[.i6 0, .i6 0] 24]]) (fr := fr) hp1 (Le.refl _))) F S rfl fun a F=>?_
       refine wl_alloc (wn rfl) rfl tz35 (cs := [.i6 0, nilS]) rfl F S rfl rfl ?_; clear F a S; rintro b4 a w F S
       refine wE (ev_assign rfl) F S rfl fun a F=>?_
       refine wl_storeC (wn rfl) rfl F S rfl rfl (vs := [.i6 y18.Value, v16]) rfl ts35 (one_cons rfl (one_cons h17.one one_nil)) (k := 0) rfl (lb rfl) (c' := #[.i6 y18.Value, v16]) rfl rfl ?_; clear S; intro w S
       refine wpList_nil ?_
       refine then_n ?_
       refine wp_seq ?_
       refine wp_region_lit ?_
       refine wE (ev_move rfl) F S rfl fun a F=>?_
       refine wE (ev_lenSh ha_1 rfl tu22) F S rfl fun a F=>?_
       refine wE (ev_move rfl) F S rfl fun a F=>?_
       refine wpList_nil ?_
       refine then_n ?_
       refine wp_cut1 (fun a w => ∃ (g17 : Gh), Fr 73 a [(29, .i6 x12), (28, .i6 (b_.length : Int)), (27, vb_1), (5, bp b1 0), (0, va_1), (1, vb_1)] ∧ Le g15 g17 ∧ St g17 [[bx b1 #[.i6 0, .i6 0] 24]] fr w ∧ multivalue_Merge.j8 x12 = some x13) ?_ ?_
       ·refine wp_block ?_
        obtain ⟨r4, hr11, hm⟩ := bind_some hm
        have hmo4 := hm; clear hm
        refine wp_iter (σ := Int) (ρ := ((List VersionedValue) × Fault) ⊕ Unit) (m := fun s => multivalue_Merge.l4 a_ x12 y18 s) (I := fun x14 a w => ∃ (g18 : Gh), Fr 73 a [(36, .i6 x14), (35, .i6 (a_.length : Int)), (34, va_1), (8, .i6 x12), (9, bp b4 0), (29, .i6 x12), (28, .i6 (b_.length : Int)), (27, vb_1), (5, bp b1 0), (0, va_1), (1, vb_1)] ∧ Le g15 g18 ∧ St g18 [[bx b4 #[.i6 y18.Value, v16] 35], [bx b1 #[.i6 0, .i6 0] 24]] fr w) hr11 ?_ ?_
        ·exact ⟨g15, F.sub ⟨rfl, rfl, rfl, rfl, rfl, rfl, rfl, rfl, rfl, rfl, rfl, trivial⟩, (Le.refl _), S⟩
        ·clear F S; rintro x14 a w x15 ⟨g18, F, l18, S⟩ hx4 hfin4
         have hm : multivalue_Merge.l4 a_ x12 y18 x14 = some x15 := hx4; clear hx4
         unfold multivalue_Merge.l4 at hm
         refine wp_seq ?_
         refine wp_region_lit ?_
         refine wE (ev_int rfl rfl (bo_lss _ _ _ _)) F S rfl fun a F=>?_
         refine wpList_nil ?_
         refine then_n ?_
         refine wp_seq ?_
         obtain ⟨hc10, hm⟩ | ⟨hc10, hm⟩ := ite_or hm
         ·refine wp_condT F rfl hc10 ?_
          refine wp_skip ?_
          refine then_n ?_
          refine wp_seq ?_
          refine wp_block ?_
          refine wp_seq ?_
          refine wp_region_lit ?_
          obtain ⟨y19, hy19, hm⟩ := bind_some hm
          obtain ⟨cs8, hr12, hp2⟩ := elemS (ha_1.mono (((l1.trans l2).trans l15).trans l18)) hy19
          obtain ⟨v17, rfl, h18⟩ := rep_VersionedValue hr12
          refine wE (ev_idxS (ha_1.mono (((l1.trans l2).trans l15).trans l18)) hy19 tu22 ts35 rfl rfl) F S rfl fun a F=>?_
          refine wE (ev_loadA tu35 rfl (cs := [.i6 y19.Value, v17]) ts35 rfl (ptr_mono (cks := [[bx b4 #[.i6 y18.Value, v16] 35], [bx b1 #[.i6 0, .i6 0] 24]]) (fr := fr) hp2 (Le.refl _))) F S rfl fun a F=>?_
          refine wl_alloc (wn rfl) rfl tz35 (cs := [.i6 0, nilS]) rfl F S rfl rfl ?_; clear F a S; rintro b5 a w F S
          refine wl_storeC (wn rfl) rfl F S rfl rfl (vs := [.i6 y19.Value, v17]) rfl ts35 (one_cons rfl (one_cons h18.one one_nil)) (k := 0) rfl (lb rfl) (c' := #[.i6 y19.Value, v17]) rfl rfl ?_; clear S; intro w S
          refine wpList_nil ?_
          refine then_n ?_
          refine wp_seq ?_
          refine wp_region_lit ?_
          refine wE (ev_fieldAddr' tu35 tf35_1 (z := 0) ts33 rfl ⟨_, rfl⟩ rfl) F S rfl fun a F=>?_
          refine wE (ev_load1 tu33 rfl rfl (box_ptr (cells := [v17]) 0 rfl 1 rfl (lb rfl))) F S rfl fun a F=>?_
          refine wE (ev_fieldAddr' tu35 tf35_1 (z := 0) ts33 rfl ⟨_, rfl⟩ rfl) F S rfl fun a F=>?_
          refine wE (ev_load1 tu33 rfl rfl (box_ptr (cells := [v16]) 1 rfl 1 rfl (lb rfl))) F S rfl fun a F=>?_
          obtain ⟨y20, hy20, hm⟩ := bind_some hm
          refine wl_call0 (wn rfl) rfl F rfl (slices_Equal_ok (fr := (fl [[bx b5 #[.i6 y19.Value, v17] 35], [bx b4 #[.i6 y18.Value, v16] 35], [bx b1 #[.i6 0, .i6 0] 24]] fr)) y19.Vector v17 h18 y18.Vector v16 (h17.mono l18) S hy20) rfl tc20 rfl rfl ?_; clear F a S
          rintro _ a w ⟨g19, l19, S, rfl⟩ F; replace S : St g19 [[bx b5 #[.i6 y19.Value, v17] 35], [bx b4 #[.i6 y18.Value, v16] 35], [bx b1 #[.i6 0, .i6 0] 24]] fr w := S
          refine wE (ev_move rfl) F S rfl fun a F=>?_
          obtain ⟨x16, hx5, hm⟩ := bind_some hm
          refine wl_cut 6 (fun a w' => w = w' ∧ Fr 73 a [(51, .bool x16), (36, .i6 x14), (35, .i6 (a_.length : Int)), (34, va_1), (8, .i6 x12), (9, bp b4 0), (29, .i6 x12), (28, .i6 (b_.length : Int)), (27, vb_1), (5, bp b1 0), (0, va_1), (1, vb_1)]) ?_ ?_
          ·clear hm; obtain ⟨hc11, hm⟩ | ⟨hc11, hm⟩ := ite_or hx5
           ·refine wl_ev (wg F rfl rfl rfl rfl hc11) (ev_fieldAddr' tu35 tf35_0 (z := 0) ts3 rfl ⟨_, rfl⟩ rfl) F S rfl rfl ?_; clear F a; intro a F
            refine wl_ev (wg F rfl rfl rfl rfl hc11) (ev_load1 tu3 rfl rfl (box_ptr (cells := [.i6 y19.Value]) 0 rfl 0 rfl (lb rfl))) F S rfl rfl ?_; clear F a; intro a F
            refine wl_ev (wg F rfl rfl rfl rfl hc11) (ev_fieldAddr' tu35 tf35_0 (z := 0) ts3 rfl ⟨_, rfl⟩ rfl) F S rfl rfl ?_; clear F a; intro a F
            refine wl_ev (wg F rfl rfl rfl rfl hc11) (ev_load1 tu3 rfl rfl (box_ptr (cells := [.i6 y18.Value]) 1 rfl 0 rfl (lb rfl))) F S rfl rfl ?_; clear F a; intro a F
            refine wl_ev (wg F rfl rfl rfl rfl hc11) (ev_int rfl rfl (bo_neq _ _ _ _)) F S rfl rfl ?_; clear F a; intro a F
            refine wE (ev_pickT rfl hc11 rfl) F S rfl fun a F=>?_
            obtain rfl := sinj hm
            refine wpList_nil (then_n ?_); exact ⟨rfl, F.sub ⟨rfl, rfl, rfl, rfl, rfl, rfl, rfl, rfl, rfl, rfl, rfl, rfl, trivial⟩⟩
           ·refine wl_skip rfl rfl rfl rfl (ne_tf hc11) F rfl rfl ?_; clear F a; intro a F
            refine wl_skip rfl rfl rfl rfl (ne_tf hc11) F rfl rfl ?_; clear F a; intro a F
            refine wl_skip rfl rfl rfl rfl (ne_tf hc11) F rfl rfl ?_; clear F a; intro a F
            refine wl_skip rfl rfl rfl rfl (ne_tf hc11) F rfl rfl ?_; clear F a; intro a F
            refine wl_skip rfl rfl rfl rfl (ne_tf hc11) F rfl rfl ?_; clear F a; intro a F
            refine wE (ev_pickF rfl hc11 rfl) F S rfl fun a F=>?_
            obtain rfl := sinj hm
            refine wpList_nil (then_n ?_); exact ⟨rfl, F.sub ⟨rfl, rfl, rfl, rfl, rfl, rfl, rfl, rfl, rfl, rfl, rfl, rfl, trivial⟩⟩
          clear F; rintro a w' ⟨rfl, F⟩
          refine wpList_nil ?_
          refine then_n ?_
          obtain ⟨hc12, hm⟩ | ⟨hc12, hm⟩ := ite_or hm
          ·refine wp_condT F rfl hc12 ?_
           refine wp_seq ?_
           refine wp_region_lit ?_
           refine wE (ev_move rfl) F S rfl fun a F=>?_
           refine wE (ev_build (parts := [(0, .const (.i6 19)), (1, .tmp 52)]) (vs := [(0, .i6 19), (1, .i6 x12)]) rfl (fun w => tb24_0_1 19 x12 w)) F S rfl fun a F=>?_
           refine wE (ev_assign rfl) F S rfl fun a F=>?_
           refine wl_storeC (wn rfl) rfl F S rfl rfl (vs := [.i6 19, .i6 x12]) rfl ts24 (one_cons rfl (one_cons rfl one_nil)) (k := 2) rfl (lb rfl) (c' := #[.i6 19, .i6 x12]) rfl rfl ?_; clear S; intro w S
           refine wpList_nil ?_
           refine then_n ?_
           refine wp_ret ?_
           refine inb_r ?_
           refine then_r ?_
           refine then_r ?_
           refine inb_r ?_
           refine then_r ?_
           refine inb_r ?_
           refine then_r ?_
           refine then_r ?_
           refine inb_r ?_
           refine then_r ?_
           obtain rfl := sinj hm
           obtain rfl := hfin4 _ rfl
           clear hm
           have hm : (some (Step.done (Sum.inl ([], ({ Code := 19, Index := x12 } : Fault)))) : Option (Step Int (((List VersionedValue) × Fault) ⊕ Unit))) = some _ := hmo4
           obtain rfl := sinj hm
           obtain rfl := hfin3 _ rfl
           clear hm
           have hm : (some ([], ({ Code := 19, Index := x12 } : Fault)) : Option ((List VersionedValue) × Fault)) = some _ := hmo3
           obtain rfl := sinj hm
           replace S : St g19 [[], [bx b5 #[.i6 y19.Value, v17] 35], [bx b4 #[.i6 y18.Value, v16] 35], [bx b1 #[.i6 19, .i6 x12] 24]] fr w := S
           refine post_r _ F rfl (ar_cons (resT rfl) (ar_cons (resA rfl tu24 rfl (box_ptr (cells := [.i6 19, .i6 x12]) 3 rfl 0 rfl (lb rfl) w S) ts24) ar_nil)) ?_
           replace S : St g19 [[]] fr w := St.tail [[]] _ (S.frontC 0 rfl)
           exact ⟨_, rfl, g19, (nilS), [], ((((l1.trans l2).trans l15).trans l18).trans l19), S, (OwnS.nil _), rfl⟩
          ·refine wp_condF F rfl hc12 ?_
           refine wp_skip ?_
           refine inb_n ?_
           refine then_n ?_
           refine wp_region_lit ?_
           obtain ⟨z9, hz9, hm⟩ := bind_some hm
           refine wE (ev_int rfl rfl (bo_add hz9)) F S rfl fun a F=>?_
           refine wE (ev_move rfl) F S rfl fun a F=>?_
           refine wpList_nil ?_
           refine then_n ?_
           obtain rfl := sinj hm
           refine ⟨_, rfl, ?_⟩
           replace S : St g19 [[bx b4 #[.i6 y18.Value, v16] 35], [bx b1 #[.i6 0, .i6 0] 24]] fr w := St.tail [[bx b4 #[.i6 y18.Value, v16] 35], [bx b1 #[.i6 0, .i6 0] 24]] _ ((S.frontC 2 rfl).frontC 2 rfl)
           exact ⟨g19, F.sub ⟨rfl, rfl, rfl, rfl, rfl, rfl, rfl, rfl, rfl, rfl, rfl, trivial⟩, (l18.trans l19), S⟩
         ·refine wp_condF F rfl hc10 ?_
          refine wp_exit ?_
          refine then_e ?_
          refine then_e ?_
          refine inb_x ?_
          refine then_n ?_
          obtain rfl := sinj hm
          obtain rfl := hfin4 _ rfl
          clear hm
          have hm : (multivalue_Merge.j8 x12 : Option (Step Int (((List VersionedValue) × Fault) ⊕ Unit))) = some _ := hmo4
          replace S : St g18 [[bx b1 #[.i6 0, .i6 0] 24]] fr w := St.tail [[bx b1 #[.i6 0, .i6 0] 24]] _ (S.frontC 1 rfl)
          exact ⟨g18, F.sub ⟨rfl, rfl, rfl, rfl, rfl, rfl, trivial⟩, l18, S, hm⟩
       ·clear F S hm; rintro a w ⟨g17, F, l17, S, hm⟩
        refine inb_n ?_
        refine then_n ?_
        exact ⟨g17, F.sub ⟨rfl, rfl, rfl, rfl, rfl, rfl, trivial⟩, l17, S, hm⟩
      ·clear F S hm; rintro a w ⟨g16, F, l16, S, hm⟩
       refine wp_region_lit ?_
       obtain ⟨z8, hz8, hm⟩ := bind_some hm
       refine wE (ev_int rfl rfl (bo_add hz8)) F S rfl fun a F=>?_
       refine wE (ev_move rfl) F S rfl fun a F=>?_
       refine wpList_nil ?_
       refine then_n ?_
       obtain rfl := sinj hm
       refine ⟨_, rfl, ?_⟩
       exact ⟨g16, F.sub ⟨rfl, rfl, rfl, rfl, rfl, rfl, trivial⟩, (l15.trans l16), S⟩
     ·refine wp_condF F rfl hc9 ?_
      refine wp_exit ?_
      refine then_e ?_
      refine then_e ?_
      refine inb_x ?_
      refine then_n ?_
      obtain rfl := sinj hm
      obtain rfl := hfin3 _ rfl
      clear hm
      have hm : (multivalue_Merge.j1 a_ b_ : Option ((List VersionedValue) × Fault)) = some _ := hmo3
      exact ⟨g15, F.sub ⟨rfl, rfl, rfl, trivial⟩, l15, S, hm⟩
   ·clear F S hm; rintro a w ⟨g3, F, l3, S, hm⟩
    refine wp_seq ?_
    refine wp_region_lit ?_
    refine wE (ev_move rfl) F S rfl fun a F=>?_
    refine wE (ev_move rfl) F S rfl fun a F=>?_
    obtain ⟨y3, hy3, hm⟩ := bind_some hm
    refine wl_call0 (wn rfl) rfl F rfl (multivalue_left_ok (fr := (fl [[bx b1 #[.i6 0, .i6 0] 24]] fr)) a_ va_1 (ha_1.mono ((l1.trans l2).trans l3)) b_ vb_1 (hb_1.mono ((l1.trans l2).trans l3)) S hy3) rfl tc21 rfl rfl ?_; clear F a S
    rintro _ a w ⟨g4, v1, c1, l4, S, h1, rfl⟩ F; replace S : St g4 [c1, [bx b1 #[.i6 0, .i6 0] 24]] fr w := S
    refine wE (ev_move rfl) F S rfl fun a F=>?_
    refine wE (ev_move rfl) F S rfl fun a F=>?_
    obtain ⟨y4, hy4, hm⟩ := bind_some hm
    refine wl_call0 (wn rfl) rfl F rfl (multivalue_left_ok (fr := (fl [c1, [bx b1 #[.i6 0, .i6 0] 24]] fr)) b_ vb_1 (hb_1.mono (((l1.trans l2).trans l3).trans l4)) a_ va_1 (ha_1.mono (((l1.trans l2).trans l3).trans l4)) S hy4) rfl tc21 rfl rfl ?_; clear F a S
    rintro _ a w ⟨g5, v2, c2, l5, S, h2, rfl⟩ F; replace S : St g5 [c2, c1, [bx b1 #[.i6 0, .i6 0] 24]] fr w := S
    obtain ⟨cs1, hk1, hr1⟩ := OwnS.reads h2
    obtain ⟨y5, hy5, hm⟩ := bind_some hm
    refine wl_append (wn rfl) rfl tu22 tu22 te35 (by decide) (by decide) F S rfl rfl (k := 1) rfl (h1.mono l5) hk1 rfl (hr1 _ _ _ 0 rfl S) hy5 rfl rfl ?_; clear F a S
    rintro v3 c3 a w h3 S F; replace S : St g5 [c2, c3, [bx b1 #[.i6 0, .i6 0] 24]] fr w := S
    refine wE (ev_assign rfl) F S rfl fun a F=>?_
    refine wpList_nil ?_
    refine then_n ?_
    refine wp_seq ?_
    refine wp_region_lit ?_
    refine wE (ev_move rfl) F S rfl fun a F=>?_
    obtain ⟨y6, hy6, hm⟩ := bind_some hm
    replace S : St g5 [c3, c2, [bx b1 #[.i6 0, .i6 0] 24]] fr w := (((S.frontC 2 rfl).frontC 1 rfl).frontC 3 rfl)
    refine wl_call0 (wn rfl) rfl F rfl (sort_ok (δ := VersionedValue) Try.lay22 sA35 sZ35 tc23 (fun g w x y cx cy r hx hy S hm => by obtain ⟨xv0, rfl, xh0⟩ := rep_VersionedValue hx; obtain ⟨yv0, rfl, yh0⟩ := rep_VersionedValue hy; exact multivalue_Merge_s1_ok x xv0 xh0 y yv0 yh0 S hm) S h3 hy6) rfl tc22 rfl rfl ?_; clear F a S
    rintro _ a w ⟨c4, S, h4, rfl⟩ F; replace S : St g5 [c4, c2, [bx b1 #[.i6 0, .i6 0] 24]] fr w := S
    refine wpList_nil ?_
    refine then_n ?_
    refine wp_seq ?_
    refine wp_region_lit ?_
    refine wE (ev_move rfl) F S rfl fun a F=>?_
    refine wl_call (wn rfl) rfl (xs := [.tmp 65, .func 26]) (vs := [v3, .func (.func 26) #[] #[]]) (cap := []) (R := fun u1 w => ∃ (x1 : List VersionedValue) (v4 : Value) (c5 : Hl) (g6 : Gh), v4 = u1 ∧ Le g5 g6 ∧ St g6 [c5, [bx b1 #[.i6 0, .i6 0] 24]] fr w ∧ OwnS g6 x1 v4 c5 ∧ multivalue_Merge.j2 x1 = some r) F rfl rfl tc25 (calls_enter (fn := Try.f25) Try.func25 rfl Try.ntmps25 (lb rfl) ?_) rfl rfl ?_
    ·clear F a; intro a F
     replace F : Fr 66 a [(0, v3), (1, .func (.func 26) #[] #[])] := F
     refine wp_seq ?_
     refine wp_region_lit ?_
     refine wE (ev_assign rfl) F S rfl fun a F=>?_
     refine wpList_nil ?_
     refine then_n ?_
     refine wp_seq ?_
     refine wp_seq ?_
     refine wp_region_lit ?_
     refine wE (ev_move rfl) F S rfl fun a F=>?_
     refine wE (ev_lenOw h4 rfl tu22) F S rfl fun a F=>?_
     refine wE (ev_int rfl rfl (bo_lss _ _ _ _)) F S rfl fun a F=>?_
     refine wpList_nil ?_
     refine then_n ?_
     obtain ⟨hc4, hm⟩ | ⟨hc4, hm⟩ := ite_or hm
     ·refine wp_condT F rfl hc4 ?_
      refine wp_seq ?_
      refine wp_region_lit ?_
      refine wE (ev_move rfl) F S rfl fun a F=>?_
      refine wE (ev_assign rfl) F S rfl fun a F=>?_
      refine wpList_nil ?_
      refine then_n ?_
      refine wp_ret ?_
      refine then_r ?_
      refine post_r _ F rfl (ar_cons (resT rfl) ar_nil) ?_
      replace S : St g5 [c4, [bx b1 #[.i6 0, .i6 0] 24]] fr w := St.tail [c4, [bx b1 #[.i6 0, .i6 0] 24]] _ ((S.frontC 2 rfl).frontC 1 rfl)
      exact ⟨_, rfl, ⟨y6, v3, c4, g5, rfl, (Le.refl _), S, h4, hm⟩⟩
     ·refine wp_condF F rfl hc4 ?_
      refine wp_skip ?_
      refine then_n ?_
      refine wp_cut (fun a w => ∃ (g7 : Gh), Fr 66 a [(0, v3)] ∧ Le g5 g7 ∧ St g7 [c4, [bx b1 #[.i6 0, .i6 0] 24]] fr w ∧ multivalue_Merge.j3 y6 = some r) ?_ ?_
      ·refine wp_seq ?_
       refine wp_region_lit ?_
       refine wE (ev_assign rfl) F S rfl fun a F=>?_
       refine wpList_nil ?_
       refine then_n ?_
       refine wp_block ?_
       obtain ⟨r1, hr2, hm⟩ := bind_some hm
       have hmo1 := hm; clear hm
       refine wp_iter (σ := Int) (ρ := (List VersionedValue) ⊕ Unit) (m := fun s => multivalue_Merge.l1 y6 s) (I := fun x2 a w => ∃ (g8 : Gh), Fr 66 a [(5, .i6 x2), (0, v3), (1, .func (.func 26) #[] #[])] ∧ Le g5 g8 ∧ St g8 [c4, [bx b1 #[.i6 0, .i6 0] 24]] fr w) hr2 ?_ ?_
       ·replace S : St g5 [c4, [bx b1 #[.i6 0, .i6 0] 24]] fr w := St.tail [c4, [bx b1 #[.i6 0, .i6 0] 24]] _ ((S.frontC 2 rfl).frontC 1 rfl)
        exact ⟨g5, F.sub ⟨rfl, rfl, rfl, trivial⟩, (Le.refl _), S⟩
       ·clear F S; rintro x2 a w x3 ⟨g8, F, l8, S⟩ hx1 hfin1
        have hm : multivalue_Merge.l1 y6 x2 = some x3 := hx1; clear hx1
        unfold multivalue_Merge.l1 at hm
        refine wp_seq ?_
        refine wp_seq ?_
        refine wp_region_lit ?_
        refine wE (ev_move rfl) F S rfl fun a F=>?_
        refine wE (ev_move rfl) F S rfl fun a F=>?_
        refine wE (ev_lenOw h4 rfl tu22) F S rfl fun a F=>?_
        refine wE (ev_int rfl rfl (bo_lss _ _ _ _)) F S rfl fun a F=>?_
        refine wpList_nil ?_
        refine then_n ?_
        obtain ⟨hc5, hm⟩ | ⟨hc5, hm⟩ := ite_or hm
        ·refine wp_condT F rfl hc5 ?_
         refine wp_skip ?_
         refine then_n ?_
         refine wp_cut (fun a w => ∃ (g9 : Gh), Fr 66 a [(5, .i6 x2), (0, v3), (1, .func (.func 26) #[] #[])] ∧ Le g8 g9 ∧ St g9 [c4, [bx b1 #[.i6 0, .i6 0] 24]] fr w ∧ multivalue_Merge.j4 x2 = some x3) ?_ ?_
         ·refine wp_block ?_
          refine wp_seq ?_
          refine wp_quiet mo (by kernel_rfl) S ?_
          refine wq_ev (wn rfl) (ev_move rfl) F rfl rfl ?_; clear F a; intro a F
          refine wq_ev (wn rfl) (ev_move rfl) F rfl rfl ?_; clear F a; intro a F
          refine wq_ev (wn rfl) (ev_move rfl) F rfl rfl ?_; clear F a; intro a F
          obtain ⟨y7, hy7, hm⟩ := bind_some hm
          refine wq_ev (wn rfl) (ev_idxO (h4.mono l8) hy7 tu22 ts35 rfl rfl) F rfl rfl ?_; clear F a; intro a F
          obtain ⟨cs2, hr3, hq1⟩ := elemO (h4.mono l8) hy7
          obtain ⟨v5, rfl, h6⟩ := rep_VersionedValue hr3
          refine wq_ev (wn rfl) (ev_loadA tu35 rfl (cs := [.i6 y7.Value, v5]) ts35 rfl (hq1 _ _ 0 rfl)) F rfl rfl ?_; clear F a; intro a F
          refine wq_ev (wn rfl) (ev_move rfl) F rfl rfl ?_; clear F a; intro a F
          refine wq_ev (wn rfl) (ev_move rfl) F rfl rfl ?_; clear F a; intro a F
          obtain ⟨z2, hz2, hm⟩ := bind_some hm
          refine wq_ev (wn rfl) (ev_int rfl rfl (bo_sub hz2)) F rfl rfl ?_; clear F a; intro a F
          obtain ⟨y8, hy8, hm⟩ := bind_some hm
          refine wq_ev (wn rfl) (ev_idxO (h4.mono l8) hy8 tu22 ts35 rfl rfl) F rfl rfl ?_; clear F a; intro a F
          obtain ⟨cs3, hr4, hq2⟩ := elemO (h4.mono l8) hy8
          obtain ⟨v6, rfl, h7⟩ := rep_VersionedValue hr4
          refine wq_ev (wn rfl) (ev_loadA tu35 rfl (cs := [.i6 y8.Value, v6]) ts35 rfl (hq2 _ _ 0 rfl)) F rfl rfl ?_; clear F a; intro a F
          obtain ⟨y9, hy9, hm⟩ := bind_some hm
          refine wq_call (wn rfl) rfl (xs := [.tmp 22, .tmp 27]) (vs := [.agg #[.i6 y7.Value, v5], .agg #[.i6 y8.Value, v6]]) (cap := []) F rfl rfl tc26 (v := .bool y9) (fun w S => (multivalue_Merge_s2_ok (g := g8) (fr := (fl [c4, [bx b1 #[.i6 0, .i6 0] 24]] fr)) (w := w) y7 v5 h6 y8 v6 h7 S hy9).mono (by rintro en w' ⟨_, rfl, g2, l2, S2, rfl⟩; exact ⟨rfl, S2.weak l2⟩)) rfl rfl ?_; clear F a; intro a F
          refine wq_nil ?_; clear S; intro w S
          refine then_n ?_
          obtain ⟨hc6, hm⟩ | ⟨hc6, hm⟩ := ite_or hm
          ·refine wp_condT F rfl hc6 ?_
           refine wp_seq ?_
           refine wp_region_lit ?_
           refine wE (ev_move rfl) F S rfl fun a F=>?_
           refine wE (ev_move rfl) F S rfl fun a F=>?_
           obtain ⟨z3, hz3, hm⟩ := bind_some hm
           obtain ⟨v7, hA1, he1⟩ := ev_cutA (P := Try.prog) (n := 66) (e := [(30, .i6 x2), (29, v3), (28, .bool y9), (27, .agg #[.i6 y8.Value, v6]), (26, elemP v3 z2 2), (25, .i6 z2), (24, .i6 x2), (23, v3), (22, .agg #[.i6 y7.Value, v5]), (21, elemP v3 x2 2), (20, .i6 x2), (19, v3), (18, .func (.func 26) #[] #[]), (15, .bool (decide (x2 < (y6.length : Int)))), (14, .i6 (y6.length : Int)), (13, v3), (12, .i6 x2), (5, .i6 x2), (0, v3), (1, .func (.func 26) #[] #[])]) (C := fun w => St g8 [c4, [bx b1 #[.i6 0, .i6 0] 24]] fr w) (x := .tmp 29) (lo := some (.tmp 30)) (h4.mono l8) hz3 tu22 ts35 rfl (bndV rfl)
           refine wE he1 F S rfl fun a F=>?_
           refine wE (ev_assign rfl) F S rfl fun a F=>?_
           refine wpList_nil ?_
           refine then_n ?_
           refine wp_cut (fun a w => ∃ (x4 : Int) (x5 : List VersionedValue) (c6 : Hl) (g11 : Gh), Fr 66 a [(5, .i6 x4), (0, v3)] ∧ Le g8 g11 ∧ St g11 [c6, [bx b1 #[.i6 0, .i6 0] 24]] fr w ∧ OwnS g11 x5 v3 c6 ∧ multivalue_Merge.j5 x4 x5 = some x3) ?_ ?_
           ·refine wp_seq ?_
            refine wp_region_lit ?_
            refine wE (ev_assign rfl) F S rfl fun a F=>?_
            refine wpList_nil ?_
            refine then_n ?_
            refine wp_block ?_
            obtain ⟨r2, hr5, hm⟩ := bind_some hm
            have hmo2 := hm; clear hm
            refine wp_iter (σ := Int × Int × (List VersionedValue)) (ρ := Int × (List VersionedValue)) (m := fun s => multivalue_Merge.l2 x2 z3 s.1 s.2.1 s.2.2) (I := fun s a w => match s with | (x6, x7, x8) => ∃ (c8 : Hl) (g12 : Gh), Fr 66 a [(7, .i6 x6), (6, v7), (5, .i6 x7), (0, v3), (1, .func (.func 26) #[] #[])] ∧ Le g8 g12 ∧ St g12 [c8, [bx b1 #[.i6 0, .i6 0] 24]] fr w ∧ OwnS g12 x8 v3 c8) hr5 ?_ ?_
            ·dsimp only
             exact ⟨c4, g8, F.sub ⟨rfl, rfl, rfl, rfl, rfl, trivial⟩, (Le.refl _), S, (h4.mono l8)⟩
            ·clear F S; rintro ⟨x6, x7, x8⟩ a w x9 ⟨c8, g12, F, l12, S, h11⟩ hx2 hfin2
             have hm : multivalue_Merge.l2 x2 z3 x6 x7 x8 = some x9 := hx2; clear hx2
             unfold multivalue_Merge.l2 at hm
             refine wp_seq ?_
             refine wp_seq ?_
             refine wp_region_lit ?_
             refine wE (ev_move rfl) F S rfl fun a F=>?_
             refine wE (ev_move rfl) F S rfl fun a F=>?_
             refine wE (ev_lenAl hA1 rfl tu22) F S rfl fun a F=>?_
             refine wE (ev_int rfl rfl (bo_lss _ _ _ _)) F S rfl fun a F=>?_
             refine wpList_nil ?_
             refine then_n ?_
             obtain ⟨hc7, hm⟩ | ⟨hc7, hm⟩ := ite_or hm
             ·refine wp_condT F rfl hc7 ?_
              refine wp_skip ?_
              refine then_n ?_
              refine wp_cut (fun a w => ∃ (x10 : Int) (x11 : List VersionedValue) (c9 : Hl) (g13 : Gh), Fr 66 a [(5, .i6 x10), (7, .i6 x6), (6, v7), (0, v3), (1, .func (.func 26) #[] #[])] ∧ Le g12 g13 ∧ St g13 [c9, [bx b1 #[.i6 0, .i6 0] 24]] fr w ∧ OwnS g13 x11 v3 c9 ∧ multivalue_Merge.j6 x6 x10 x11 = some x9) ?_ ?_
              ·refine wp_block ?_
               refine wp_seq ?_
               refine wp_quiet mo (by kernel_rfl) S ?_
               refine wq_ev (wn rfl) (ev_move rfl) F rfl rfl ?_; clear F a; intro a F
               refine wq_ev (wn rfl) (ev_move rfl) F rfl rfl ?_; clear F a; intro a F
               refine wq_ev (wn rfl) (ev_move rfl) F rfl rfl ?_; clear F a; intro a F
               obtain ⟨y12, hy12, hm⟩ := bind_some hm
               refine wq_ev (wn rfl) (ev_idxA hA1 hy12 tu22 ts35 rfl rfl) F rfl rfl ?_; clear F a; intro a F
               obtain ⟨cs4, hr6, hq3⟩ := elemO h11 (atA?_at hy12)
               obtain ⟨v13, rfl, h13⟩ := rep_VersionedValue hr6
               refine wq_ev (wn rfl) (ev_loadA tu35 rfl (cs := [.i6 y12.Value, v13]) ts35 rfl (hq3 _ _ 0 rfl)) F rfl rfl ?_; clear F a; intro a F
               refine wq_ev (wn rfl) (ev_move rfl) F rfl rfl ?_; clear F a; intro a F
               refine wq_ev (wn rfl) (ev_move rfl) F rfl rfl ?_; clear F a; intro a F
               obtain ⟨z6, hz6, hm⟩ := bind_some hm
               refine wq_ev (wn rfl) (ev_int rfl rfl (bo_sub hz6)) F rfl rfl ?_; clear F a; intro a F
               obtain ⟨y13, hy13, hm⟩ := bind_some hm
               refine wq_ev (wn rfl) (ev_idxA hA1 hy13 tu22 ts35 rfl rfl) F rfl rfl ?_; clear F a; intro a F
               obtain ⟨cs5, hr7, hq4⟩ := elemO h11 (atA?_at hy13)
               obtain ⟨v14, rfl, h14⟩ := rep_VersionedValue hr7
               refine wq_ev (wn rfl) (ev_loadA tu35 rfl (cs := [.i6 y13.Value, v14]) ts35 rfl (hq4 _ _ 0 rfl)) F rfl rfl ?_; clear F a; intro a F
               obtain ⟨y14, hy14, hm⟩ := bind_some hm
               refine wq_call (wn rfl) rfl (xs := [.tmp 42, .tmp 47]) (vs := [.agg #[.i6 y12.Value, v13], .agg #[.i6 y13.Value, v14]]) (cap := []) F rfl rfl tc26 (v := .bool y14) (fun w S => (multivalue_Merge_s2_ok (g := g12) (fr := (fl [c8, [bx b1 #[.i6 0, .i6 0] 24]] fr)) (w := w) y12 v13 h13 y13 v14 h14 S hy14).mono (by rintro en w' ⟨_, rfl, g2, l2, S2, rfl⟩; exact ⟨rfl, S2.weak l2⟩)) rfl rfl ?_; clear F a; intro a F
               refine wq_ev (wn rfl) (ev_not rfl) F rfl rfl ?_; clear F a; intro a F
               refine wq_nil ?_; clear S; intro w S
               refine then_n ?_
               obtain ⟨hc8, hm⟩ | ⟨hc8, hm⟩ := ite_or hm
               ·refine wp_condT F rfl hc8 ?_
                refine wp_seq ?_
                refine wp_region_lit ?_
                refine wE (ev_move rfl) F S rfl fun a F=>?_
                refine wE (ev_move rfl) F S rfl fun a F=>?_
                refine wE (ev_move rfl) F S rfl fun a F=>?_
                refine wE (ev_move rfl) F S rfl fun a F=>?_
                obtain ⟨y15, hy15, hm⟩ := bind_some hm
                refine wE (ev_idxA hA1 hy15 tu22 ts35 rfl rfl) F S rfl fun a F=>?_
                obtain ⟨cs6, hr8, hq5⟩ := elemO h11 (atA?_at hy15)
                obtain ⟨v15, rfl, h15⟩ := rep_VersionedValue hr8
                refine wE (ev_loadA tu35 rfl (cs := [.i6 y15.Value, v15]) ts35 rfl (hq5 _ _ 0 rfl)) F S rfl fun a F=>?_
                obtain ⟨y16, hy16, hm⟩ := bind_some hm
                refine wE (ev_idxO h11 hy16 tu22 ts35 rfl rfl) F S rfl fun a F=>?_
                obtain ⟨y17, hy17, hm⟩ := bind_some hm
                refine wl_storeW (z' := y15) (wn rfl) rfl F S h11 hy16 rfl rfl (us := [.i6 y15.Value, v15]) rfl ts35 (one_cons rfl (one_cons h15.one one_nil)) (k := 0) rfl rfl (rep_VersionedValue_mk (x := y15) h15) rfl ?_; clear S
                rintro c10 w h16 S; replace S : St g12 [c10, [bx b1 #[.i6 0, .i6 0] 24]] fr w := S; replace h16 : OwnS g12 y17 v3 c10 := sinj hy17 ▸ h16
                replace F := F.sub (e' := [(56, elemP v3 x7 2), (55, .agg #[.i6 y15.Value, v15]), (53, .i6 x6), (52, v7), (51, .i6 x7), (50, v3), (49, .bool !y14), (48, .bool y14), (47, .agg #[.i6 y13.Value, v14]), (45, .i6 z6), (44, .i6 x6), (43, v7), (42, .agg #[.i6 y12.Value, v13]), (40, .i6 x6), (39, v7), (38, .func (.func 26) #[] #[]), (35, .bool (decide (x6 < z3))), (34, .i6 z3), (33, v7), (32, .i6 x6), (7, .i6 x6), (6, v7), (5, .i6 x7), (0, v3), (1, .func (.func 26) #[] #[])]) ⟨rfl, rfl, rfl, rfl, rfl, rfl, rfl, rfl, rfl, rfl, rfl, rfl, rfl, rfl, rfl, rfl, rfl, rfl, rfl, rfl, rfl, rfl, rfl, rfl, rfl, trivial⟩
                refine wpList_nil ?_
                refine then_n ?_
                refine wp_region_lit ?_
                refine wE (ev_move rfl) F S rfl fun a F=>?_
                obtain ⟨z7, hz7, hm⟩ := bind_some hm
                refine wE (ev_int rfl rfl (bo_add hz7)) F S rfl fun a F=>?_
                refine wE (ev_assign rfl) F S rfl fun a F=>?_
                refine wpList_nil ?_
                refine inb_n ?_
                refine then_n ?_
                exact ⟨z7, y17, c10, g12, F.sub ⟨rfl, rfl, rfl, rfl, rfl, trivial⟩, (Le.refl _), S, h16, hm⟩
               ·refine wp_condF F rfl hc8 ?_
                refine wp_skip ?_
                refine inb_n ?_
                refine then_n ?_
                exact ⟨x7, x8, c8, g12, F.sub ⟨rfl, rfl, rfl, rfl, rfl, trivial⟩, (Le.refl _), S, h11, hm⟩
              ·clear F S hm; rintro a w ⟨x10, x11, c9, g13, F, l13, S, h12, hm⟩
               refine wp_region_lit ?_
               refine wE (ev_move rfl) F S rfl fun a F=>?_
               obtain ⟨z5, hz5, hm⟩ := bind_some hm
               refine wE (ev_int rfl rfl (bo_add hz5)) F S rfl fun a F=>?_
               refine wE (ev_assign rfl) F S rfl fun a F=>?_
               refine wpList_nil ?_
               refine then_n ?_
               obtain rfl := sinj hm
               refine ⟨_, rfl, ?_⟩
               dsimp only
               exact ⟨c9, g13, F.sub ⟨rfl, rfl, rfl, rfl, rfl, trivial⟩, (l12.trans l13), S, h12⟩
             ·refine wp_condF F rfl hc7 ?_
              refine wp_exit ?_
              refine then_e ?_
              refine then_e ?_
              refine inb_x ?_
              refine then_n ?_
              obtain rfl := sinj hm
              obtain rfl := hfin2 _ rfl
              clear hm
              have hm : (multivalue_Merge.j5 x7 x8 : Option (Step Int ((List VersionedValue) ⊕ Unit))) = some _ := hmo2
              exact ⟨x7, x8, c8, g12, F.sub ⟨rfl, rfl, trivial⟩, l12, S, h11, hm⟩
           ·clear F S hm; rintro a w ⟨x4, x5, c6, g11, F, l11, S, h8, hm⟩
            refine wp_seq ?_
            refine wp_region_lit ?_
            refine wE (ev_move rfl) F S rfl fun a F=>?_
            refine wE (ev_move rfl) F S rfl fun a F=>?_
            obtain ⟨z4, hz4, hm⟩ := bind_some hm
            obtain ⟨v9, hA2, he2⟩ := ev_cutA (P := Try.prog) (n := 66) (e := [(60, .i6 x4), (59, v3), (5, .i6 x4), (0, v3)]) (C := fun w => St g11 [c6, [bx b1 #[.i6 0, .i6 0] 24]] fr w) (x := .tmp 59) (lo := some (.tmp 60)) h8 hz4 tu22 ts35 rfl (bndV rfl)
            refine wE he2 F S rfl fun a F=>?_
            obtain ⟨y10, hy10, hm⟩ := bind_some hm
            refine wl_clearA (wn rfl) rfl tu22 te35 (fun g => (rep_VersionedValue_mk (x := ({ Value := 0, Vector := [] } : VersionedValue)) (RepSl.nil _))) F S rfl (j := 0) rfl h8 hA2 hy10 rfl ?_; clear S
            rintro c7 w h9 S; replace S : St g11 [c7, [bx b1 #[.i6 0, .i6 0] 24]] fr w := S
            refine wpList_nil ?_
            refine then_n ?_
            refine wp_seq ?_
            refine wp_region_lit ?_
            refine wE (ev_move rfl) F S rfl fun a F=>?_
            refine wE (ev_move rfl) F S rfl fun a F=>?_
            obtain ⟨y11, hy11, hm⟩ := bind_some hm
            refine wl_cutO (wn rfl) rfl h9 hy11 tu22 ts35 rfl (bnd0 _) (bndV rfl) F rfl rfl ?_; clear F a; rintro v10 h10 a F
            refine wE (ev_assign rfl) F S rfl fun a F=>?_
            refine wpList_nil ?_
            refine then_n ?_
            refine wp_ret ?_
            refine inb_r ?_
            refine then_r ?_
            refine then_r ?_
            refine inb_r ?_
            refine then_r ?_
            obtain rfl := sinj hm
            obtain rfl := hfin1 _ rfl
            clear hm
            have hm : (multivalue_Merge.j2 y11 : Option ((List VersionedValue) × Fault)) = some _ := hmo1
            refine post_r _ F rfl (ar_cons (resT rfl) ar_nil) ?_
            exact ⟨_, rfl, ⟨y11, v10, c7, g11, rfl, (l8.trans l11), S, h10, hm⟩⟩
          ·refine wp_condF F rfl hc6 ?_
           refine wp_skip ?_
           refine inb_n ?_
           refine then_n ?_
           exact ⟨g8, F.sub ⟨rfl, rfl, rfl, trivial⟩, (Le.refl _), S, hm⟩
         ·clear F S hm; rintro a w ⟨g9, F, l9, S, hm⟩
          refine wp_region_lit ?_
          refine wE (ev_move rfl) F S rfl fun a F=>?_
          obtain ⟨z1, hz1, hm⟩ := bind_some hm
          refine wE (ev_int rfl rfl (bo_add hz1)) F S rfl fun a F=>?_
          refine wE (ev_assign rfl) F S rfl fun a F=>?_
          refine wpList_nil ?_
          refine then_n ?_
          obtain rfl := sinj hm
          refine ⟨_, rfl, ?_⟩
          exact ⟨g9, F.sub ⟨rfl, rfl, rfl, trivial⟩, (l8.trans l9), S⟩
        ·refine wp_condF F rfl hc5 ?_
         refine wp_exit ?_
         refine then_e ?_
         refine then_e ?_
         refine inb_x ?_
         refine then_n ?_
         obtain rfl := sinj hm
         obtain rfl := hfin1 _ rfl
         clear hm
         have hm : (multivalue_Merge.j3 y6 : Option ((List VersionedValue) × Fault)) = some _ := hmo1
         exact ⟨g8, F.sub ⟨rfl, trivial⟩, l8, S, hm⟩
      ·clear F S hm; rintro a w ⟨g7, F, l7, S, hm⟩
       refine wp_seq ?_
       refine wp_region_lit ?_
       refine wE (ev_move rfl) F S rfl fun a F=>?_
       refine wE (ev_assign rfl) F S rfl fun a F=>?_
       refine wpList_nil ?_
       refine then_n ?_
       refine wp_ret ?_
       refine post_r _ F rfl (ar_cons (resT rfl) ar_nil) ?_
       exact ⟨_, rfl, ⟨y6, v3, c4, g7, rfl, l7, S, (h4.mono l7), hm⟩⟩
    ·clear F S hm; rintro _ a w ⟨x1, v4, c5, g6, rfl, l6, S, h5, hm⟩ F
     replace F := F.sub (e' := [(66, v4), (5, bp b1 0)]) ⟨rfl, rfl, trivial⟩
     refine wE (ev_assign rfl) F S rfl fun a F=>?_
     refine wpList_nil ?_
     refine then_n ?_
     refine wp_seq ?_
     refine wp_seq ?_
     refine wp_region_lit ?_
     refine wE (ev_move rfl) F S rfl fun a F=>?_
     refine wE (ev_lenOw h5 rfl tu22) F S rfl fun a F=>?_
     refine wE (ev_int rfl rfl (bo_gtr _ _ _ _)) F S rfl fun a F=>?_
     refine wpList_nil ?_
     refine then_n ?_
     obtain ⟨hc3, hm⟩ | ⟨hc3, hm⟩ := ite_or hm
     ·refine wp_condT F rfl hc3 ?_
      refine wp_seq ?_
      refine wp_region_lit ?_
      refine wE (ev_build (parts := [(0, .const (.i6 10)), (1, .const (.i6 (-1)))]) (vs := [(0, .i6 10), (1, .i6 (-1))]) rfl (fun w => tb24_0_1 10 (-1) w)) F S rfl fun a F=>?_
      refine wE (ev_assign rfl) F S rfl fun a F=>?_
      refine wl_storeC (wn rfl) rfl F S rfl rfl (vs := [.i6 10, .i6 (-1)]) rfl ts24 (one_cons rfl (one_cons rfl one_nil)) (k := 1) rfl (lb rfl) (c' := #[.i6 10, .i6 (-1)]) rfl rfl ?_; clear S; intro w S
      refine wpList_nil ?_
      refine then_n ?_
      refine wp_ret ?_
      refine then_r ?_
      obtain rfl := sinj hm
      replace S : St g6 [[], c5, [bx b1 #[.i6 10, .i6 (-1)] 24]] fr w := S
      refine post_r _ F rfl (ar_cons (resT rfl) (ar_cons (resA rfl tu24 rfl (box_ptr (cells := [.i6 10, .i6 (-1)]) 2 rfl 0 rfl (lb rfl) w S) ts24) ar_nil)) ?_
      replace S : St g6 [[]] fr w := St.tail [[]] _ (S.frontC 0 rfl)
      exact ⟨_, rfl, g6, (nilS), [], (((((l1.trans l2).trans l3).trans l4).trans l5).trans l6), S, (OwnS.nil _), rfl⟩
     ·refine wp_condF F rfl hc3 ?_
      refine wp_skip ?_
      refine then_n ?_
      refine wp_seq ?_
      refine wp_region_lit ?_
      refine wE (ev_move rfl) F S rfl fun a F=>?_
      refine wE (ev_build (parts := []) (vs := []) rfl (fun w => tb24_  w)) F S rfl fun a F=>?_
      refine wE (ev_assign rfl) F S rfl fun a F=>?_
      refine wl_storeC (wn rfl) rfl F S rfl rfl (vs := [.i6 0, .i6 0]) rfl ts24 (one_cons rfl (one_cons rfl one_nil)) (k := 1) rfl (lb rfl) (c' := #[.i6 0, .i6 0]) rfl rfl ?_; clear S; intro w S
      refine wpList_nil ?_
      refine then_n ?_
      refine wp_ret ?_
      obtain rfl := sinj hm
      refine post_r _ F rfl (ar_cons (resT rfl) (ar_cons (resA rfl tu24 rfl (box_ptr (cells := [.i6 0, .i6 0]) 1 rfl 0 rfl (lb rfl) w S) ts24) ar_nil)) ?_
      replace S : St g6 [c5] fr w := St.tail [c5] _ (S.frontC 0 rfl)
      exact ⟨_, rfl, g6, v4, c5, (((((l1.trans l2).trans l3).trans l4).trans l5).trans l6), S, h5, rfl⟩

theorem changeforgeequal_Ints_ok {g : Gh} {fr : Hl} {w : World} {r : Bool} (a_ : (List Int)) (va_1 : Value) (ha_1 : RepSl g a_ va_1) (b_ : (List Int)) (vb_1 : Value) (hb_1 : RepSl g b_ vb_1) (S : St g [] fr w) (hm : changeforgeequal_Ints a_ b_ = some r) :
  Calls Try.prog 29 [va_1, vb_1].toArray w (fun en w' => ∃ v, en = .returned v ∧ ∃ (g' : Gh), Le g g' ∧ St g' [] fr w' ∧ .bool r = v) := by
 unfold changeforgeequal_Ints at hm
 refine calls_enter (fn := Try.f29) Try.func29 rfl Try.ntmps29 (lb rfl) ?_
 intro a F
 replace F : Fr 26 a [(0, va_1), (1, vb_1)] := F
 refine wp_seq ?_
 refine wp_region_lit ?_
 refine wE (ev_assign rfl) F S rfl fun a F=>?_
 refine wpList_nil ?_
 refine then_n ?_
 refine wp_seq ?_
 refine wp_seq ?_
 refine wp_region_lit ?_
 refine wE (ev_move rfl) F S rfl fun a F=>?_
 refine wE (ev_lenSh ha_1 rfl tu33) F S rfl fun a F=>?_
 refine wE (ev_move rfl) F S rfl fun a F=>?_
 refine wE (ev_lenSh hb_1 rfl tu33) F S rfl fun a F=>?_
 refine wE (ev_int rfl rfl (bo_neq _ _ _ _)) F S rfl fun a F=>?_
 refine wpList_nil ?_
 refine then_n ?_
 obtain ⟨hc1, hm⟩ | ⟨hc1, hm⟩ := ite_or hm
 ·refine wp_condT F rfl hc1 ?_
  refine wp_seq ?_
  refine wp_region_lit ?_
  refine wE (ev_assign rfl) F S rfl fun a F=>?_
  refine wpList_nil ?_
  refine then_n ?_
  refine wp_ret ?_
  refine then_r ?_
  obtain rfl := sinj hm
  refine post_r _ F rfl (ar_cons (resT rfl) ar_nil) ?_
  exact ⟨_, rfl, g, (Le.refl _), S, rfl⟩
 ·refine wp_condF F rfl hc1 ?_
  refine wp_skip ?_
  refine then_n ?_
  refine wp_cut (fun a w => ∃ (g1 : Gh), Fr 26 a [] ∧ Le g g1 ∧ St g1 [] fr w ∧ changeforgeequal_Ints.j1 = some r) ?_ ?_
  ·refine wp_seq ?_
   refine wp_region_lit ?_
   refine wE (ev_assign rfl) F S rfl fun a F=>?_
   refine wpList_nil ?_
   refine then_n ?_
   refine wp_block ?_
   obtain ⟨r1, hr1, hm⟩ := bind_some hm
   have hmo1 := hm; clear hm
   refine wp_iter (σ := Int) (ρ := Bool ⊕ Unit) (m := fun s => changeforgeequal_Ints.l1 a_ b_ s) (I := fun x1 a w => ∃ (g2 : Gh), Fr 26 a [(5, .i6 x1), (0, va_1), (1, vb_1)] ∧ Le g g2 ∧ St g2 [] fr w) hr1 ?_ ?_
   ·exact ⟨g, F.sub ⟨rfl, rfl, rfl, trivial⟩, (Le.refl _), S⟩
   ·clear F S; rintro x1 a w x2 ⟨g2, F, l2, S⟩ hx1 hfin1
    have hm : changeforgeequal_Ints.l1 a_ b_ x1 = some x2 := hx1; clear hx1
    unfold changeforgeequal_Ints.l1 at hm
    refine wp_seq ?_
    refine wp_seq ?_
    refine wp_region_lit ?_
    refine wE (ev_move rfl) F S rfl fun a F=>?_
    refine wE (ev_move rfl) F S rfl fun a F=>?_
    refine wE (ev_lenSh ha_1 rfl tu33) F S rfl fun a F=>?_
    refine wE (ev_int rfl rfl (bo_lss _ _ _ _)) F S rfl fun a F=>?_
    refine wpList_nil ?_
    refine then_n ?_
    obtain ⟨hc2, hm⟩ | ⟨hc2, hm⟩ := ite_or hm
    ·refine wp_condT F rfl hc2 ?_
     refine wp_skip ?_
     refine then_n ?_
     refine wp_seq ?_
     refine wp_block ?_
     refine wp_seq ?_
     refine wp_quiet mo (by kernel_rfl) S ?_
     refine wq_ev (wn rfl) (ev_move rfl) F rfl rfl ?_; clear F a; intro a F
     refine wq_ev (wn rfl) (ev_move rfl) F rfl rfl ?_; clear F a; intro a F
     obtain ⟨y1, hy1, hm⟩ := bind_some hm
     obtain ⟨cs1, hr2, hp1⟩ := elemS (ha_1.mono l2) hy1
     obtain rfl := rep_int hr2
     refine wq_ev (wn rfl) (ev_idxS (ha_1.mono l2) hy1 tu33 ts3 rfl rfl) F rfl rfl ?_; clear F a; intro a F
     refine wq_ev (wn rfl) (ev_load1 tu3 rfl rfl (ptr_mono (cks := []) (fr := fr) hp1 (Le.refl _))) F rfl rfl ?_; clear F a; intro a F
     refine wq_ev (wn rfl) (ev_move rfl) F rfl rfl ?_; clear F a; intro a F
     refine wq_ev (wn rfl) (ev_move rfl) F rfl rfl ?_; clear F a; intro a F
     obtain ⟨y2, hy2, hm⟩ := bind_some hm
     obtain ⟨cs2, hr3, hp2⟩ := elemS (hb_1.mono l2) hy2
     obtain rfl := rep_int hr3
     refine wq_ev (wn rfl) (ev_idxS (hb_1.mono l2) hy2 tu33 ts3 rfl rfl) F rfl rfl ?_; clear F a; intro a F
     refine wq_ev (wn rfl) (ev_load1 tu3 rfl rfl (ptr_mono (cks := []) (fr := fr) hp2 (Le.refl _))) F rfl rfl ?_; clear F a; intro a F
     refine wq_ev (wn rfl) (ev_int rfl rfl (bo_neq _ _ _ _)) F rfl rfl ?_; clear F a; intro a F
     refine wq_nil ?_; clear S; intro w S
     refine then_n ?_
     obtain ⟨hc3, hm⟩ | ⟨hc3, hm⟩ := ite_or hm
     ·refine wp_condT F rfl hc3 ?_
      refine wp_seq ?_
      refine wp_region_lit ?_
      refine wE (ev_assign rfl) F S rfl fun a F=>?_
      refine wpList_nil ?_
      refine then_n ?_
      refine wp_ret ?_
      refine inb_r ?_
      refine then_r ?_
      refine then_r ?_
      refine inb_r ?_
      refine then_r ?_
      obtain rfl := sinj hm
      obtain rfl := hfin1 _ rfl
      clear hm
      have hm : (some false : Option Bool) = some _ := hmo1
      obtain rfl := sinj hm
      refine post_r _ F rfl (ar_cons (resT rfl) ar_nil) ?_
      exact ⟨_, rfl, g2, l2, S, rfl⟩
     ·refine wp_condF F rfl hc3 ?_
      refine wp_skip ?_
      refine inb_n ?_
      refine then_n ?_
      refine wp_region_lit ?_
      refine wE (ev_move rfl) F S rfl fun a F=>?_
      obtain ⟨z1, hz1, hm⟩ := bind_some hm
      refine wE (ev_int rfl rfl (bo_add hz1)) F S rfl fun a F=>?_
      refine wE (ev_assign rfl) F S rfl fun a F=>?_
      refine wpList_nil ?_
      refine then_n ?_
      obtain rfl := sinj hm
      refine ⟨_, rfl, ?_⟩
      exact ⟨g2, F.sub ⟨rfl, rfl, rfl, trivial⟩, l2, S⟩
    ·refine wp_condF F rfl hc2 ?_
     refine wp_exit ?_
     refine then_e ?_
     refine then_e ?_
     refine inb_x ?_
     refine then_n ?_
     obtain rfl := sinj hm
     obtain rfl := hfin1 _ rfl
     clear hm
     have hm : (changeforgeequal_Ints.j1 : Option Bool) = some _ := hmo1
     exact ⟨g2, F.sub trivial, l2, S, hm⟩
  ·clear F S hm; rintro a w ⟨g1, F, l1, S, hm⟩
   refine wp_seq ?_
   refine wp_region_lit ?_
   refine wE (ev_assign rfl) F S rfl fun a F=>?_
   refine wpList_nil ?_
   refine then_n ?_
   refine wp_ret ?_
   obtain rfl := sinj hm
   refine post_r _ F rfl (ar_cons (resT rfl) ar_nil) ?_
   exact ⟨_, rfl, g1, l1, S, rfl⟩

theorem changeforgeequal_Values_ok {g : Gh} {fr : Hl} {w : World} {r : Bool} (a_ : (List VersionedValue)) (va_1 : Value) (ha_1 : RepSl g a_ va_1) (b_ : (List VersionedValue)) (vb_1 : Value) (hb_1 : RepSl g b_ vb_1) (S : St g [] fr w) (hm : changeforgeequal_Values a_ b_ = some r) :
  Calls Try.prog 15 [va_1, vb_1].toArray w (fun en w' => ∃ v, en = .returned v ∧ ∃ (g' : Gh), Le g g' ∧ St g' [] fr w' ∧ .bool r = v) := by
 unfold changeforgeequal_Values at hm
 refine calls_enter (fn := Try.f15) Try.func15 rfl Try.ntmps15 (lb rfl) ?_
 intro a F
 replace F : Fr 42 a [(0, va_1), (1, vb_1)] := F
 refine wp_seq ?_
 refine wp_region_lit ?_
 refine wE (ev_assign rfl) F S rfl fun a F=>?_
 refine wpList_nil ?_
 refine then_n ?_
 refine wp_seq ?_
 refine wp_seq ?_
 refine wp_region_lit ?_
 refine wE (ev_move rfl) F S rfl fun a F=>?_
 refine wE (ev_lenSh ha_1 rfl tu22) F S rfl fun a F=>?_
 refine wE (ev_move rfl) F S rfl fun a F=>?_
 refine wE (ev_lenSh hb_1 rfl tu22) F S rfl fun a F=>?_
 refine wE (ev_int rfl rfl (bo_neq _ _ _ _)) F S rfl fun a F=>?_
 refine wpList_nil ?_
 refine then_n ?_
 obtain ⟨hc1, hm⟩ | ⟨hc1, hm⟩ := ite_or hm
 ·refine wp_condT F rfl hc1 ?_
  refine wp_seq ?_
  refine wp_region_lit ?_
  refine wE (ev_assign rfl) F S rfl fun a F=>?_
  refine wpList_nil ?_
  refine then_n ?_
  refine wp_ret ?_
  refine then_r ?_
  obtain rfl := sinj hm
  refine post_r _ F rfl (ar_cons (resT rfl) ar_nil) ?_
  exact ⟨_, rfl, g, (Le.refl _), S, rfl⟩
 ·refine wp_condF F rfl hc1 ?_
  refine wp_skip ?_
  refine then_n ?_
  refine wp_cut (fun a w => ∃ (g1 : Gh), Fr 42 a [] ∧ Le g g1 ∧ St g1 [] fr w ∧ changeforgeequal_Values.j1 = some r) ?_ ?_
  ·refine wp_seq ?_
   refine wp_region_lit ?_
   refine wE (ev_assign rfl) F S rfl fun a F=>?_
   refine wpList_nil ?_
   refine then_n ?_
   refine wp_block ?_
   obtain ⟨r1, hr1, hm⟩ := bind_some hm
   have hmo1 := hm; clear hm
   refine wp_iter (σ := Int) (ρ := Bool ⊕ Unit) (m := fun s => changeforgeequal_Values.l1 a_ b_ s) (I := fun x1 a w => ∃ (g2 : Gh), Fr 42 a [(5, .i6 x1), (0, va_1), (1, vb_1)] ∧ Le g g2 ∧ St g2 [] fr w) hr1 ?_ ?_
   ·exact ⟨g, F.sub ⟨rfl, rfl, rfl, trivial⟩, (Le.refl _), S⟩
   ·clear F S; rintro x1 a w x2 ⟨g2, F, l2, S⟩ hx1 hfin1
    have hm : changeforgeequal_Values.l1 a_ b_ x1 = some x2 := hx1; clear hx1
    unfold changeforgeequal_Values.l1 at hm
    refine wp_seq ?_
    refine wp_seq ?_
    refine wp_region_lit ?_
    refine wE (ev_move rfl) F S rfl fun a F=>?_
    refine wE (ev_move rfl) F S rfl fun a F=>?_
    refine wE (ev_lenSh ha_1 rfl tu22) F S rfl fun a F=>?_
    refine wE (ev_int rfl rfl (bo_lss _ _ _ _)) F S rfl fun a F=>?_
    refine wpList_nil ?_
    refine then_n ?_
    obtain ⟨hc2, hm⟩ | ⟨hc2, hm⟩ := ite_or hm
    ·refine wp_condT F rfl hc2 ?_
     refine wp_skip ?_
     refine then_n ?_
     refine wp_seq ?_
     refine wp_block ?_
     refine wp_seq ?_
     refine wp_quiet mo (by kernel_rfl) S ?_
     refine wq_ev (wn rfl) (ev_move rfl) F rfl rfl ?_; clear F a; intro a F
     refine wq_ev (wn rfl) (ev_move rfl) F rfl rfl ?_; clear F a; intro a F
     obtain ⟨y1, hy1, hm⟩ := bind_some hm
     obtain ⟨cs1, hr2, hp1⟩ := elemS (ha_1.mono l2) hy1
     obtain ⟨v1, rfl, h1⟩ := rep_VersionedValue hr2
     refine wq_ev (wn rfl) (ev_idxS (ha_1.mono l2) hy1 tu22 ts35 rfl rfl) F rfl rfl ?_; clear F a; intro a F
     have hp2 := PtrC.field hp1 0 1 (lb rfl)
     have hp2 : PtrC g2 (addP (elemP va_1 x1 2) 0) [.i6 y1.Value] := hp2
     refine wq_ev (wn rfl) (ev_fieldAddr' tu35 tf35_0 (z := 0) ts3 rfl hp1.ptr rfl) F rfl rfl ?_; clear F a; intro a F
     refine wq_ev (wn rfl) (ev_load1 tu3 rfl rfl (ptr_mono (cks := []) (fr := fr) hp2 (Le.refl _))) F rfl rfl ?_; clear F a; intro a F
     refine wq_ev (wn rfl) (ev_move rfl) F rfl rfl ?_; clear F a; intro a F
     refine wq_ev (wn rfl) (ev_move rfl) F rfl rfl ?_; clear F a; intro a F
     obtain ⟨y2, hy2, hm⟩ := bind_some hm
     obtain ⟨cs2, hr3, hp3⟩ := elemS (hb_1.mono l2) hy2
     obtain ⟨v2, rfl, h2⟩ := rep_VersionedValue hr3
     refine wq_ev (wn rfl) (ev_idxS (hb_1.mono l2) hy2 tu22 ts35 rfl rfl) F rfl rfl ?_; clear F a; intro a F
     have hp4 := PtrC.field hp3 0 1 (lb rfl)
     have hp4 : PtrC g2 (addP (elemP vb_1 x1 2) 0) [.i6 y2.Value] := hp4
     refine wq_ev (wn rfl) (ev_fieldAddr' tu35 tf35_0 (z := 0) ts3 rfl hp3.ptr rfl) F rfl rfl ?_; clear F a; intro a F
     refine wq_ev (wn rfl) (ev_load1 tu3 rfl rfl (ptr_mono (cks := []) (fr := fr) hp4 (Le.refl _))) F rfl rfl ?_; clear F a; intro a F
     refine wq_ev (wn rfl) (ev_int rfl rfl (bo_neq _ _ _ _)) F rfl rfl ?_; clear F a; intro a F
     refine wq_ev (wn rfl) (ev_move rfl) F rfl rfl ?_; clear F a; intro a F
     obtain ⟨x3, hx2, hm⟩ := bind_some hm
     refine wq_cut 13 (fun a => Fr 42 a [(41, .bool x3), (5, .i6 x1), (0, va_1), (1, vb_1)]) ?_ ?_
     ·clear hm; obtain ⟨hc3, hm⟩ | ⟨hc3, hm⟩ := ite_or hx2
      ·refine wq_skip rfl rfl rfl rfl (ne_ft hc3) F rfl rfl ?_; clear F a; intro a F
       refine wq_skip rfl rfl rfl rfl (ne_ft hc3) F rfl rfl ?_; clear F a; intro a F
       refine wq_skip rfl rfl rfl rfl (ne_ft hc3) F rfl rfl ?_; clear F a; intro a F
       refine wq_skip rfl rfl rfl rfl (ne_ft hc3) F rfl rfl ?_; clear F a; intro a F
       refine wq_skip rfl rfl rfl rfl (ne_ft hc3) F rfl rfl ?_; clear F a; intro a F
       refine wq_skip rfl rfl rfl rfl (ne_ft hc3) F rfl rfl ?_; clear F a; intro a F
       refine wq_skip rfl rfl rfl rfl (ne_ft hc3) F rfl rfl ?_; clear F a; intro a F
       refine wq_skip rfl rfl rfl rfl (ne_ft hc3) F rfl rfl ?_; clear F a; intro a F
       refine wq_skip rfl rfl rfl rfl (ne_ft hc3) F rfl rfl ?_; clear F a; intro a F
       refine wq_skip rfl rfl rfl rfl (ne_ft hc3) F rfl rfl ?_; clear F a; intro a F
       refine wq_skip rfl rfl rfl rfl (ne_ft hc3) F rfl rfl ?_; clear F a; intro a F
       refine wq_skip rfl rfl rfl rfl (ne_ft hc3) F rfl rfl ?_; clear F a; intro a F
       refine wq_ev (wn rfl) (ev_pickT rfl hc3 rfl) F rfl rfl ?_; clear F a; intro a F
       obtain rfl := sinj hm
       refine wq_nil ?_; exact F.sub ⟨rfl, rfl, rfl, rfl, trivial⟩
      ·refine wq_ev (wg F rfl rfl rfl rfl hc3) (ev_move rfl) F rfl rfl ?_; clear F a; intro a F
       refine wq_ev (wg F rfl rfl rfl rfl hc3) (ev_move rfl) F rfl rfl ?_; clear F a; intro a F
       obtain ⟨y3, hy3, hm⟩ := bind_some hm
       obtain ⟨cs3, hr4, hp5⟩ := elemS (ha_1.mono l2) hy3
       obtain ⟨v3, rfl, h3⟩ := rep_VersionedValue hr4
       refine wq_ev (wg F rfl rfl rfl rfl hc3) (ev_idxS (ha_1.mono l2) hy3 tu22 ts35 rfl rfl) F rfl rfl ?_; clear F a; intro a F
       have hp6 := PtrC.field hp5 1 1 (lb rfl)
       have hp6 : PtrC g2 (addP (elemP va_1 x1 2) 1) [v3] := hp6
       refine wq_ev (wg F rfl rfl rfl rfl hc3) (ev_fieldAddr' tu35 tf35_1 (z := 0) ts33 rfl hp5.ptr rfl) F rfl rfl ?_; clear F a; intro a F
       refine wq_ev (wg F rfl rfl rfl rfl hc3) (ev_load1 tu33 rfl rfl (ptr_mono (cks := []) (fr := fr) hp6 (Le.refl _))) F rfl rfl ?_; clear F a; intro a F
       refine wq_ev (wg F rfl rfl rfl rfl hc3) (ev_move rfl) F rfl rfl ?_; clear F a; intro a F
       refine wq_ev (wg F rfl rfl rfl rfl hc3) (ev_move rfl) F rfl rfl ?_; clear F a; intro a F
       obtain ⟨y4, hy4, hm⟩ := bind_some hm
       obtain ⟨cs4, hr5, hp7⟩ := elemS (hb_1.mono l2) hy4
       obtain ⟨v4, rfl, h4⟩ := rep_VersionedValue hr5
       refine wq_ev (wg F rfl rfl rfl rfl hc3) (ev_idxS (hb_1.mono l2) hy4 tu22 ts35 rfl rfl) F rfl rfl ?_; clear F a; intro a F
       have hp8 := PtrC.field hp7 1 1 (lb rfl)
       have hp8 : PtrC g2 (addP (elemP vb_1 x1 2) 1) [v4] := hp8
       refine wq_ev (wg F rfl rfl rfl rfl hc3) (ev_fieldAddr' tu35 tf35_1 (z := 0) ts33 rfl hp7.ptr rfl) F rfl rfl ?_; clear F a; intro a F
       refine wq_ev (wg F rfl rfl rfl rfl hc3) (ev_load1 tu33 rfl rfl (ptr_mono (cks := []) (fr := fr) hp8 (Le.refl _))) F rfl rfl ?_; clear F a; intro a F
       obtain ⟨y5, hy5, hm⟩ := bind_some hm
       refine wq_call (wg F rfl rfl rfl rfl hc3) rfl (xs := [.tmp 33, .tmp 38]) (vs := [v3, v4]) (cap := []) F rfl rfl tc29 (v := .bool y5) (fun w S => (changeforgeequal_Ints_ok (g := g2) (fr := fr) (w := w) y3.Vector v3 h3 y4.Vector v4 h4 S hy5).mono (by rintro en w' ⟨_, rfl, g2, l2, S2, rfl⟩; exact ⟨rfl, S2.weak l2⟩)) rfl rfl ?_; clear F a; intro a F
       refine wq_ev (wg F rfl rfl rfl rfl hc3) (ev_not rfl) F rfl rfl ?_; clear F a; intro a F
       refine wq_ev (wn rfl) (ev_pickF rfl hc3 rfl) F rfl rfl ?_; clear F a; intro a F
       obtain rfl := sinj hm
       refine wq_nil ?_; exact F.sub ⟨rfl, rfl, rfl, rfl, trivial⟩
     clear F; intro a F
     refine wq_nil ?_; clear S; intro w S
     refine then_n ?_
     obtain ⟨hc4, hm⟩ | ⟨hc4, hm⟩ := ite_or hm
     ·refine wp_condT F rfl hc4 ?_
      refine wp_seq ?_
      refine wp_region_lit ?_
      refine wE (ev_assign rfl) F S rfl fun a F=>?_
      refine wpList_nil ?_
      refine then_n ?_
      refine wp_ret ?_
      refine inb_r ?_
      refine then_r ?_
      refine then_r ?_
      refine inb_r ?_
      refine then_r ?_
      obtain rfl := sinj hm
      obtain rfl := hfin1 _ rfl
      clear hm
      have hm : (some false : Option Bool) = some _ := hmo1
      obtain rfl := sinj hm
      refine post_r _ F rfl (ar_cons (resT rfl) ar_nil) ?_
      exact ⟨_, rfl, g2, l2, S, rfl⟩
     ·refine wp_condF F rfl hc4 ?_
      refine wp_skip ?_
      refine inb_n ?_
      refine then_n ?_
      refine wp_region_lit ?_
      refine wE (ev_move rfl) F S rfl fun a F=>?_
      obtain ⟨z1, hz1, hm⟩ := bind_some hm
      refine wE (ev_int rfl rfl (bo_add hz1)) F S rfl fun a F=>?_
      refine wE (ev_assign rfl) F S rfl fun a F=>?_
      refine wpList_nil ?_
      refine then_n ?_
      obtain rfl := sinj hm
      refine ⟨_, rfl, ?_⟩
      exact ⟨g2, F.sub ⟨rfl, rfl, rfl, trivial⟩, l2, S⟩
    ·refine wp_condF F rfl hc2 ?_
     refine wp_exit ?_
     refine then_e ?_
     refine then_e ?_
     refine inb_x ?_
     refine then_n ?_
     obtain rfl := sinj hm
     obtain rfl := hfin1 _ rfl
     clear hm
     have hm : (changeforgeequal_Values.j1 : Option Bool) = some _ := hmo1
     exact ⟨g2, F.sub trivial, l2, S, hm⟩
  ·clear F S hm; rintro a w ⟨g1, F, l1, S, hm⟩
   refine wp_seq ?_
   refine wp_region_lit ?_
   refine wE (ev_assign rfl) F S rfl fun a F=>?_
   refine wpList_nil ?_
   refine then_n ?_
   refine wp_ret ?_
   obtain rfl := sinj hm
   refine post_r _ F rfl (ar_cons (resT rfl) ar_nil) ?_
   exact ⟨_, rfl, g1, l1, S, rfl⟩

theorem changeforgelaw2_first_ok {g : Gh} {fr : Hl} {w : World} {r : Bool}  (S : St g [] fr w) (hm : changeforgelaw2_first = some r) :
  Calls Try.prog 16 [].toArray w (fun en w' => ∃ v, en = .returned v ∧ ∃ (g' : Gh), Le g g' ∧ St g' [] fr w' ∧ .bool r = v) := by
 unfold changeforgelaw2_first at hm
 refine calls_enter (fn := Try.f16) Try.func16 rfl Try.ntmps16 (lb rfl) ?_
 intro a F
 replace F : Fr 17 a [] := F
 refine wp_seq ?_
 refine wp_region_lit ?_
 refine wE (ev_assign rfl) F S rfl fun a F=>?_
 refine wpList_nil ?_
 refine then_n ?_
 refine wp_seq ?_
 refine wp_region_lit ?_
 obtain ⟨y1, hy1, hm⟩ := bind_some hm
 refine wl_call0 (wn rfl) rfl F rfl (multivalue_Write_ok ([] : List VersionedValue) (nilS) (RepSl.nil _) 0 7 S hy1) rfl tc9 rfl rfl ?_; clear F a S
 rintro _ a w ⟨g1, v1, c1, l1, S, h1, rfl⟩ F; replace S : St g1 [c1] fr w := S
 refine wE (ev_move rfl) F S rfl fun a F=>?_
 refine wE (ev_extract rfl rfl) F S rfl fun a F=>?_
 refine wE (ev_extract rfl rfl) F S rfl fun a F=>?_
 refine wl_alloc (wn rfl) rfl tz24 (cs := [.i6 0, .i6 0]) rfl F S rfl rfl ?_; clear F a S; rintro b1 a w F S
 refine wE (ev_assign rfl) F S rfl fun a F=>?_
 refine wl_storeC (wn rfl) rfl F S rfl rfl (vs := [.i6 y1.2.Code, .i6 y1.2.Index]) rfl ts24 (one_cons rfl (one_cons rfl one_nil)) (k := 0) rfl (lb rfl) (c' := #[.i6 y1.2.Code, .i6 y1.2.Index]) rfl rfl ?_; clear S; intro w S
 refine wpList_nil ?_
 refine then_n ?_
 refine wp_seq ?_
 refine wp_region_lit ?_
 refine wE (ev_fieldAddr' tu24 tf24_0 (z := 0) ts3 rfl ⟨_, rfl⟩ rfl) F S rfl fun a F=>?_
 refine wE (ev_load1 tu3 rfl rfl (box_ptr (cells := [.i6 y1.2.Code]) 0 rfl 0 rfl (lb rfl))) F S rfl fun a F=>?_
 refine wE (ev_int rfl rfl (bo_eql _ _ _ _)) F S rfl fun a F=>?_
 refine wE (ev_move rfl) F S rfl fun a F=>?_
 obtain ⟨g2, l2, S, h2⟩ : ∃ gz, Le g1 gz ∧ St gz [[bx b1 #[.i6 y1.2.Code, .i6 y1.2.Index] 24]] fr w ∧ RepSl gz y1.1 v1 := ⟨_, Le.add _ _, S.freeze 1 rfl, OwnS.freeze (S.front 1 rfl) h1⟩
 obtain ⟨x1, hx1, hm⟩ := bind_some hm
 refine wl_cut 6 (fun a w => ∃ g3, Fr 17 a [(16, .bool x1), (0, .bool false)] ∧ Le g2 g3 ∧ St g3 [[bx b1 #[.i6 y1.2.Code, .i6 y1.2.Index] 24]] fr w) ?_ ?_
 ·clear hm; obtain ⟨hc1, hm⟩ | ⟨hc1, hm⟩ := ite_or hx1
  ·refine wl_ev (wg F rfl rfl rfl rfl hc1) (ev_move rfl) F S rfl rfl ?_; clear F a; intro a F
   refine wl_lit (l := ([1, 0, 0, 0, 0, 0] : List Int)) (vs := [.i6 1, .i6 0, .i6 0, .i6 0, .i6 0, .i6 0]) (parts := [(0, .const (.i6 1)), (1, .const (.i6 0)), (2, .const (.i6 0)), (3, .const (.i6 0)), (4, .const (.i6 0)), (5, .const (.i6 0))]) (wg F rfl rfl rfl rfl hc1) rfl rfl rfl tu33 te3 (sz_cons rfl (sz_cons rfl (sz_cons rfl (sz_cons rfl (sz_cons rfl (sz_cons rfl sz_nil)))))) rfl (Cat.cons (show Rep.rep _ 1 _ from rfl) (Cat.cons (show Rep.rep _ 0 _ from rfl) (Cat.cons (show Rep.rep _ 0 _ from rfl) (Cat.cons (show Rep.rep _ 0 _ from rfl) (Cat.cons (show Rep.rep _ 0 _ from rfl) (Cat.cons (show Rep.rep _ 0 _ from rfl) (Cat.nil _))))))) (coa_cons rfl (coa_cons rfl (coa_cons rfl (coa_cons rfl (coa_cons rfl (coa_cons rfl coa_nil)))))) rfl F S rfl rfl ?_; clear F a S
   rintro v2 c2 a w h3 F S
   refine wl_ev (wg F rfl rfl rfl rfl hc1) (ev_build (parts := [(0, .const (.i6 7)), (1, .tmp 12)]) (vs := [(0, .i6 7), (1, v2)]) rfl (fun w => tb35_0_1 7 v2 (OwnS.isSl h3) w)) F S rfl rfl ?_; clear F a; intro a F
   obtain ⟨g4, l4, S, h4⟩ : ∃ gz, Le g2 gz ∧ St gz [[bx b1 #[.i6 y1.2.Code, .i6 y1.2.Index] 24]] fr w ∧ RepSl gz ([1, 0, 0, 0, 0, 0] : List Int) v2 := ⟨_, Le.add _ _, S.freeze 0 rfl, OwnS.freeze (S.front 0 rfl) h3⟩
   refine wl_lit (l := ([({ Value := 7, Vector := ([1, 0, 0, 0, 0, 0] : List Int) } : VersionedValue)] : List VersionedValue)) (vs := [.agg #[.i6 7, v2]]) (parts := [(0, .tmp 13)]) (wg F rfl rfl rfl rfl hc1) rfl rfl rfl tu22 te35 (sz_cons rfl sz_nil) rfl (Cat.cons (rep_VersionedValue_mk (x := ({ Value := 7, Vector := ([1, 0, 0, 0, 0, 0] : List Int) } : VersionedValue)) h4) (Cat.nil _)) (coa_cons rfl coa_nil) rfl F S rfl rfl ?_; clear F a S
   rintro v3 c3 a w h5 F S
   obtain ⟨g5, l5, S, h6⟩ : ∃ gz, Le g4 gz ∧ St gz [[bx b1 #[.i6 y1.2.Code, .i6 y1.2.Index] 24]] fr w ∧ RepSl gz ([({ Value := 7, Vector := ([1, 0, 0, 0, 0, 0] : List Int) } : VersionedValue)] : List VersionedValue) v3 := ⟨_, Le.add _ _, S.freeze 0 rfl, OwnS.freeze (S.front 0 rfl) h5⟩
   obtain ⟨y2, hy2, hm⟩ := bind_some hm
   refine wl_call0 (wg F rfl rfl rfl rfl hc1) rfl F rfl (changeforgeequal_Values_ok (fr := (fl [[bx b1 #[.i6 y1.2.Code, .i6 y1.2.Index] 24]] fr)) y1.1 v1 (h2.mono (l4.trans l5)) ([({ Value := 7, Vector := ([1, 0, 0, 0, 0, 0] : List Int) } : VersionedValue)] : List VersionedValue) v3 h6 S hy2) rfl tc15 rfl rfl ?_; clear F a S
   rintro _ a w ⟨g6, l6, S, rfl⟩ F; replace S : St g6 [[bx b1 #[.i6 y1.2.Code, .i6 y1.2.Index] 24]] fr w := S
   refine wE (ev_pickT rfl hc1 rfl) F S rfl fun a F=>?_
   obtain rfl := sinj hm
   refine wpList_nil (then_n ?_); exact ⟨g6, F.sub ⟨rfl, rfl, trivial⟩, ((l4.trans l5).trans l6), S⟩
  ·refine wl_skip rfl rfl rfl rfl (ne_tf hc1) F rfl rfl ?_; clear F a; intro a F
   refine wl_skip rfl rfl rfl rfl (ne_tf hc1) F rfl rfl ?_; clear F a; intro a F
   refine wl_skip rfl rfl rfl rfl (ne_tf hc1) F rfl rfl ?_; clear F a; intro a F
   refine wl_skip rfl rfl rfl rfl (ne_tf hc1) F rfl rfl ?_; clear F a; intro a F
   refine wl_skip rfl rfl rfl rfl (ne_tf hc1) F rfl rfl ?_; clear F a; intro a F
   refine wE (ev_pickF rfl hc1 rfl) F S rfl fun a F=>?_
   obtain rfl := sinj hm
   refine wpList_nil (then_n ?_); exact ⟨g2, F.sub ⟨rfl, rfl, trivial⟩, (Le.refl _), S⟩
 clear F S; rintro a w ⟨g3, F, l3, S⟩
 refine wE (ev_assign rfl) F S rfl fun a F=>?_
 refine wpList_nil ?_
 refine then_n ?_
 refine wp_ret ?_
 obtain rfl := sinj hm
 refine post_r _ F rfl (ar_cons (resT rfl) ar_nil) ?_
 replace S : St g3 [] fr w := St.tail [] _ S
 exact ⟨_, rfl, g3, ((l1.trans l2).trans l3), S, rfl⟩
end Go.Dc
