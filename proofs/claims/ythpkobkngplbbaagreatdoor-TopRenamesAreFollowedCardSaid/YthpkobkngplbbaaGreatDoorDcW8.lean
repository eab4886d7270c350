/- Walks: each function comes to what its model says. -/
import Derived.Test.YthpkobkngplbbaaGreatDoorDcTab
import Derived.Test.YthpkobkngplbbaaGreatDoorDcM
import Derived.Test.YthpkobkngplbbaaGreatDoorDcW2
import Derived.Test.YthpkobkngplbbaaGreatDoorDcW6
namespace Go.Dc
open Go Go.Proofs
set_option maxRecDepth 100000
set_option maxHeartbeats 4000000
set_option linter.unusedVariables false
theorem commute_meet_ok {g : Gh} {fr : Hl} {w : World} {r : Bool} (a_ : (List Range_commute)) (va_1 : Value) (ha_1 : RepSl g a_ va_1) (b_ : (List Range_commute)) (vb_1 : Value) (hb_1 : RepSl g b_ vb_1) (S : St g [] fr w) (hm : commute_meet a_ b_ = some r) :
  Calls Tryz.prog 80 [va_1, vb_1].toArray w (fun en w' => ∃ v, en = .returned v ∧ ∃ (g' : Gh), Le g g' ∧ St g' [] fr w' ∧ .bool r = v) := by
 unfold commute_meet at hm
 refine calls_enter (fn := Tryz.f80) Tryz.func80 rfl Tryz.ntmps80 (lb rfl) ?_
 intro a F
 replace F : Fr 26 a [(0, va_1), (1, vb_1)] := F
 refine wp_seq ?_
 refine wp_region_lit ?_
 refine wE (ev_assign rfl) F S rfl fun a F=>?_
 refine wpList_nil ?_
 refine then_n ?_
 refine wp_cut (fun a w => ∃ (g1 : Gh), Fr 26 a [] ∧ Le g g1 ∧ St g1 [] fr w ∧ commute_meet.j1 = some r) ?_ ?_
 ·refine wp_seq ?_
  refine wp_region_lit ?_
  refine wE (ev_move rfl) F S rfl fun a F=>?_
  refine wE (ev_lenSh ha_1 rfl tu128) F S rfl fun a F=>?_
  refine wE (ev_move rfl) F S rfl fun a F=>?_
  refine wpList_nil ?_
  refine then_n ?_
  refine wp_block ?_
  obtain ⟨r1, hr1, hm⟩ := bind_some hm
  have hmo1 := hm; clear hm
  refine wp_iter (σ := Int) (ρ := Bool ⊕ Unit) (m := fun s => commute_meet.l1 a_ b_ s) (I := fun x1 a w => ∃ (g2 : Gh), Fr 26 a [(11, .i6 x1), (10, .i6 (a_.length : Int)), (9, va_1), (1, vb_1)] ∧ Le g g2 ∧ St g2 [] fr w) hr1 ?_ ?_
  ·exact ⟨g, F.sub ⟨rfl, rfl, rfl, rfl, trivial⟩, (Le.refl _), S⟩
  ·clear F S; rintro x1 a w x2 ⟨g2, F, l2, S⟩ hx1 hfin1
   have hm : commute_meet.l1 a_ b_ x1 = some x2 := hx1; clear hx1
   unfold commute_meet.l1 at hm
   refine wp_seq ?_
   refine wp_region_lit ?_
   refine wE (ev_int rfl rfl (bo_lss _ _ _ _)) F S rfl fun a F=>?_
   refine wpList_nil ?_
   refine then_n ?_
   refine wp_seq ?_
   obtain ⟨hc1, hm⟩ | ⟨hc1, hm⟩ := ite_or hm
   ·refine wp_condT F rfl hc1 ?_
    refine wp_skip ?_
    refine then_n ?_
    refine wp_cut (fun a w => ∃ (g3 : Gh), Fr 26 a [(11, .i6 x1), (10, .i6 (a_.length : Int)), (9, va_1), (1, vb_1)] ∧ Le g2 g3 ∧ St g3 [] fr w ∧ commute_meet.j2 x1 = some x2) ?_ ?_
    ·refine wp_block ?_
     refine wp_seq ?_
     refine wp_region_lit ?_
     obtain ⟨y1, hy1, hm⟩ := bind_some hm
     obtain ⟨cs1, hr2, hp1⟩ := elemS (ha_1.mono l2) hy1
     obtain rfl := rep_Range_commute hr2
     refine wE (ev_idxS (ha_1.mono l2) hy1 tu128 ts174 rfl rfl) F S rfl fun a F=>?_
     refine wE (ev_loadA tu174 rfl (cs := [.i6 y1.Low, .i6 y1.High, .i6 y1.Growth]) ts174 rfl (ptr_mono (cks := []) (fr := fr) hp1 (Le.refl _))) F S rfl fun a F=>?_
     refine wl_alloc (wn rfl) rfl tz174 (cs := [.i6 0, .i6 0, .i6 0]) rfl F S rfl rfl ?_; clear F a S; rintro b1 a w F S
     refine wl_storeC (wn rfl) rfl F S rfl rfl (vs := [.i6 y1.Low, .i6 y1.High, .i6 y1.Growth]) rfl ts174 (one_cons rfl (one_cons rfl (one_cons rfl one_nil))) (k := 0) rfl (lb rfl) (c' := #[.i6 y1.Low, .i6 y1.High, .i6 y1.Growth]) rfl rfl ?_; clear S; intro w S
     refine wpList_nil ?_
     refine then_n ?_
     refine wp_seq ?_
     refine wp_region_lit ?_
     refine wE (ev_move rfl) F S rfl fun a F=>?_
     refine wE (ev_lenSh hb_1 rfl tu128) F S rfl fun a F=>?_
     refine wE (ev_move rfl) F S rfl fun a F=>?_
     refine wpList_nil ?_
     refine then_n ?_
     refine wp_cut1 (fun a w => ∃ (g4 : Gh), Fr 26 a [(11, .i6 x1), (10, .i6 (a_.length : Int)), (9, va_1), (1, vb_1)] ∧ Le g2 g4 ∧ St g4 [] fr w ∧ commute_meet.j3 x1 = some x2) ?_ ?_
     ·refine wp_block ?_
      obtain ⟨r2, hr3, hm⟩ := bind_some hm
      have hmo2 := hm; clear hm
      refine wp_iter (σ := Int) (ρ := Bool ⊕ Unit) (m := fun s => commute_meet.l2 b_ y1 s) (I := fun x3 a w => ∃ (g5 : Gh), Fr 26 a [(17, .i6 x3), (16, .i6 (b_.length : Int)), (15, vb_1), (6, bp b1 0), (11, .i6 x1), (10, .i6 (a_.length : Int)), (9, va_1), (1, vb_1)] ∧ Le g2 g5 ∧ St g5 [[bx b1 #[.i6 y1.Low, .i6 y1.High, .i6 y1.Growth] 174]] fr w) hr3 ?_ ?_
      ·exact ⟨g2, F.sub ⟨rfl, rfl, rfl, rfl, rfl, rfl, rfl, rfl, trivial⟩, (Le.refl _), S⟩
      ·clear F S; rintro x3 a w x4 ⟨g5, F, l5, S⟩ hx2 hfin2
       have hm : commute_meet.l2 b_ y1 x3 = some x4 := hx2; clear hx2
       unfold commute_meet.l2 at hm
       refine wp_seq ?_
       refine wp_region_lit ?_
       refine wE (ev_int rfl rfl (bo_lss _ _ _ _)) F S rfl fun a F=>?_
       refine wpList_nil ?_
       refine then_n ?_
       refine wp_seq ?_
       obtain ⟨hc2, hm⟩ | ⟨hc2, hm⟩ := ite_or hm
       ·refine wp_condT F rfl hc2 ?_
        refine wp_skip ?_
        refine then_n ?_
        refine wp_seq ?_
        refine wp_block ?_
        refine wp_seq ?_
        refine wp_region_lit ?_
        obtain ⟨y2, hy2, hm⟩ := bind_some hm
        obtain ⟨cs2, hr4, hp2⟩ := elemS (hb_1.mono (l2.trans l5)) hy2
        obtain rfl := rep_Range_commute hr4
        refine wE (ev_idxS (hb_1.mono (l2.trans l5)) hy2 tu128 ts174 rfl rfl) F S rfl fun a F=>?_
        refine wE (ev_loadA tu174 rfl (cs := [.i6 y2.Low, .i6 y2.High, .i6 y2.Growth]) ts174 rfl (ptr_mono (cks := [[bx b1 #[.i6 y1.Low, .i6 y1.High, .i6 y1.Growth] 174]]) (fr := fr) hp2 (Le.refl _))) F S rfl fun a F=>?_
        refine wl_alloc (wn rfl) rfl tz174 (cs := [.i6 0, .i6 0, .i6 0]) rfl F S rfl rfl ?_; clear F a S; rintro b2 a w F S
        refine wl_storeC (wn rfl) rfl F S rfl rfl (vs := [.i6 y2.Low, .i6 y2.High, .i6 y2.Growth]) rfl ts174 (one_cons rfl (one_cons rfl (one_cons rfl one_nil))) (k := 0) rfl (lb rfl) (c' := #[.i6 y2.Low, .i6 y2.High, .i6 y2.Growth]) rfl rfl ?_; clear S; intro w S
        refine wpList_nil ?_
        refine then_n ?_
        refine wp_seq ?_
        refine wp_region_lit ?_
        refine wE (ev_loadA tu174 rfl (cs := [.i6 y1.Low, .i6 y1.High, .i6 y1.Growth]) ts174 rfl (box_ptr (cells := [.i6 y1.Low, .i6 y1.High, .i6 y1.Growth]) 1 rfl 0 rfl (lb rfl))) F S rfl fun a F=>?_
        refine wE (ev_loadA tu174 rfl (cs := [.i6 y2.Low, .i6 y2.High, .i6 y2.Growth]) ts174 rfl (box_ptr (cells := [.i6 y2.Low, .i6 y2.High, .i6 y2.Growth]) 0 rfl 0 rfl (lb rfl))) F S rfl fun a F=>?_
        obtain ⟨y3, hy3, hm⟩ := bind_some hm
        refine wl_call0 (wn rfl) rfl F rfl (commute_Touch_ok (fr := (fl [[bx b2 #[.i6 y2.Low, .i6 y2.High, .i6 y2.Growth] 174], [bx b1 #[.i6 y1.Low, .i6 y1.High, .i6 y1.Growth] 174]] fr)) y1 y2 S hy3) rfl tc125 rfl rfl ?_; clear F a S
        rintro _ a w ⟨g6, l6, S, rfl⟩ F; replace S : St g6 [[bx b2 #[.i6 y2.Low, .i6 y2.High, .i6 y2.Growth] 174], [bx b1 #[.i6 y1.Low, .i6 y1.High, .i6 y1.Growth] 174]] fr w := S
        refine wpList_nil ?_
        refine then_n ?_
        obtain ⟨hc3, hm⟩ | ⟨hc3, hm⟩ := ite_or hm
        ·refine wp_condT F rfl hc3 ?_
         refine wp_seq ?_
         refine wp_region_lit ?_
         refine wE (ev_assign rfl) F S rfl fun a F=>?_
         refine wpList_nil ?_
         refine then_n ?_
         refine wp_ret ?_
         refine inb_r ?_
         refine then_r ?_
         refine then_r ?_
         refine inb_r ?_
         refine then_r ?_
         refine inb_r ?_
         refine then_r ?_
         refine then_r ?_
         refine inb_r ?_
         refine then_r ?_
         obtain rfl := sinj hm
         obtain rfl := hfin2 _ rfl
         clear hm
         have hm : (some (Step.done (Sum.inl true)) : Option (Step Int (Bool ⊕ Unit))) = some _ := hmo2
         obtain rfl := sinj hm
         obtain rfl := hfin1 _ rfl
         clear hm
         have hm : (some true : Option Bool) = some _ := hmo1
         obtain rfl := sinj hm
         refine post_r _ F rfl (ar_cons (resT rfl) ar_nil) ?_
         replace S : St g6 [] fr w := St.tail [] _ S
         exact ⟨_, rfl, g6, ((l2.trans l5).trans l6), S, rfl⟩
        ·refine wp_condF F rfl hc3 ?_
         refine wp_skip ?_
         refine inb_n ?_
         refine then_n ?_
         refine wp_region_lit ?_
         obtain ⟨z2, hz2, hm⟩ := bind_some hm
         refine wE (ev_int rfl rfl (bo_add hz2)) F S rfl fun a F=>?_
         refine wE (ev_move rfl) F S rfl fun a F=>?_
         refine wpList_nil ?_
         refine then_n ?_
         obtain rfl := sinj hm
         refine ⟨_, rfl, ?_⟩
         replace S : St g6 [[bx b1 #[.i6 y1.Low, .i6 y1.High, .i6 y1.Growth] 174]] fr w := St.tail [[bx b1 #[.i6 y1.Low, .i6 y1.High, .i6 y1.Growth] 174]] _ (S.frontC 1 rfl)
         exact ⟨g6, F.sub ⟨rfl, rfl, rfl, rfl, rfl, rfl, rfl, rfl, trivial⟩, (l5.trans l6), S⟩
       ·refine wp_condF F rfl hc2 ?_
        refine wp_exit ?_
        refine then_e ?_
        refine then_e ?_
        refine inb_x ?_
        refine then_n ?_
        obtain rfl := sinj hm
        obtain rfl := hfin2 _ rfl
        clear hm
        have hm : (commute_meet.j3 x1 : Option (Step Int (Bool ⊕ Unit))) = some _ := hmo2
        replace S : St g5 [] fr w := St.tail [] _ S
        exact ⟨g5, F.sub ⟨rfl, rfl, rfl, rfl, trivial⟩, l5, S, hm⟩
     ·clear F S hm; rintro a w ⟨g4, F, l4, S, hm⟩
      refine inb_n ?_
      refine then_n ?_
      exact ⟨g4, F.sub ⟨rfl, rfl, rfl, rfl, trivial⟩, l4, S, hm⟩
    ·clear F S hm; rintro a w ⟨g3, F, l3, S, hm⟩
     refine wp_region_lit ?_
     obtain ⟨z1, hz1, hm⟩ := bind_some hm
     refine wE (ev_int rfl rfl (bo_add hz1)) F S rfl fun a F=>?_
     refine wE (ev_move rfl) F S rfl fun a F=>?_
     refine wpList_nil ?_
     refine then_n ?_
     obtain rfl := sinj hm
     refine ⟨_, rfl, ?_⟩
     exact ⟨g3, F.sub ⟨rfl, rfl, rfl, rfl, trivial⟩, (l2.trans l3), S⟩
   ·refine wp_condF F rfl hc1 ?_
    refine wp_exit ?_
    refine then_e ?_
    refine then_e ?_
    refine inb_x ?_
    refine then_n ?_
    obtain rfl := sinj hm
    obtain rfl := hfin1 _ rfl
    clear hm
    have hm : (commute_meet.j1 : Option Bool) = some _ := hmo1
    exact ⟨g2, F.sub trivial, l2, S, hm⟩
 ·clear F S hm; rintro a w ⟨g1, F, l1, S, hm⟩
  refine wp_seq ?_
  refine wp_region_lit ?_
  refine wE (ev_assign rfl) F S rfl fun a F=>?_
  refine wpList_nil ?_
  refine then_n ?_
  refine wp_ret ?_
  obtain rfl := sinj hm
  refine post_r _ F rfl (ar_cons (resT rfl) ar_nil) ?_
  exact ⟨_, rfl, g1, l1, S, rfl⟩

theorem commute_OldRanges_ok {g : Gh} {fr : Hl} {w : World} {r : (List Range_commute)} (p_ : Patch) (vp_1 : Value) (hp_1 : RepSl g p_.Hunks vp_1) (S : St g [] fr w) (hm : commute_OldRanges p_ = some r) :
  Calls Tryz.prog 81 [.agg #[vp_1]].toArray w (fun en w' => ∃ v, en = .returned v ∧ ∃ (g' : Gh) (v1 : Value) (c1 : Hl), Le g g' ∧ St g' [c1] fr w' ∧ OwnS g' r v1 c1 ∧ v1 = v) := by
 unfold commute_OldRanges at hm
 refine calls_enter (fn := Tryz.f81) Tryz.func81 rfl Tryz.ntmps81 (lb rfl) ?_
 intro a F
 replace F : Fr 25 a [(0, .agg #[vp_1])] := F
 refine wp_seq ?_
 refine wp_region_lit ?_
 refine wl_boxC (wn rfl) rfl rfl rfl F S rfl rfl ?_; clear F a S; rintro b1 a w F S
 refine wE (ev_assign rfl) F S rfl fun a F=>?_
 refine wpList_nil ?_
 refine then_n ?_
 refine wp_seq ?_
 refine wp_region_lit ?_
 refine wE (ev_assign rfl) F S rfl fun a F=>?_
 refine wpList_nil ?_
 refine then_n ?_
 refine wp_cut (fun a w => ∃ (x1 : List Range_commute) (v1 : Value) (c1 : Hl) (g1 : Gh), Fr 25 a [(3, v1)] ∧ Le g g1 ∧ St g1 [c1] fr w ∧ OwnS g1 x1 v1 c1 ∧ commute_OldRanges.j1 x1 = some r) ?_ ?_
 ·refine wp_seq ?_
  refine wp_region_lit ?_
  refine wE (ev_fieldAddr' tu27 tf27_0 (z := 0) ts25 rfl ⟨_, rfl⟩ rfl) F S rfl fun a F=>?_
  refine wE (ev_load1 tu25 rfl rfl (box_ptr (cells := [vp_1]) 0 rfl 0 rfl (lb rfl))) F S rfl fun a F=>?_
  refine wE (ev_lenSh hp_1 rfl tu25) F S rfl fun a F=>?_
  refine wE (ev_move rfl) F S rfl fun a F=>?_
  refine wpList_nil ?_
  refine then_n ?_
  refine wp_block ?_
  obtain ⟨r1, hr1, hm⟩ := bind_some hm
  have hmo1 := hm; clear hm
  refine wp_iter (σ := Int × (List Range_commute)) (ρ := (List Range_commute)) (m := fun s => commute_OldRanges.l1 p_ s.1 s.2) (I := fun s a w => match s with | (x2, x3) => ∃ (v2 : Value) (c2 : Hl) (g2 : Gh), Fr 25 a [(9, .i6 x2), (8, .i6 (p_.Hunks.length : Int)), (7, vp_1), (3, v2)] ∧ Le g g2 ∧ St g2 [c2] fr w ∧ OwnS g2 x3 v2 c2) hr1 ?_ ?_
  ·dsimp only
   replace S : St g [[], [bx b1 #[vp_1] 27]] fr w := S
   replace S : St g [[]] fr w := St.tail [[]] _ (S.frontC 0 rfl)
   exact ⟨(nilS), [], g, F.sub ⟨rfl, rfl, rfl, rfl, trivial⟩, (Le.refl _), S, (OwnS.nil _)⟩
  ·clear F S; rintro ⟨x2, x3⟩ a w x4 ⟨v2, c2, g2, F, l2, S, h2⟩ hx1 hfin1
   have hm : commute_OldRanges.l1 p_ x2 x3 = some x4 := hx1; clear hx1
   unfold commute_OldRanges.l1 at hm
   refine wp_seq ?_
   refine wp_region_lit ?_
   refine wE (ev_int rfl rfl (bo_lss _ _ _ _)) F S rfl fun a F=>?_
   refine wpList_nil ?_
   refine then_n ?_
   refine wp_seq ?_
   obtain ⟨hc1, hm⟩ | ⟨hc1, hm⟩ := ite_or hm
   ·refine wp_condT F rfl hc1 ?_
    refine wp_skip ?_
    refine then_n ?_
    refine wp_seq ?_
    refine wp_block ?_
    refine wp_seq ?_
    refine wp_region_lit ?_
    obtain ⟨y1, hy1, hm⟩ := bind_some hm
    obtain ⟨cs1, hr2, hp1⟩ := elemS (hp_1.mono l2) hy1
    obtain ⟨v3, v4, rfl, h3, h4⟩ := rep_Hunk hr2
    refine wE (ev_idxS (hp_1.mono l2) hy1 tu25 ts65 rfl rfl) F S rfl fun a F=>?_
    refine wE (ev_loadA tu65 rfl (cs := [.i6 y1.At, v3, v4]) ts65 rfl (ptr_mono (cks := [c2]) (fr := fr) hp1 (Le.refl _))) F S rfl fun a F=>?_
    refine wl_alloc (wn rfl) rfl tz65 (cs := [.i6 0, nilS, nilS]) rfl F S rfl rfl ?_; clear F a S; rintro b2 a w F S
    refine wl_storeC (wn rfl) rfl F S rfl rfl (vs := [.i6 y1.At, v3, v4]) rfl ts65 (one_cons rfl (one_cons h3.one (one_cons h4.one one_nil))) (k := 0) rfl (lb rfl) (c' := #[.i6 y1.At, v3, v4]) rfl rfl ?_; clear S; intro w S
    refine wpList_nil ?_
    refine then_n ?_
    refine wp_dv [10] mo S ?_; clear S; intro ok1 w S
    refine dv_et ok1 0 rfl (ev_move rfl) F rfl fun a F=>?_
    refine dv_et ok1 1 rfl (ev_fieldAddr' tu65 tf65_0 (z := 0) ts3 rfl ⟨_, rfl⟩ rfl) F rfl fun a F=>?_
    refine dv_ev ok1 2 rfl (ev_load1 tu3 rfl rfl (box_ptr (cells := [.i6 y1.At]) 0 rfl 0 rfl (lb rfl))) F S rfl fun a F=>?_
    refine dv_ev ok1 3 rfl (ev_loadA tu65 rfl (cs := [.i6 y1.At, v3, v4]) ts65 rfl (box_ptr (cells := [.i6 y1.At, v3, v4]) 0 rfl 0 rfl (lb rfl))) F S rfl fun a F=>?_
    refine dv_ev ok1 5 rfl (ev_loadA tu65 rfl (cs := [.i6 y1.At, v3, v4]) ts65 rfl (box_ptr (cells := [.i6 y1.At, v3, v4]) 0 rfl 0 rfl (lb rfl))) F S rfl fun a F=>?_
    refine dv_op ok1 4 rfl [(5, .agg #[.i6 y1.At, v3, v4]), (2, .i6 y1.At)] ?_
    obtain ⟨y2, hy2, hm⟩ := bind_some hm
    refine wl_call0 (wn rfl) rfl F rfl (textpatch_End_ok (fr := (fl [[bx b2 #[.i6 y1.At, v3, v4] 65], c2] fr)) y1 v3 h3 v4 h4 S hy2) rfl tc99 rfl rfl ?_; clear F a S
    rintro _ a w ⟨g3, l3, S, rfl⟩ F; replace S : St g3 [[bx b2 #[.i6 y1.At, v3, v4] 65], c2] fr w := S
    refine dv_nx ⟨yl_ev rfl rfl (ev_loadA tu65 rfl (cs := [.i6 y1.At, v3, v4]) ts65 rfl (box_ptr (cells := [.i6 y1.At, v3, v4]) 0 rfl 0 rfl (lb rfl))) F S, yl_ev rfl rfl (ev_load1 tu3 rfl rfl (box_ptr (cells := [.i6 y1.At]) 0 rfl 0 rfl (lb rfl))) F S, trivial⟩ ?_
    refine dv_op ok1 6 rfl [(2, .i6 y1.At)] ?_
    obtain ⟨y3, hy3, hm⟩ := bind_some hm
    refine wl_call0 (wn rfl) rfl F rfl (textpatch_Growth_ok (fr := (fl [[bx b2 #[.i6 y1.At, v3, v4] 65], c2] fr)) y1 v3 (h3.mono l3) v4 (h4.mono l3) S hy3) rfl tc124 rfl rfl ?_; clear F a S
    rintro _ a w ⟨g4, l4, S, rfl⟩ F; replace S : St g4 [[bx b2 #[.i6 y1.At, v3, v4] 65], c2] fr w := S
    refine dv_nx ⟨yl_ev rfl rfl (ev_load1 tu3 rfl rfl (box_ptr (cells := [.i6 y1.At]) 0 rfl 0 rfl (lb rfl))) F S, trivial⟩ ?_
    refine dv_et ok1 7 rfl (ev_build (parts := [(0, .tmp 15), (1, .tmp 17), (2, .tmp 19)]) (vs := [(0, .i6 y1.At), (1, .i6 y2), (2, .i6 y3)]) rfl (fun w => tb174_0_1_2 y1.At y2 y3 w)) F rfl fun a F=>?_
    refine dv_op ok1 8 rfl [] ?_
    refine wl_lit (l := ([({ Low := y1.At, High := y2, Growth := y3 } : Range_commute)] : List Range_commute)) (vs := [.agg #[.i6 y1.At, .i6 y2, .i6 y3]]) (parts := [(0, .tmp 20)]) (wn rfl) rfl rfl rfl tu128 te174 (sz_cons rfl sz_nil) rfl (Cat.cons (rep_Range_commute_mk (x := ({ Low := y1.At, High := y2, Growth := y3 } : Range_commute)) ) (Cat.nil _)) (coa_cons rfl coa_nil) rfl F S rfl rfl ?_; clear F a S
    rintro v5 c3 a w h5 F S
    refine dv_nx trivial ?_
    refine dv_op ok1 9 rfl [] ?_
    obtain ⟨cs2, hk1, hr3⟩ := OwnS.reads h5
    obtain ⟨y4, hy4, hm⟩ := bind_some hm
    refine wl_append (wn rfl) rfl tu128 tu128 te174 (by decide) (by decide) F S rfl rfl (k := 2) rfl (h2.mono (l3.trans l4)) hk1 rfl (hr3 _ _ _ 0 rfl S) hy4 rfl rfl ?_; clear F a S
    rintro v6 c4 a w h6 S F; replace S : St g4 [c3, [bx b2 #[.i6 y1.At, v3, v4] 65], c4] fr w := S
    refine dv_nx trivial ?_
    refine dv_op ok1 10 rfl [] ?_
    refine wE (ev_assign rfl) F S rfl fun a F=>?_
    refine dv_nx trivial ?_
    refine dv_fin ok1 ?_
    refine inb_n ?_
    refine then_n ?_
    refine wp_region_lit ?_
    obtain ⟨z1, hz1, hm⟩ := bind_some hm
    refine wE (ev_int rfl rfl (bo_add hz1)) F S rfl fun a F=>?_
    refine wE (ev_move rfl) F S rfl fun a F=>?_
    refine wpList_nil ?_
    refine then_n ?_
    obtain rfl := sinj hm
    refine ⟨_, rfl, ?_⟩
    dsimp only
    replace S : St g4 [c4] fr w := St.tail [c4] _ (S.frontC 2 rfl)
    exact ⟨v6, c4, g4, F.sub ⟨rfl, rfl, rfl, rfl, trivial⟩, ((l2.trans l3).trans l4), S, h6⟩
   ·refine wp_condF F rfl hc1 ?_
    refine wp_exit ?_
    refine then_e ?_
    refine then_e ?_
    refine inb_x ?_
    refine then_n ?_
    obtain rfl := sinj hm
    obtain rfl := hfin1 _ rfl
    clear hm
    have hm : (commute_OldRanges.j1 x3 : Option (List Range_commute)) = some _ := hmo1
    exact ⟨x3, v2, c2, g2, F.sub ⟨rfl, trivial⟩, l2, S, h2, hm⟩
 ·clear F S hm; rintro a w ⟨x1, v1, c1, g1, F, l1, S, h1, hm⟩
  refine wp_seq ?_
  refine wp_region_lit ?_
  refine wE (ev_move rfl) F S rfl fun a F=>?_
  refine wE (ev_assign rfl) F S rfl fun a F=>?_
  refine wpList_nil ?_
  refine then_n ?_
  refine wp_ret ?_
  obtain rfl := sinj hm
  refine post_r _ F rfl (ar_cons (resT rfl) ar_nil) ?_
  exact ⟨_, rfl, g1, v1, c1, l1, S, h1, rfl⟩

theorem textpatch_Made_ok {g : Gh} {fr : Hl} {w : World} {r : Patch × Fault} (p_ : Patch) (vp_1 : Value) (hp_1 : RepSl g p_.Hunks vp_1) (S : St g [] fr w) (hm : textpatch_Made p_ = some r) :
  Calls Tryz.prog 82 [.agg #[vp_1]].toArray w (fun en w' => ∃ v, en = .returned v ∧ ∃ (g' : Gh) (v1 : Value), Le g g' ∧ St g' [] fr w' ∧ RepSl g' r.1.Hunks v1 ∧ .tuple #[.agg #[v1], .agg #[.i6 r.2.Code, .i6 r.2.Index]] = v) := by
 unfold textpatch_Made at hm
 refine calls_enter (fn := Tryz.f82) Tryz.func82 rfl Tryz.ntmps82 (lb rfl) ?_
 intro a F
 replace F : Fr 12 a [(0, .agg #[vp_1])] := F
 refine wp_seq ?_
 refine wp_region_lit ?_
 refine wl_boxC (wn rfl) rfl rfl rfl F S rfl rfl ?_; clear F a S; rintro b1 a w F S
 refine wl_alloc (wn rfl) rfl tz27 (cs := [nilS]) rfl F S rfl rfl ?_; clear F a S; rintro b2 a w F S
 refine wl_alloc (wn rfl) rfl tz32 (cs := [.i6 0, .i6 0]) rfl F S rfl rfl ?_; clear F a S; rintro b3 a w F S
 refine wpList_nil ?_
 refine then_n ?_
 refine wp_seq ?_
 refine wp_seq ?_
 refine wp_region_lit ?_
 refine wE (ev_loadA tu27 rfl (cs := [vp_1]) ts27 rfl (box_ptr (cells := [vp_1]) 2 rfl 0 rfl (lb rfl))) F S rfl fun a F=>?_
 obtain ⟨y1, hy1, hm⟩ := bind_some hm
 refine wl_call0 (wn rfl) rfl F rfl (textpatch_Validate_ok (fr := (fl [[bx b3 #[.i6 0, .i6 0] 32], [bx b2 #[nilS] 27], [bx b1 #[vp_1] 27]] fr)) p_ vp_1 hp_1 S hy1) rfl tc60 rfl rfl ?_; clear F a S
 rintro _ a w ⟨g1, l1, S, rfl⟩ F; replace S : St g1 [[bx b3 #[.i6 0, .i6 0] 32], [bx b2 #[nilS] 27], [bx b1 #[vp_1] 27]] fr w := S
 refine wE (ev_build (parts := []) (vs := []) rfl (fun w => tb32_  w)) F S rfl fun a F=>?_
 refine wE (ev_neS tu32 tqa32 tqb32 tqc32 (xs := [.i6 y1.Code, .i6 y1.Index]) (ys := [.i6 0, .i6 0]) rfl rfl ⟨_, _, rfl, by decide, ⟨_, _, rfl, rfl, leaf_int tu3⟩, ⟨_, _, rfl, by decide, ⟨_, _, rfl, rfl, leaf_int tu3⟩, rfl⟩⟩) F S rfl fun a F=>?_
 refine wpList_nil ?_
 refine then_n ?_
 obtain ⟨hc1, hm⟩ | ⟨hc1, hm⟩ := ite_or hm
 ·refine wp_condT F rfl hc1 ?_
  refine wp_seq ?_
  refine wp_region_lit ?_
  refine wE (ev_build (parts := []) (vs := []) rfl (fun w => tb27_  w)) F S rfl fun a F=>?_
  refine wE (ev_build (parts := [(0, .const (.i6 10)), (1, .const (.i6 (-1)))]) (vs := [(0, .i6 10), (1, .i6 (-1))]) rfl (fun w => tb32_0_1 10 (-1) w)) F S rfl fun a F=>?_
  refine wl_storeC (wn rfl) rfl F S rfl rfl (vs := [nilS]) rfl ts27 (one_cons rfl one_nil) (k := 1) rfl (lb rfl) (c' := #[nilS]) rfl rfl ?_; clear S; intro w S
  refine wl_storeC (wn rfl) rfl F S rfl rfl (vs := [.i6 10, .i6 (-1)]) rfl ts32 (one_cons rfl (one_cons rfl one_nil)) (k := 0) rfl (lb rfl) (c' := #[.i6 10, .i6 (-1)]) rfl rfl ?_; clear S; intro w S
  refine wpList_nil ?_
  refine then_n ?_
  refine wp_ret ?_
  refine then_r ?_
  obtain rfl := sinj hm
  refine post_r _ F rfl (ar_cons (resA rfl tu27 rfl (box_ptr (cells := [nilS]) 1 rfl 0 rfl (lb rfl) w S) ts27) (ar_cons (resA rfl tu32 rfl (box_ptr (cells := [.i6 10, .i6 (-1)]) 0 rfl 0 rfl (lb rfl) w S) ts32) ar_nil)) ?_
  replace S : St g1 [] fr w := St.tail [] _ S
  exact ⟨_, rfl, g1, (nilS), l1, S, (RepSl.nil _), rfl⟩
 ·refine wp_condF F rfl hc1 ?_
  refine wp_skip ?_
  refine then_n ?_
  refine wp_seq ?_
  refine wp_region_lit ?_
  refine wE (ev_loadA tu27 rfl (cs := [vp_1]) ts27 rfl (box_ptr (cells := [vp_1]) 2 rfl 0 rfl (lb rfl))) F S rfl fun a F=>?_
  refine wE (ev_build (parts := []) (vs := []) rfl (fun w => tb32_  w)) F S rfl fun a F=>?_
  refine wl_storeC (wn rfl) rfl F S rfl rfl (vs := [vp_1]) rfl ts27 (one_cons hp_1.one one_nil) (k := 1) rfl (lb rfl) (c' := #[vp_1]) rfl rfl ?_; clear S; intro w S
  refine wl_storeC (wn rfl) rfl F S rfl rfl (vs := [.i6 0, .i6 0]) rfl ts32 (one_cons rfl (one_cons rfl one_nil)) (k := 0) rfl (lb rfl) (c' := #[.i6 0, .i6 0]) rfl rfl ?_; clear S; intro w S
  refine wpList_nil ?_
  refine then_n ?_
  refine wp_ret ?_
  obtain rfl := sinj hm
  refine post_r _ F rfl (ar_cons (resA rfl tu27 rfl (box_ptr (cells := [vp_1]) 1 rfl 0 rfl (lb rfl) w S) ts27) (ar_cons (resA rfl tu32 rfl (box_ptr (cells := [.i6 0, .i6 0]) 0 rfl 0 rfl (lb rfl) w S) ts32) ar_nil)) ?_
  replace S : St g1 [] fr w := St.tail [] _ S
  exact ⟨_, rfl, g1, vp_1, l1, S, (hp_1.mono l1), rfl⟩

theorem commute_shift_ok {g : Gh} {fr : Hl} {w : World} {r : Patch} (p_ : Patch) (vp_1 : Value) (hp_1 : RepSl g p_.Hunks vp_1) (l_ : (List Range_commute)) (vl_1 : Value) (hl_1 : RepSl g l_ vl_1) (sign : Int) (S : St g [] fr w) (hm : commute_shift p_ l_ sign = some r) :
  Calls Tryz.prog 83 [.agg #[vp_1], vl_1, .i6 sign].toArray w (fun en w' => ∃ v, en = .returned v ∧ ∃ (g' : Gh) (v1 : Value) (c1 : Hl), Le g g' ∧ St g' [c1] fr w' ∧ OwnS g' r.Hunks v1 c1 ∧ .agg #[v1] = v) := by
 unfold commute_shift at hm
 refine calls_enter (fn := Tryz.f83) Tryz.func83 rfl Tryz.ntmps83 (lb rfl) ?_
 intro a F
 replace F : Fr 49 a [(0, .agg #[vp_1]), (1, vl_1), (2, .i6 sign)] := F
 refine wp_seq ?_
 refine wp_region_lit ?_
 refine wl_boxC (wn rfl) rfl rfl rfl F S rfl rfl ?_; clear F a S; rintro b1 a w F S
 refine wl_alloc (wn rfl) rfl tz27 (cs := [nilS]) rfl F S rfl rfl ?_; clear F a S; rintro b2 a w F S
 refine wpList_nil ?_
 refine then_n ?_
 refine wp_seq ?_
 refine wp_region_lit ?_
 refine wE (ev_loadA tu27 rfl (cs := [vp_1]) ts27 rfl (box_ptr (cells := [vp_1]) 1 rfl 0 rfl (lb rfl))) F S rfl fun a F=>?_
 obtain ⟨y1, hy1, hm⟩ := bind_some hm
 refine wl_call0 (wn rfl) rfl F rfl (textpatch_Copy_ok (fr := (fl [[bx b2 #[nilS] 27], [bx b1 #[vp_1] 27]] fr)) p_ vp_1 hp_1 S hy1) rfl tc73 rfl rfl ?_; clear F a S
 rintro _ a w ⟨g1, v1, c1, l1, S, h1, rfl⟩ F; replace S : St g1 [c1, [bx b2 #[nilS] 27], [bx b1 #[vp_1] 27]] fr w := S
 refine wl_alloc (wn rfl) rfl tz27 (cs := [nilS]) rfl F S rfl rfl ?_; clear F a S; rintro b3 a w F S
 refine wl_storeC (wn rfl) rfl F S rfl rfl (vs := [v1]) rfl ts27 (one_cons (OwnS.one h1) one_nil) (k := 0) rfl (lb rfl) (c' := #[v1]) rfl rfl ?_; clear S; intro w S
 refine wpList_nil ?_
 refine then_n ?_
 refine wp_cut (fun a w => ∃ (x1 : List Hunk) (v2 : Value) (c2 : Hl) (g2 : Gh), Fr 49 a [(7, bp b3 0), (6, bp b2 0)] ∧ Le g1 g2 ∧ St g2 [[bx b3 #[v2] 27], [bx b2 #[nilS] 27], c2] fr w ∧ OwnS g2 x1 v2 c2 ∧ commute_shift.j1 x1 = some r) ?_ ?_
 ·refine wp_seq ?_
  refine wp_region_lit ?_
  refine wE (ev_fieldAddr' tu27 tf27_0 (z := 0) ts25 rfl ⟨_, rfl⟩ rfl) F S rfl fun a F=>?_
  refine wE (ev_load1 tu25 rfl rfl (box_ptr (cells := [vp_1]) 3 rfl 0 rfl (lb rfl))) F S rfl fun a F=>?_
  refine wE (ev_lenSh hp_1 rfl tu25) F S rfl fun a F=>?_
  refine wE (ev_move rfl) F S rfl fun a F=>?_
  refine wpList_nil ?_
  refine then_n ?_
  refine wp_block ?_
  obtain ⟨r1, hr1, hm⟩ := bind_some hm
  have hmo1 := hm; clear hm
  refine wp_iter (σ := Int × (List Hunk)) (ρ := (List Hunk)) (m := fun s => commute_shift.l1 p_ l_ sign s.1 s.2) (I := fun s a w => match s with | (x2, x3) => ∃ (v3 : Value) (c3 : Hl) (g3 : Gh), Fr 49 a [(17, .i6 x2), (16, .i6 (p_.Hunks.length : Int)), (15, vp_1), (7, bp b3 0), (6, bp b2 0), (1, vl_1), (2, .i6 sign)] ∧ Le g1 g3 ∧ St g3 [[bx b3 #[v3] 27], [bx b2 #[nilS] 27], c3] fr w ∧ OwnS g3 x3 v3 c3) hr1 ?_ ?_
  ·dsimp only
   replace S : St g1 [[bx b3 #[v1] 27], [bx b2 #[nilS] 27], c1] fr w := St.tail [[bx b3 #[v1] 27], [bx b2 #[nilS] 27], c1] _ (((S.frontC 1 rfl).frontC 3 rfl).frontC 2 rfl)
   exact ⟨v1, c1, g1, F.sub ⟨rfl, rfl, rfl, rfl, rfl, rfl, rfl, trivial⟩, (Le.refl _), S, h1⟩
  ·clear F S; rintro ⟨x2, x3⟩ a w x4 ⟨v3, c3, g3, F, l3, S, h3⟩ hx1 hfin1
   have hm : commute_shift.l1 p_ l_ sign x2 x3 = some x4 := hx1; clear hx1
   unfold commute_shift.l1 at hm
   refine wp_seq ?_
   refine wp_region_lit ?_
   refine wE (ev_int rfl rfl (bo_lss _ _ _ _)) F S rfl fun a F=>?_
   refine wpList_nil ?_
   refine then_n ?_
   refine wp_seq ?_
   obtain ⟨hc1, hm⟩ | ⟨hc1, hm⟩ := ite_or hm
   ·refine wp_condT F rfl hc1 ?_
    refine wp_skip ?_
    refine then_n ?_
    refine wp_cut (fun a w => ∃ (x5 : List Hunk) (v4 : Value) (c4 : Hl) (g4 : Gh), Fr 49 a [(17, .i6 x2), (16, .i6 (p_.Hunks.length : Int)), (15, vp_1), (7, bp b3 0), (6, bp b2 0), (1, vl_1), (2, .i6 sign)] ∧ Le g3 g4 ∧ St g4 [[bx b3 #[v4] 27], [bx b2 #[nilS] 27], c4] fr w ∧ OwnS g4 x5 v4 c4 ∧ commute_shift.j2 x2 x5 = some x4) ?_ ?_
    ·refine wp_block ?_
     refine wp_seq ?_
     refine wp_region_lit ?_
     refine wE (ev_move rfl) F S rfl fun a F=>?_
     obtain ⟨y2, hy2, hm⟩ := bind_some hm
     obtain ⟨cs1, hr2, hp1⟩ := elemS (hp_1.mono (l1.trans l3)) hy2
     obtain ⟨v5, v6, rfl, h5, h6⟩ := rep_Hunk hr2
     refine wE (ev_idxS (hp_1.mono (l1.trans l3)) hy2 tu25 ts65 rfl rfl) F S rfl fun a F=>?_
     refine wE (ev_loadA tu65 rfl (cs := [.i6 y2.At, v5, v6]) ts65 rfl (ptr_mono (cks := [[bx b3 #[v3] 27], [bx b2 #[nilS] 27], c3]) (fr := fr) hp1 (Le.refl _))) F S rfl fun a F=>?_
     refine wl_alloc (wn rfl) rfl tz65 (cs := [.i6 0, nilS, nilS]) rfl F S rfl rfl ?_; clear F a S; rintro b4 a w F S
     refine wE (ev_assign rfl) F S rfl fun a F=>?_
     refine wl_storeC (wn rfl) rfl F S rfl rfl (vs := [.i6 y2.At, v5, v6]) rfl ts65 (one_cons rfl (one_cons h5.one (one_cons h6.one one_nil))) (k := 0) rfl (lb rfl) (c' := #[.i6 y2.At, v5, v6]) rfl rfl ?_; clear S; intro w S
     refine wpList_nil ?_
     refine then_n ?_
     refine wp_seq ?_
     refine wp_region_lit ?_
     refine wE (ev_move rfl) F S rfl fun a F=>?_
     refine wE (ev_lenSh hl_1 rfl tu128) F S rfl fun a F=>?_
     refine wE (ev_move rfl) F S rfl fun a F=>?_
     refine wpList_nil ?_
     refine then_n ?_
     refine wp_cut1 (fun a w => ∃ (x6 : List Hunk) (v7 : Value) (c5 : Hl) (g5 : Gh), Fr 49 a [(17, .i6 x2), (16, .i6 (p_.Hunks.length : Int)), (15, vp_1), (7, bp b3 0), (6, bp b2 0), (1, vl_1), (2, .i6 sign)] ∧ Le g3 g5 ∧ St g5 [[bx b3 #[v7] 27], [bx b2 #[nilS] 27], c5] fr w ∧ OwnS g5 x6 v7 c5 ∧ commute_shift.j3 x2 x6 = some x4) ?_ ?_
     ·refine wp_block ?_
      obtain ⟨r2, hr3, hm⟩ := bind_some hm
      have hmo2 := hm; clear hm
      refine wp_iter (σ := Int × (List Hunk)) (ρ := (List Hunk)) (m := fun s => commute_shift.l2 l_ sign x2 y2 s.1 s.2) (I := fun s a w => match s with | (x7, x8) => ∃ (v8 : Value) (c6 : Hl) (g6 : Gh), Fr 49 a [(24, .i6 x7), (23, .i6 (l_.length : Int)), (22, vl_1), (8, .i6 x2), (9, bp b4 0), (17, .i6 x2), (16, .i6 (p_.Hunks.length : Int)), (15, vp_1), (7, bp b3 0), (6, bp b2 0), (1, vl_1), (2, .i6 sign)] ∧ Le g3 g6 ∧ St g6 [[bx b4 #[.i6 y2.At, v5, v6] 65], [bx b3 #[v8] 27], [bx b2 #[nilS] 27], c6] fr w ∧ OwnS g6 x8 v8 c6) hr3 ?_ ?_
      ·dsimp only
       exact ⟨v3, c3, g3, F.sub ⟨rfl, rfl, rfl, rfl, rfl, rfl, rfl, rfl, rfl, rfl, rfl, rfl, trivial⟩, (Le.refl _), S, h3⟩
      ·clear F S; rintro ⟨x7, x8⟩ a w x9 ⟨v8, c6, g6, F, l6, S, h8⟩ hx2 hfin2
       have hm : commute_shift.l2 l_ sign x2 y2 x7 x8 = some x9 := hx2; clear hx2
       unfold commute_shift.l2 at hm
       refine wp_seq ?_
       refine wp_region_lit ?_
       refine wE (ev_int rfl rfl (bo_lss _ _ _ _)) F S rfl fun a F=>?_
       refine wpList_nil ?_
       refine then_n ?_
       refine wp_seq ?_
       obtain ⟨hc2, hm⟩ | ⟨hc2, hm⟩ := ite_or hm
       ·refine wp_condT F rfl hc2 ?_
        refine wp_skip ?_
        refine then_n ?_
        refine wp_cut (fun a w => ∃ (x10 : List Hunk) (v9 : Value) (c7 : Hl) (g7 : Gh), Fr 49 a [(24, .i6 x7), (23, .i6 (l_.length : Int)), (22, vl_1), (8, .i6 x2), (9, bp b4 0), (17, .i6 x2), (16, .i6 (p_.Hunks.length : Int)), (15, vp_1), (7, bp b3 0), (6, bp b2 0), (1, vl_1), (2, .i6 sign)] ∧ Le g6 g7 ∧ St g7 [[bx b4 #[.i6 y2.At, v5, v6] 65], [bx b3 #[v9] 27], [bx b2 #[nilS] 27], c7] fr w ∧ OwnS g7 x10 v9 c7 ∧ commute_shift.j4 x7 x10 = some x9) ?_ ?_
        ·refine wp_block ?_
         refine wp_seq ?_
         refine wp_region_lit ?_
         obtain ⟨y3, hy3, hm⟩ := bind_some hm
         obtain ⟨cs2, hr4, hp2⟩ := elemS (hl_1.mono ((l1.trans l3).trans l6)) hy3
         obtain rfl := rep_Range_commute hr4
         refine wE (ev_idxS (hl_1.mono ((l1.trans l3).trans l6)) hy3 tu128 ts174 rfl rfl) F S rfl fun a F=>?_
         refine wE (ev_loadA tu174 rfl (cs := [.i6 y3.Low, .i6 y3.High, .i6 y3.Growth]) ts174 rfl (ptr_mono (cks := [[bx b4 #[.i6 y2.At, v5, v6] 65], [bx b3 #[v8] 27], [bx b2 #[nilS] 27], c6]) (fr := fr) hp2 (Le.refl _))) F S rfl fun a F=>?_
         refine wl_alloc (wn rfl) rfl tz174 (cs := [.i6 0, .i6 0, .i6 0]) rfl F S rfl rfl ?_; clear F a S; rintro b5 a w F S
         refine wl_storeC (wn rfl) rfl F S rfl rfl (vs := [.i6 y3.Low, .i6 y3.High, .i6 y3.Growth]) rfl ts174 (one_cons rfl (one_cons rfl (one_cons rfl one_nil))) (k := 0) rfl (lb rfl) (c' := #[.i6 y3.Low, .i6 y3.High, .i6 y3.Growth]) rfl rfl ?_; clear S; intro w S
         refine wpList_nil ?_
         refine then_n ?_
         refine wp_seq ?_
         refine wp_region_lit ?_
         refine wE (ev_fieldAddr' tu174 tf174_1 (z := 0) ts3 rfl ⟨_, rfl⟩ rfl) F S rfl fun a F=>?_
         refine wE (ev_load1 tu3 rfl rfl (box_ptr (cells := [.i6 y3.High]) 0 rfl 1 rfl (lb rfl))) F S rfl fun a F=>?_
         refine wE (ev_fieldAddr' tu65 tf65_0 (z := 0) ts3 rfl ⟨_, rfl⟩ rfl) F S rfl fun a F=>?_
         refine wE (ev_load1 tu3 rfl rfl (box_ptr (cells := [.i6 y2.At]) 1 rfl 0 rfl (lb rfl))) F S rfl fun a F=>?_
         refine wE (ev_int rfl rfl (bo_lss _ _ _ _)) F S rfl fun a F=>?_
         refine wpList_nil ?_
         refine then_n ?_
         obtain ⟨hc3, hm⟩ | ⟨hc3, hm⟩ := ite_or hm
         ·refine wp_condT F rfl hc3 ?_
          refine wp_dv [] mo S ?_; clear S; intro ok1 w S
          refine dv_et ok1 0 rfl (ev_fieldAddr' tu27 tf27_0 (z := 0) ts25 rfl ⟨_, rfl⟩ rfl) F rfl fun a F=>?_
          refine dv_ev ok1 1 rfl (ev_load1 tu25 rfl rfl (box_ptr (cells := [v8]) 2 rfl 0 rfl (lb rfl))) F S rfl fun a F=>?_
          refine dv_et ok1 2 rfl (ev_move rfl) F rfl fun a F=>?_
          obtain ⟨y4, hy4, hm⟩ := bind_some hm
          refine dv_et ok1 3 rfl (ev_idxO h8 hy4 tu25 ts65 rfl rfl) F rfl fun a F=>?_
          refine dv_et ok1 4 rfl (ev_fieldAddr' tu65 tf65_0 (z := 0) ts3 rfl (elemO_ptr h8 hy4) addP_zero) F rfl fun a F=>?_
          obtain ⟨cs3, hr5, hq1⟩ := elemO h8 hy4
          obtain ⟨v10, v11, rfl, h10, h11⟩ := rep_Hunk hr5
          refine dv_ev ok1 5 rfl (ev_load1 tu3 rfl rfl (fun w s => fieldP0 (cells := [.i6 y4.At]) (hq1 _ _ 4 rfl w s) rfl (lb rfl))) F S rfl fun a F=>?_
          refine dv_et ok1 6 rfl (ev_move rfl) F rfl fun a F=>?_
          refine dv_et ok1 7 rfl (ev_fieldAddr' tu174 tf174_2 (z := 0) ts3 rfl ⟨_, rfl⟩ rfl) F rfl fun a F=>?_
          refine dv_ev ok1 8 rfl (ev_load1 tu3 rfl rfl (box_ptr (cells := [.i6 y3.Growth]) 0 rfl 2 rfl (lb rfl))) F S rfl fun a F=>?_
          obtain ⟨z3, hz3, hm⟩ := bind_some hm
          refine dv_et ok1 9 rfl (ev_int rfl rfl (bo_mul hz3)) F rfl fun a F=>?_
          obtain ⟨z4, hz4, hm⟩ := bind_some hm
          refine dv_et ok1 10 rfl (ev_int rfl rfl (bo_add hz4)) F rfl fun a F=>?_
          obtain ⟨y5, hy5, hm⟩ := bind_some hm
          refine dv_et ok1 11 rfl (ev_idxO h8 hy5 tu25 ts65 rfl rfl) F rfl fun a F=>?_
          refine dv_et ok1 12 rfl (ev_fieldAddr' tu65 tf65_0 (z := 0) ts3 rfl (elemO_ptr h8 hy5) addP_zero) F rfl fun a F=>?_
          refine dv_op ok1 13 rfl [] ?_
          obtain ⟨y6, hy6, hm⟩ := bind_some hm
          refine wl_storeE (z' := ({ At := z4, Old := y5.Old, New := y5.New } : Hunk)) 0 (wn rfl) rfl F S h8 hy5 addP_zero rfl rfl (us := [.i6 z4]) rfl ts3 (one_cons rfl one_nil) (k := 4) rfl (lb rfl) (fun cs hcs => by obtain ⟨v12, v13, rfl, h13, h14⟩ := rep_Hunk hcs; exact (rep_Hunk_mk (x := ({ At := z4, Old := y5.Old, New := y5.New } : Hunk)) h13 h14)) rfl ?_; clear S
          rintro c8 w h12 S; replace S : St g6 [[bx b5 #[.i6 y3.Low, .i6 y3.High, .i6 y3.Growth] 174], [bx b4 #[.i6 y2.At, v5, v6] 65], [bx b3 #[v8] 27], [bx b2 #[nilS] 27], c8] fr w := S; replace h12 : OwnS g6 y6 v8 c8 := sinj hy6 ▸ h12
          refine dv_nx trivial ?_
          refine dv_fin ok1 ?_
          refine inb_n ?_
          refine then_n ?_
          replace S : St g6 [[bx b4 #[.i6 y2.At, v5, v6] 65], [bx b3 #[v8] 27], [bx b2 #[nilS] 27], c8] fr w := St.tail [[bx b4 #[.i6 y2.At, v5, v6] 65], [bx b3 #[v8] 27], [bx b2 #[nilS] 27], c8] _ ((((S.frontC 4 rfl).frontC 4 rfl).frontC 4 rfl).frontC 4 rfl)
          exact ⟨y6, v8, c8, g6, F.sub ⟨rfl, rfl, rfl, rfl, rfl, rfl, rfl, rfl, rfl, rfl, rfl, rfl, trivial⟩, (Le.refl _), S, h12, hm⟩
         ·refine wp_condF F rfl hc3 ?_
          refine wp_skip ?_
          refine inb_n ?_
          refine then_n ?_
          replace S : St g6 [[bx b4 #[.i6 y2.At, v5, v6] 65], [bx b3 #[v8] 27], [bx b2 #[nilS] 27], c6] fr w := St.tail [[bx b4 #[.i6 y2.At, v5, v6] 65], [bx b3 #[v8] 27], [bx b2 #[nilS] 27], c6] _ ((((S.frontC 4 rfl).frontC 4 rfl).frontC 4 rfl).frontC 4 rfl)
          exact ⟨x8, v8, c6, g6, F.sub ⟨rfl, rfl, rfl, rfl, rfl, rfl, rfl, rfl, rfl, rfl, rfl, rfl, trivial⟩, (Le.refl _), S, h8, hm⟩
        ·clear F S hm; rintro a w ⟨x10, v9, c7, g7, F, l7, S, h9, hm⟩
         refine wp_region_lit ?_
         obtain ⟨z2, hz2, hm⟩ := bind_some hm
         refine wE (ev_int rfl rfl (bo_add hz2)) F S rfl fun a F=>?_
         refine wE (ev_move rfl) F S rfl fun a F=>?_
         refine wpList_nil ?_
         refine then_n ?_
         obtain rfl := sinj hm
         refine ⟨_, rfl, ?_⟩
         dsimp only
         exact ⟨v9, c7, g7, F.sub ⟨rfl, rfl, rfl, rfl, rfl, rfl, rfl, rfl, rfl, rfl, rfl, rfl, trivial⟩, (l6.trans l7), S, h9⟩
       ·refine wp_condF F rfl hc2 ?_
        refine wp_exit ?_
        refine then_e ?_
        refine then_e ?_
        refine inb_x ?_
        refine then_n ?_
        obtain rfl := sinj hm
        obtain rfl := hfin2 _ rfl
        clear hm
        have hm : (commute_shift.j3 x2 x8 : Option (Step (Int × (List Hunk)) (List Hunk))) = some _ := hmo2
        replace S : St g6 [[bx b3 #[v8] 27], [bx b2 #[nilS] 27], c6] fr w := St.tail [[bx b3 #[v8] 27], [bx b2 #[nilS] 27], c6] _ (((S.frontC 3 rfl).frontC 3 rfl).frontC 3 rfl)
        exact ⟨x8, v8, c6, g6, F.sub ⟨rfl, rfl, rfl, rfl, rfl, rfl, rfl, trivial⟩, l6, S, h8, hm⟩
     ·clear F S hm; rintro a w ⟨x6, v7, c5, g5, F, l5, S, h7, hm⟩
      refine inb_n ?_
      refine then_n ?_
      exact ⟨x6, v7, c5, g5, F.sub ⟨rfl, rfl, rfl, rfl, rfl, rfl, rfl, trivial⟩, l5, S, h7, hm⟩
    ·clear F S hm; rintro a w ⟨x5, v4, c4, g4, F, l4, S, h4, hm⟩
     refine wp_region_lit ?_
     obtain ⟨z1, hz1, hm⟩ := bind_some hm
     refine wE (ev_int rfl rfl (bo_add hz1)) F S rfl fun a F=>?_
     refine wE (ev_move rfl) F S rfl fun a F=>?_
     refine wpList_nil ?_
     refine then_n ?_
     obtain rfl := sinj hm
     refine ⟨_, rfl, ?_⟩
     dsimp only
     exact ⟨v4, c4, g4, F.sub ⟨rfl, rfl, rfl, rfl, rfl, rfl, rfl, trivial⟩, (l3.trans l4), S, h4⟩
   ·refine wp_condF F rfl hc1 ?_
    refine wp_exit ?_
    refine then_e ?_
    refine then_e ?_
    refine inb_x ?_
    refine then_n ?_
    obtain rfl := sinj hm
    obtain rfl := hfin1 _ rfl
    clear hm
    have hm : (commute_shift.j1 x3 : Option Patch) = some _ := hmo1
    exact ⟨x3, v3, c3, g3, F.sub ⟨rfl, rfl, trivial⟩, l3, S, h3, hm⟩
 ·clear F S hm; rintro a w ⟨x1, v2, c2, g2, F, l2, S, h2, hm⟩
  refine wp_seq ?_
  refine wp_region_lit ?_
  refine wE (ev_loadA tu27 rfl (cs := [v2]) ts27 rfl (box_ptr (cells := [v2]) 0 rfl 0 rfl (lb rfl))) F S rfl fun a F=>?_
  refine wl_storeC (wn rfl) rfl F S rfl rfl (vs := [v2]) rfl ts27 (one_cons (OwnS.one h2) one_nil) (k := 1) rfl (lb rfl) (c' := #[v2]) rfl rfl ?_; clear S; intro w S
  refine wpList_nil ?_
  refine then_n ?_
  refine wp_ret ?_
  obtain rfl := sinj hm
  refine post_r _ F rfl (ar_cons (resA rfl tu27 rfl (box_ptr (cells := [v2]) 1 rfl 0 rfl (lb rfl) w S) ts27) ar_nil) ?_
  replace S : St g2 [c2] fr w := St.tail [c2] _ (S.frontC 2 rfl)
  exact ⟨_, rfl, g2, v2, c2, (l1.trans l2), S, h2, rfl⟩

theorem commute_Commute_ok {g : Gh} {fr : Hl} {w : World} {r : Patch × Patch × Bool × Fault} (p_ : Patch) (vp_1 : Value) (hp_1 : RepSl g p_.Hunks vp_1) (q_ : Patch) (vq_1 : Value) (hq_1 : RepSl g q_.Hunks vq_1) (S : St g [] fr w) (hm : commute_Commute p_ q_ = some r) :
  Calls Tryz.prog 40 [.agg #[vp_1], .agg #[vq_1]].toArray w (fun en w' => ∃ v, en = .returned v ∧ ∃ (g' : Gh) (v1 v2 : Value), Le g g' ∧ St g' [] fr w' ∧ RepSl g' r.1.Hunks v1 ∧ RepSl g' r.2.1.Hunks v2 ∧ .tuple #[.agg #[v1], .agg #[v2], .bool r.2.2.1, .agg #[.i6 r.2.2.2.Code, .i6 r.2.2.2.Index]] = v) := by
 unfold commute_Commute at hm
 refine calls_enter (fn := Tryz.f40) Tryz.func40 rfl Tryz.ntmps40 (lb rfl) ?_
 intro a F
 replace F : Fr 62 a [(0, .agg #[vp_1]), (1, .agg #[vq_1])] := F
 refine wp_seq ?_
 refine wp_region_lit ?_
 refine wl_boxC (wn rfl) rfl rfl rfl F S rfl rfl ?_; clear F a S; rintro b1 a w F S
 refine wl_boxC (wn rfl) rfl rfl rfl F S rfl rfl ?_; clear F a S; rintro b2 a w F S
 refine wl_alloc (wn rfl) rfl tz27 (cs := [nilS]) rfl F S rfl rfl ?_; clear F a S; rintro b3 a w F S
 refine wl_alloc (wn rfl) rfl tz27 (cs := [nilS]) rfl F S rfl rfl ?_; clear F a S; rintro b4 a w F S
 refine wE (ev_assign rfl) F S rfl fun a F=>?_
 refine wl_alloc (wn rfl) rfl tz32 (cs := [.i6 0, .i6 0]) rfl F S rfl rfl ?_; clear F a S; rintro b5 a w F S
 refine wpList_nil ?_
 refine then_n ?_
 refine wp_seq ?_
 refine wp_region_lit ?_
 refine wl_alloc (wn rfl) rfl tz27 (cs := [nilS]) rfl F S rfl rfl ?_; clear F a S; rintro b6 a w F S
 refine wpList_nil ?_
 refine then_n ?_
 refine wp_seq ?_
 refine wp_seq ?_
 refine wp_region_lit ?_
 refine wE (ev_loadA tu27 rfl (cs := [vp_1]) ts27 rfl (box_ptr (cells := [vp_1]) 5 rfl 0 rfl (lb rfl))) F S rfl fun a F=>?_
 refine wE (ev_loadA tu27 rfl (cs := [vq_1]) ts27 rfl (box_ptr (cells := [vq_1]) 4 rfl 0 rfl (lb rfl))) F S rfl fun a F=>?_
 obtain ⟨y1, hy1, hm⟩ := bind_some hm
 refine wl_call0 (wn rfl) rfl F rfl (commute_both_ok (fr := (fl [[bx b6 #[nilS] 27], [bx b5 #[.i6 0, .i6 0] 32], [bx b4 #[nilS] 27], [bx b3 #[nilS] 27], [bx b2 #[vq_1] 27], [bx b1 #[vp_1] 27]] fr)) p_ vp_1 hp_1 q_ vq_1 hq_1 S hy1) rfl tc78 rfl rfl ?_; clear F a S
 rintro _ a w ⟨g1, l1, S, rfl⟩ F; replace S : St g1 [[bx b6 #[nilS] 27], [bx b5 #[.i6 0, .i6 0] 32], [bx b4 #[nilS] 27], [bx b3 #[nilS] 27], [bx b2 #[vq_1] 27], [bx b1 #[vp_1] 27]] fr w := S
 refine wl_alloc (wn rfl) rfl tz32 (cs := [.i6 0, .i6 0]) rfl F S rfl rfl ?_; clear F a S; rintro b7 a w F S
 refine wl_storeC (wn rfl) rfl F S rfl rfl (vs := [.i6 y1.Code, .i6 y1.Index]) rfl ts32 (one_cons rfl (one_cons rfl one_nil)) (k := 0) rfl (lb rfl) (c' := #[.i6 y1.Code, .i6 y1.Index]) rfl rfl ?_; clear S; intro w S
 refine wpList_nil ?_
 refine then_n ?_
 refine wp_seq ?_
 refine wp_region_lit ?_
 refine wE (ev_loadA tu32 rfl (cs := [.i6 y1.Code, .i6 y1.Index]) ts32 rfl (box_ptr (cells := [.i6 y1.Code, .i6 y1.Index]) 0 rfl 0 rfl (lb rfl))) F S rfl fun a F=>?_
 refine wE (ev_build (parts := []) (vs := []) rfl (fun w => tb32_  w)) F S rfl fun a F=>?_
 refine wE (ev_neS tu32 tqa32 tqb32 tqc32 (xs := [.i6 y1.Code, .i6 y1.Index]) (ys := [.i6 0, .i6 0]) rfl rfl ⟨_, _, rfl, by decide, ⟨_, _, rfl, rfl, leaf_int tu3⟩, ⟨_, _, rfl, by decide, ⟨_, _, rfl, rfl, leaf_int tu3⟩, rfl⟩⟩) F S rfl fun a F=>?_
 refine wpList_nil ?_
 refine then_n ?_
 obtain ⟨hc1, hm⟩ | ⟨hc1, hm⟩ := ite_or hm
 ·refine wp_condT F rfl hc1 ?_
  refine wp_seq ?_
  refine wp_dv [] mo S ?_; clear S; intro ok1 w S
  refine dv_ev ok1 0 rfl (ev_loadA tu27 rfl (cs := [nilS]) ts27 rfl (box_ptr (cells := [nilS]) 1 rfl 0 rfl (lb rfl))) F S rfl fun a F=>?_
  refine dv_ev ok1 1 rfl (ev_loadA tu27 rfl (cs := [nilS]) ts27 rfl (box_ptr (cells := [nilS]) 1 rfl 0 rfl (lb rfl))) F S rfl fun a F=>?_
  refine dv_ev ok1 2 rfl (ev_loadA tu32 rfl (cs := [.i6 y1.Code, .i6 y1.Index]) ts32 rfl (box_ptr (cells := [.i6 y1.Code, .i6 y1.Index]) 0 rfl 0 rfl (lb rfl))) F S rfl fun a F=>?_
  refine dv_op ok1 3 rfl [(2, .agg #[.i6 y1.Code, .i6 y1.Index]), (1, .agg #[nilS])] ?_
  refine wl_storeC (wn rfl) rfl F S rfl rfl (vs := [nilS]) rfl ts27 (one_cons rfl one_nil) (k := 4) rfl (lb rfl) (c' := #[nilS]) rfl rfl ?_; clear S; intro w S
  refine dv_nx ⟨yl_ev rfl rfl (ev_loadA tu32 rfl (cs := [.i6 y1.Code, .i6 y1.Index]) ts32 rfl (box_ptr (cells := [.i6 y1.Code, .i6 y1.Index]) 0 rfl 0 rfl (lb rfl))) F S, yl_ev rfl rfl (ev_loadA tu27 rfl (cs := [nilS]) ts27 rfl (box_ptr (cells := [nilS]) 1 rfl 0 rfl (lb rfl))) F S, trivial⟩ ?_
  refine dv_op ok1 4 rfl [(2, .agg #[.i6 y1.Code, .i6 y1.Index])] ?_
  refine wl_storeC (wn rfl) rfl F S rfl rfl (vs := [nilS]) rfl ts27 (one_cons rfl one_nil) (k := 3) rfl (lb rfl) (c' := #[nilS]) rfl rfl ?_; clear S; intro w S
  refine dv_nx ⟨yl_ev rfl rfl (ev_loadA tu32 rfl (cs := [.i6 y1.Code, .i6 y1.Index]) ts32 rfl (box_ptr (cells := [.i6 y1.Code, .i6 y1.Index]) 0 rfl 0 rfl (lb rfl))) F S, trivial⟩ ?_
  refine dv_et ok1 5 rfl (ev_assign rfl) F rfl fun a F=>?_
  refine dv_op ok1 6 rfl [] ?_
  refine wl_storeC (wn rfl) rfl F S rfl rfl (vs := [.i6 y1.Code, .i6 y1.Index]) rfl ts32 (one_cons rfl (one_cons rfl one_nil)) (k := 2) rfl (lb rfl) (c' := #[.i6 y1.Code, .i6 y1.Index]) rfl rfl ?_; clear S; intro w S
  refine dv_nx trivial ?_
  refine dv_fin ok1 ?_
  refine then_n ?_
  refine wp_ret ?_
  refine then_r ?_
  obtain rfl := sinj hm
  refine post_r _ F rfl (ar_cons (resA rfl tu27 rfl (box_ptr (cells := [nilS]) 4 rfl 0 rfl (lb rfl) w S) ts27) (ar_cons (resA rfl tu27 rfl (box_ptr (cells := [nilS]) 3 rfl 0 rfl (lb rfl) w S) ts27) (ar_cons (resT rfl) (ar_cons (resA rfl tu32 rfl (box_ptr (cells := [.i6 y1.Code, .i6 y1.Index]) 2 rfl 0 rfl (lb rfl) w S) ts32) ar_nil)))) ?_
  replace S : St g1 [] fr w := St.tail [] _ S
  exact ⟨_, rfl, g1, (nilS), (nilS), l1, S, (RepSl.nil _), (RepSl.nil _), rfl⟩
 ·refine wp_condF F rfl hc1 ?_
  refine wp_skip ?_
  refine then_n ?_
  refine wp_seq ?_
  refine wp_region_lit ?_
  refine wE (ev_loadA tu27 rfl (cs := [vp_1]) ts27 rfl (box_ptr (cells := [vp_1]) 6 rfl 0 rfl (lb rfl))) F S rfl fun a F=>?_
  obtain ⟨y2, hy2, hm⟩ := bind_some hm
  refine wl_call0 (wn rfl) rfl F rfl (commute_newRanges_ok (fr := (fl [[bx b7 #[.i6 y1.Code, .i6 y1.Index] 32], [bx b6 #[nilS] 27], [bx b5 #[.i6 0, .i6 0] 32], [bx b4 #[nilS] 27], [bx b3 #[nilS] 27], [bx b2 #[vq_1] 27], [bx b1 #[vp_1] 27]] fr)) p_ vp_1 (hp_1.mono l1) S hy2) rfl tc79 rfl rfl ?_; clear F a S
  rintro _ a w ⟨g2, v1, c1, l2, S, h1, rfl⟩ F; replace S : St g2 [c1, [bx b7 #[.i6 y1.Code, .i6 y1.Index] 32], [bx b6 #[nilS] 27], [bx b5 #[.i6 0, .i6 0] 32], [bx b4 #[nilS] 27], [bx b3 #[nilS] 27], [bx b2 #[vq_1] 27], [bx b1 #[vp_1] 27]] fr w := S
  refine wE (ev_assign rfl) F S rfl fun a F=>?_
  refine wpList_nil ?_
  refine then_n ?_
  refine wp_seq ?_
  refine wp_seq ?_
  refine wp_region_lit ?_
  refine wE (ev_move rfl) F S rfl fun a F=>?_
  refine wE (ev_loadA tu27 rfl (cs := [vq_1]) ts27 rfl (box_ptr (cells := [vq_1]) 6 rfl 0 rfl (lb rfl))) F S rfl fun a F=>?_
  obtain ⟨y3, hy3, hm⟩ := bind_some hm
  refine wl_call0 (wn rfl) rfl F rfl (commute_OldRanges_ok (fr := (fl [c1, [bx b7 #[.i6 y1.Code, .i6 y1.Index] 32], [bx b6 #[nilS] 27], [bx b5 #[.i6 0, .i6 0] 32], [bx b4 #[nilS] 27], [bx b3 #[nilS] 27], [bx b2 #[vq_1] 27], [bx b1 #[vp_1] 27]] fr)) q_ vq_1 (hq_1.mono (l1.trans l2)) S hy3) rfl tc81 rfl rfl ?_; clear F a S
  rintro _ a w ⟨g3, v2, c2, l3, S, h2, rfl⟩ F; replace S : St g3 [c2, c1, [bx b7 #[.i6 y1.Code, .i6 y1.Index] 32], [bx b6 #[nilS] 27], [bx b5 #[.i6 0, .i6 0] 32], [bx b4 #[nilS] 27], [bx b3 #[nilS] 27], [bx b2 #[vq_1] 27], [bx b1 #[vp_1] 27]] fr w := S
  obtain ⟨g4, l4, S, h3⟩ : ∃ gz, Le g3 gz ∧ St gz [c2, [bx b7 #[.i6 y1.Code, .i6 y1.Index] 32], [bx b6 #[nilS] 27], [bx b5 #[.i6 0, .i6 0] 32], [bx b4 #[nilS] 27], [bx b3 #[nilS] 27], [bx b2 #[vq_1] 27], [bx b1 #[vp_1] 27]] fr w ∧ RepSl gz y2 v1 := ⟨_, Le.add _ _, S.freeze 1 rfl, OwnS.freeze (S.front 1 rfl) (h1.mono l3)⟩
  obtain ⟨g5, l5, S, h4⟩ : ∃ gz, Le g4 gz ∧ St gz [[bx b7 #[.i6 y1.Code, .i6 y1.Index] 32], [bx b6 #[nilS] 27], [bx b5 #[.i6 0, .i6 0] 32], [bx b4 #[nilS] 27], [bx b3 #[nilS] 27], [bx b2 #[vq_1] 27], [bx b1 #[vp_1] 27]] fr w ∧ RepSl gz y3 v2 := ⟨_, Le.add _ _, S.freeze 0 rfl, OwnS.freeze (S.front 0 rfl) (h2.mono l4)⟩
  obtain ⟨y4, hy4, hm⟩ := bind_some hm
  refine wl_call0 (wn rfl) rfl F rfl (commute_meet_ok (fr := (fl [[bx b7 #[.i6 y1.Code, .i6 y1.Index] 32], [bx b6 #[nilS] 27], [bx b5 #[.i6 0, .i6 0] 32], [bx b4 #[nilS] 27], [bx b3 #[nilS] 27], [bx b2 #[vq_1] 27], [bx b1 #[vp_1] 27]] fr)) y2 v1 (h3.mono l5) y3 v2 h4 S hy4) rfl tc80 rfl rfl ?_; clear F a S
  rintro _ a w ⟨g6, l6, S, rfl⟩ F; replace S : St g6 [[bx b7 #[.i6 y1.Code, .i6 y1.Index] 32], [bx b6 #[nilS] 27], [bx b5 #[.i6 0, .i6 0] 32], [bx b4 #[nilS] 27], [bx b3 #[nilS] 27], [bx b2 #[vq_1] 27], [bx b1 #[vp_1] 27]] fr w := S
  refine wpList_nil ?_
  refine then_n ?_
  obtain ⟨hc2, hm⟩ | ⟨hc2, hm⟩ := ite_or hm
  ·refine wp_condT F rfl hc2 ?_
   refine wp_seq ?_
   refine wp_dv [] mo S ?_; clear S; intro ok2 w S
   refine dv_ev ok2 0 rfl (ev_loadA tu27 rfl (cs := [nilS]) ts27 rfl (box_ptr (cells := [nilS]) 1 rfl 0 rfl (lb rfl))) F S rfl fun a F=>?_
   refine dv_ev ok2 1 rfl (ev_loadA tu27 rfl (cs := [nilS]) ts27 rfl (box_ptr (cells := [nilS]) 1 rfl 0 rfl (lb rfl))) F S rfl fun a F=>?_
   refine dv_et ok2 2 rfl (ev_build (parts := []) (vs := []) rfl (fun w => tb32_  w)) F rfl fun a F=>?_
   refine dv_op ok2 3 rfl [(1, .agg #[nilS])] ?_
   refine wl_storeC (wn rfl) rfl F S rfl rfl (vs := [nilS]) rfl ts27 (one_cons rfl one_nil) (k := 4) rfl (lb rfl) (c' := #[nilS]) rfl rfl ?_; clear S; intro w S
   refine dv_nx ⟨yl_ev rfl rfl (ev_loadA tu27 rfl (cs := [nilS]) ts27 rfl (box_ptr (cells := [nilS]) 1 rfl 0 rfl (lb rfl))) F S, trivial⟩ ?_
   refine dv_op ok2 4 rfl [] ?_
   refine wl_storeC (wn rfl) rfl F S rfl rfl (vs := [nilS]) rfl ts27 (one_cons rfl one_nil) (k := 3) rfl (lb rfl) (c' := #[nilS]) rfl rfl ?_; clear S; intro w S
   refine dv_nx trivial ?_
   refine dv_et ok2 5 rfl (ev_assign rfl) F rfl fun a F=>?_
   refine dv_op ok2 6 rfl [] ?_
   refine wl_storeC (wn rfl) rfl F S rfl rfl (vs := [.i6 0, .i6 0]) rfl ts32 (one_cons rfl (one_cons rfl one_nil)) (k := 2) rfl (lb rfl) (c' := #[.i6 0, .i6 0]) rfl rfl ?_; clear S; intro w S
   refine dv_nx trivial ?_
   refine dv_fin ok2 ?_
   refine then_n ?_
   refine wp_ret ?_
   refine then_r ?_
   obtain rfl := sinj hm
   refine post_r _ F rfl (ar_cons (resA rfl tu27 rfl (box_ptr (cells := [nilS]) 4 rfl 0 rfl (lb rfl) w S) ts27) (ar_cons (resA rfl tu27 rfl (box_ptr (cells := [nilS]) 3 rfl 0 rfl (lb rfl) w S) ts27) (ar_cons (resT rfl) (ar_cons (resA rfl tu32 rfl (box_ptr (cells := [.i6 0, .i6 0]) 2 rfl 0 rfl (lb rfl) w S) ts32) ar_nil)))) ?_
   replace S : St g6 [] fr w := St.tail [] _ S
   exact ⟨_, rfl, g6, (nilS), (nilS), (((((l1.trans l2).trans l3).trans l4).trans l5).trans l6), S, (RepSl.nil _), (RepSl.nil _), rfl⟩
  ·refine wp_condF F rfl hc2 ?_
   refine wp_skip ?_
   refine then_n ?_
   refine wp_seq ?_
   refine wp_region_lit ?_
   refine wE (ev_loadA tu27 rfl (cs := [vq_1]) ts27 rfl (box_ptr (cells := [vq_1]) 5 rfl 0 rfl (lb rfl))) F S rfl fun a F=>?_
   refine wE (ev_move rfl) F S rfl fun a F=>?_
   obtain ⟨y5, hy5, hm⟩ := bind_some hm
   refine wl_call0 (wn rfl) rfl F rfl (commute_shift_ok (fr := (fl [[bx b7 #[.i6 y1.Code, .i6 y1.Index] 32], [bx b6 #[nilS] 27], [bx b5 #[.i6 0, .i6 0] 32], [bx b4 #[nilS] 27], [bx b3 #[nilS] 27], [bx b2 #[vq_1] 27], [bx b1 #[vp_1] 27]] fr)) q_ vq_1 (hq_1.mono (((((l1.trans l2).trans l3).trans l4).trans l5).trans l6)) y2 v1 (h3.mono (l5.trans l6)) (-1) S hy5) rfl tc83 rfl rfl ?_; clear F a S
   rintro _ a w ⟨g7, v3, c3, l7, S, h5, rfl⟩ F; replace S : St g7 [c3, [bx b7 #[.i6 y1.Code, .i6 y1.Index] 32], [bx b6 #[nilS] 27], [bx b5 #[.i6 0, .i6 0] 32], [bx b4 #[nilS] 27], [bx b3 #[nilS] 27], [bx b2 #[vq_1] 27], [bx b1 #[vp_1] 27]] fr w := S
   obtain ⟨g8, l8, S, h6⟩ : ∃ gz, Le g7 gz ∧ St gz [[bx b7 #[.i6 y1.Code, .i6 y1.Index] 32], [bx b6 #[nilS] 27], [bx b5 #[.i6 0, .i6 0] 32], [bx b4 #[nilS] 27], [bx b3 #[nilS] 27], [bx b2 #[vq_1] 27], [bx b1 #[vp_1] 27]] fr w ∧ RepSl gz y5.Hunks v3 := ⟨_, Le.add _ _, S.freeze 0 rfl, OwnS.freeze (S.front 0 rfl) h5⟩
   obtain ⟨y6, hy6, hm⟩ := bind_some hm
   refine wl_call0 (wn rfl) rfl F rfl (textpatch_Made_ok (fr := (fl [[bx b7 #[.i6 y1.Code, .i6 y1.Index] 32], [bx b6 #[nilS] 27], [bx b5 #[.i6 0, .i6 0] 32], [bx b4 #[nilS] 27], [bx b3 #[nilS] 27], [bx b2 #[vq_1] 27], [bx b1 #[vp_1] 27]] fr)) y5 v3 h6 S hy6) rfl tc82 rfl rfl ?_; clear F a S
   rintro _ a w ⟨g9, v4, l9, S, h7, rfl⟩ F; replace S : St g9 [[bx b7 #[.i6 y1.Code, .i6 y1.Index] 32], [bx b6 #[nilS] 27], [bx b5 #[.i6 0, .i6 0] 32], [bx b4 #[nilS] 27], [bx b3 #[nilS] 27], [bx b2 #[vq_1] 27], [bx b1 #[vp_1] 27]] fr w := S
   refine wE (ev_move rfl) F S rfl fun a F=>?_
   refine wE (ev_extract rfl rfl) F S rfl fun a F=>?_
   refine wE (ev_extract rfl rfl) F S rfl fun a F=>?_
   refine wl_alloc (wn rfl) rfl tz27 (cs := [nilS]) rfl F S rfl rfl ?_; clear F a S; rintro b8 a w F S
   refine wl_alloc (wn rfl) rfl tz32 (cs := [.i6 0, .i6 0]) rfl F S rfl rfl ?_; clear F a S; rintro b9 a w F S
   refine wl_storeC (wn rfl) rfl F S rfl rfl (vs := [v4]) rfl ts27 (one_cons h7.one one_nil) (k := 1) rfl (lb rfl) (c' := #[v4]) rfl rfl ?_; clear S; intro w S
   refine wl_storeC (wn rfl) rfl F S rfl rfl (vs := [.i6 y6.2.Code, .i6 y6.2.Index]) rfl ts32 (one_cons rfl (one_cons rfl one_nil)) (k := 0) rfl (lb rfl) (c' := #[.i6 y6.2.Code, .i6 y6.2.Index]) rfl rfl ?_; clear S; intro w S
   refine wpList_nil ?_
   refine then_n ?_
   refine wp_seq ?_
   refine wp_seq ?_
   refine wp_region_lit ?_
   refine wE (ev_loadA tu32 rfl (cs := [.i6 y6.2.Code, .i6 y6.2.Index]) ts32 rfl (box_ptr (cells := [.i6 y6.2.Code, .i6 y6.2.Index]) 0 rfl 0 rfl (lb rfl))) F S rfl fun a F=>?_
   refine wE (ev_build (parts := []) (vs := []) rfl (fun w => tb32_  w)) F S rfl fun a F=>?_
   refine wE (ev_neS tu32 tqa32 tqb32 tqc32 (xs := [.i6 y6.2.Code, .i6 y6.2.Index]) (ys := [.i6 0, .i6 0]) rfl rfl ⟨_, _, rfl, by decide, ⟨_, _, rfl, rfl, leaf_int tu3⟩, ⟨_, _, rfl, by decide, ⟨_, _, rfl, rfl, leaf_int tu3⟩, rfl⟩⟩) F S rfl fun a F=>?_
   refine wpList_nil ?_
   refine then_n ?_
   obtain ⟨hc3, hm⟩ | ⟨hc3, hm⟩ := ite_or hm
   ·refine wp_condT F rfl hc3 ?_
    refine wp_seq ?_
    refine wp_dv [] mo S ?_; clear S; intro ok3 w S
    refine dv_ev ok3 0 rfl (ev_loadA tu27 rfl (cs := [nilS]) ts27 rfl (box_ptr (cells := [nilS]) 3 rfl 0 rfl (lb rfl))) F S rfl fun a F=>?_
    refine dv_ev ok3 1 rfl (ev_loadA tu27 rfl (cs := [nilS]) ts27 rfl (box_ptr (cells := [nilS]) 3 rfl 0 rfl (lb rfl))) F S rfl fun a F=>?_
    refine dv_ev ok3 2 rfl (ev_loadA tu32 rfl (cs := [.i6 y6.2.Code, .i6 y6.2.Index]) ts32 rfl (box_ptr (cells := [.i6 y6.2.Code, .i6 y6.2.Index]) 0 rfl 0 rfl (lb rfl))) F S rfl fun a F=>?_
    refine dv_op ok3 3 rfl [(2, .agg #[.i6 y6.2.Code, .i6 y6.2.Index]), (1, .agg #[nilS])] ?_
    refine wl_storeC (wn rfl) rfl F S rfl rfl (vs := [nilS]) rfl ts27 (one_cons rfl one_nil) (k := 6) rfl (lb rfl) (c' := #[nilS]) rfl rfl ?_; clear S; intro w S
    refine dv_nx ⟨yl_ev rfl rfl (ev_loadA tu32 rfl (cs := [.i6 y6.2.Code, .i6 y6.2.Index]) ts32 rfl (box_ptr (cells := [.i6 y6.2.Code, .i6 y6.2.Index]) 0 rfl 0 rfl (lb rfl))) F S, yl_ev rfl rfl (ev_loadA tu27 rfl (cs := [nilS]) ts27 rfl (box_ptr (cells := [nilS]) 3 rfl 0 rfl (lb rfl))) F S, trivial⟩ ?_
    refine dv_op ok3 4 rfl [(2, .agg #[.i6 y6.2.Code, .i6 y6.2.Index])] ?_
    refine wl_storeC (wn rfl) rfl F S rfl rfl (vs := [nilS]) rfl ts27 (one_cons rfl one_nil) (k := 5) rfl (lb rfl) (c' := #[nilS]) rfl rfl ?_; clear S; intro w S
    refine dv_nx ⟨yl_ev rfl rfl (ev_loadA tu32 rfl (cs := [.i6 y6.2.Code, .i6 y6.2.Index]) ts32 rfl (box_ptr (cells := [.i6 y6.2.Code, .i6 y6.2.Index]) 0 rfl 0 rfl (lb rfl))) F S, trivial⟩ ?_
    refine dv_et ok3 5 rfl (ev_assign rfl) F rfl fun a F=>?_
    refine dv_op ok3 6 rfl [] ?_
    refine wl_storeC (wn rfl) rfl F S rfl rfl (vs := [.i6 y6.2.Code, .i6 y6.2.Index]) rfl ts32 (one_cons rfl (one_cons rfl one_nil)) (k := 4) rfl (lb rfl) (c' := #[.i6 y6.2.Code, .i6 y6.2.Index]) rfl rfl ?_; clear S; intro w S
    refine dv_nx trivial ?_
    refine dv_fin ok3 ?_
    refine then_n ?_
    refine wp_ret ?_
    refine then_r ?_
    obtain rfl := sinj hm
    refine post_r _ F rfl (ar_cons (resA rfl tu27 rfl (box_ptr (cells := [nilS]) 6 rfl 0 rfl (lb rfl) w S) ts27) (ar_cons (resA rfl tu27 rfl (box_ptr (cells := [nilS]) 5 rfl 0 rfl (lb rfl) w S) ts27) (ar_cons (resT rfl) (ar_cons (resA rfl tu32 rfl (box_ptr (cells := [.i6 y6.2.Code, .i6 y6.2.Index]) 4 rfl 0 rfl (lb rfl) w S) ts32) ar_nil)))) ?_
    replace S : St g9 [] fr w := St.tail [] _ S
    exact ⟨_, rfl, g9, (nilS), (nilS), ((((((((l1.trans l2).trans l3).trans l4).trans l5).trans l6).trans l7).trans l8).trans l9), S, (RepSl.nil _), (RepSl.nil _), rfl⟩
   ·refine wp_condF F rfl hc3 ?_
    refine wp_skip ?_
    refine then_n ?_
    refine wp_seq ?_
    refine wp_dv [] mo S ?_; clear S; intro ok4 w S
    refine dv_ev ok4 0 rfl (ev_loadA tu27 rfl (cs := [vp_1]) ts27 rfl (box_ptr (cells := [vp_1]) 8 rfl 0 rfl (lb rfl))) F S rfl fun a F=>?_
    refine dv_ev ok4 1 rfl (ev_loadA tu27 rfl (cs := [v4]) ts27 rfl (box_ptr (cells := [v4]) 1 rfl 0 rfl (lb rfl))) F S rfl fun a F=>?_
    obtain ⟨y7, hy7, hm⟩ := bind_some hm
    obtain ⟨y8, hy8, hm⟩ := bind_some hm
    obtain ⟨y9, hy9, hm⟩ := bind_some hm
    refine dv_cut [0, 1, 2, 3, 4, 5, 6, 7, 8] [] (fun a w => ∃ (v8 : Value) (b11 : Nat) (g15 : Gh), Fr 62 a [(13, bp b11 0), (52, .agg #[.i6 y9.2.Code, .i6 y9.2.Index]), (51, .agg #[v8]), (12, bp b9 0), (11, bp b8 0), (8, bp b6 0), (7, bp b5 0), (5, bp b4 0), (4, bp b3 0)] ∧ Le g9 g15 ∧ St g15 [[bx b11 #[nilS] 27], [bx b9 #[.i6 y6.2.Code, .i6 y6.2.Index] 32], [bx b8 #[v4] 27], [bx b6 #[nilS] 27], [bx b5 #[.i6 0, .i6 0] 32], [bx b4 #[nilS] 27], [bx b3 #[nilS] 27]] fr w ∧ RepSl g15 y9.1.Hunks v8 ∧ commute_Commute.j1 y6 y9 = some r) ?_ ?_
    ·intro HJ
     refine dv_fork ok4 2 [8] (fk 2 rfl [(0, .agg #[vp_1])] ?_ (fk 8 rfl [(1, .agg #[v4]), (0, .agg #[vp_1])] ?_ trivial))
     ·refine wl_call0 (wn rfl) rfl F rfl (commute_OldRanges_ok (fr := (fl [[bx b9 #[.i6 y6.2.Code, .i6 y6.2.Index] 32], [bx b8 #[v4] 27], [bx b7 #[.i6 y1.Code, .i6 y1.Index] 32], [bx b6 #[nilS] 27], [bx b5 #[.i6 0, .i6 0] 32], [bx b4 #[nilS] 27], [bx b3 #[nilS] 27], [bx b2 #[vq_1] 27], [bx b1 #[vp_1] 27]] fr)) y6.1 v4 h7 S hy7) rfl tc81 rfl rfl ?_; clear F a S
      rintro _ a w ⟨g10, v5, c4, l10, S, h8, rfl⟩ F; replace S : St g10 [c4, [bx b9 #[.i6 y6.2.Code, .i6 y6.2.Index] 32], [bx b8 #[v4] 27], [bx b7 #[.i6 y1.Code, .i6 y1.Index] 32], [bx b6 #[nilS] 27], [bx b5 #[.i6 0, .i6 0] 32], [bx b4 #[nilS] 27], [bx b3 #[nilS] 27], [bx b2 #[vq_1] 27], [bx b1 #[vp_1] 27]] fr w := S
      refine dv_nx ⟨yl_ev rfl rfl (ev_loadA tu27 rfl (cs := [vp_1]) ts27 rfl (box_ptr (cells := [vp_1]) 9 rfl 0 rfl (lb rfl))) F S, trivial⟩ ?_
      refine dv_fork ok4 3 [8] (fk 3 rfl [] ?_ (fk 8 rfl [(0, .agg #[vp_1])] ?_ trivial))
      ·obtain ⟨g11, l11, S, h9⟩ : ∃ gz, Le g10 gz ∧ St gz [[bx b9 #[.i6 y6.2.Code, .i6 y6.2.Index] 32], [bx b8 #[v4] 27], [bx b7 #[.i6 y1.Code, .i6 y1.Index] 32], [bx b6 #[nilS] 27], [bx b5 #[.i6 0, .i6 0] 32], [bx b4 #[nilS] 27], [bx b3 #[nilS] 27], [bx b2 #[vq_1] 27], [bx b1 #[vp_1] 27]] fr w ∧ RepSl gz y7 v5 := ⟨_, Le.add _ _, S.freeze 0 rfl, OwnS.freeze (S.front 0 rfl) h8⟩
       refine wl_call0 (wn rfl) rfl F rfl (commute_shift_ok (fr := (fl [[bx b9 #[.i6 y6.2.Code, .i6 y6.2.Index] 32], [bx b8 #[v4] 27], [bx b7 #[.i6 y1.Code, .i6 y1.Index] 32], [bx b6 #[nilS] 27], [bx b5 #[.i6 0, .i6 0] 32], [bx b4 #[nilS] 27], [bx b3 #[nilS] 27], [bx b2 #[vq_1] 27], [bx b1 #[vp_1] 27]] fr)) p_ vp_1 (hp_1.mono ((((((((((l1.trans l2).trans l3).trans l4).trans l5).trans l6).trans l7).trans l8).trans l9).trans l10).trans l11)) y7 v5 h9 1 S hy8) rfl tc83 rfl rfl ?_; clear F a S
       rintro _ a w ⟨g12, v6, c5, l12, S, h10, rfl⟩ F; replace S : St g12 [c5, [bx b9 #[.i6 y6.2.Code, .i6 y6.2.Index] 32], [bx b8 #[v4] 27], [bx b7 #[.i6 y1.Code, .i6 y1.Index] 32], [bx b6 #[nilS] 27], [bx b5 #[.i6 0, .i6 0] 32], [bx b4 #[nilS] 27], [bx b3 #[nilS] 27], [bx b2 #[vq_1] 27], [bx b1 #[vp_1] 27]] fr w := S
       refine dv_nx trivial ?_
       refine dv_fork ok4 4 [8] (fk 4 rfl [] ?_ (fk 8 rfl [] ?_ trivial))
       ·obtain ⟨g13, l13, S, h11⟩ : ∃ gz, Le g12 gz ∧ St gz [[bx b9 #[.i6 y6.2.Code, .i6 y6.2.Index] 32], [bx b8 #[v4] 27], [bx b7 #[.i6 y1.Code, .i6 y1.Index] 32], [bx b6 #[nilS] 27], [bx b5 #[.i6 0, .i6 0] 32], [bx b4 #[nilS] 27], [bx b3 #[nilS] 27], [bx b2 #[vq_1] 27], [bx b1 #[vp_1] 27]] fr w ∧ RepSl gz y8.Hunks v6 := ⟨_, Le.add _ _, S.freeze 0 rfl, OwnS.freeze (S.front 0 rfl) h10⟩
        refine wl_call0 (wn rfl) rfl F rfl (textpatch_Made_ok (fr := (fl [[bx b9 #[.i6 y6.2.Code, .i6 y6.2.Index] 32], [bx b8 #[v4] 27], [bx b7 #[.i6 y1.Code, .i6 y1.Index] 32], [bx b6 #[nilS] 27], [bx b5 #[.i6 0, .i6 0] 32], [bx b4 #[nilS] 27], [bx b3 #[nilS] 27], [bx b2 #[vq_1] 27], [bx b1 #[vp_1] 27]] fr)) y8 v6 h11 S hy9) rfl tc82 rfl rfl ?_; clear F a S
        rintro _ a w ⟨g14, v7, l14, S, h12, rfl⟩ F; replace S : St g14 [[bx b9 #[.i6 y6.2.Code, .i6 y6.2.Index] 32], [bx b8 #[v4] 27], [bx b7 #[.i6 y1.Code, .i6 y1.Index] 32], [bx b6 #[nilS] 27], [bx b5 #[.i6 0, .i6 0] 32], [bx b4 #[nilS] 27], [bx b3 #[nilS] 27], [bx b2 #[vq_1] 27], [bx b1 #[vp_1] 27]] fr w := S
        refine dv_nx trivial ?_
        refine dv_et ok4 5 rfl (ev_move rfl) F rfl fun a F=>?_
        refine dv_et ok4 6 rfl (ev_extract rfl rfl) F rfl fun a F=>?_
        refine dv_et ok4 7 rfl (ev_extract rfl rfl) F rfl fun a F=>?_
        refine dv_op ok4 8 rfl [] ?_
        refine wl_alloc (wn rfl) rfl tz27 (cs := [nilS]) rfl F S rfl rfl ?_; clear F a S; rintro b10 a w F S
        refine dv_nx trivial ?_
        refine dv_join (HJ _ _ ?_)
        replace S : St g14 [[bx b10 #[nilS] 27], [bx b9 #[.i6 y6.2.Code, .i6 y6.2.Index] 32], [bx b8 #[v4] 27], [bx b6 #[nilS] 27], [bx b5 #[.i6 0, .i6 0] 32], [bx b4 #[nilS] 27], [bx b3 #[nilS] 27]] fr w := St.tail [[bx b10 #[nilS] 27], [bx b9 #[.i6 y6.2.Code, .i6 y6.2.Index] 32], [bx b8 #[v4] 27], [bx b6 #[nilS] 27], [bx b5 #[.i6 0, .i6 0] 32], [bx b4 #[nilS] 27], [bx b3 #[nilS] 27]] _ (((((((S.frontC 7 rfl).frontC 7 rfl).frontC 7 rfl).frontC 7 rfl).frontC 6 rfl).frontC 6 rfl).frontC 6 rfl)
        exact ⟨v7, b10, g14, F.sub ⟨rfl, rfl, rfl, rfl, rfl, rfl, rfl, rfl, rfl, trivial⟩, ((((l10.trans l11).trans l12).trans l13).trans l14), S, h12, hm⟩
       ·refine wl_alloc (wn rfl) rfl tz27 (cs := [nilS]) rfl F S rfl rfl ?_; clear F a S; rintro b10 a w F S
        refine dv_nx trivial ?_
        refine dv_op ok4 4 rfl [] ?_
        obtain ⟨g13, l13, S, h11⟩ : ∃ gz, Le g12 gz ∧ St gz [[bx b10 #[nilS] 27], [bx b9 #[.i6 y6.2.Code, .i6 y6.2.Index] 32], [bx b8 #[v4] 27], [bx b7 #[.i6 y1.Code, .i6 y1.Index] 32], [bx b6 #[nilS] 27], [bx b5 #[.i6 0, .i6 0] 32], [bx b4 #[nilS] 27], [bx b3 #[nilS] 27], [bx b2 #[vq_1] 27], [bx b1 #[vp_1] 27]] fr w ∧ RepSl gz y8.Hunks v6 := ⟨_, Le.add _ _, S.freeze 1 rfl, OwnS.freeze (S.front 1 rfl) h10⟩
        refine wl_call0 (wn rfl) rfl F rfl (textpatch_Made_ok (fr := (fl [[bx b10 #[nilS] 27], [bx b9 #[.i6 y6.2.Code, .i6 y6.2.Index] 32], [bx b8 #[v4] 27], [bx b7 #[.i6 y1.Code, .i6 y1.Index] 32], [bx b6 #[nilS] 27], [bx b5 #[.i6 0, .i6 0] 32], [bx b4 #[nilS] 27], [bx b3 #[nilS] 27], [bx b2 #[vq_1] 27], [bx b1 #[vp_1] 27]] fr)) y8 v6 h11 S hy9) rfl tc82 rfl rfl ?_; clear F a S
        rintro _ a w ⟨g14, v7, l14, S, h12, rfl⟩ F; replace S : St g14 [[bx b10 #[nilS] 27], [bx b9 #[.i6 y6.2.Code, .i6 y6.2.Index] 32], [bx b8 #[v4] 27], [bx b7 #[.i6 y1.Code, .i6 y1.Index] 32], [bx b6 #[nilS] 27], [bx b5 #[.i6 0, .i6 0] 32], [bx b4 #[nilS] 27], [bx b3 #[nilS] 27], [bx b2 #[vq_1] 27], [bx b1 #[vp_1] 27]] fr w := S
        refine dv_nx trivial ?_
        refine dv_et ok4 5 rfl (ev_move rfl) F rfl fun a F=>?_
        refine dv_et ok4 6 rfl (ev_extract rfl rfl) F rfl fun a F=>?_
        refine dv_et ok4 7 rfl (ev_extract rfl rfl) F rfl fun a F=>?_
        refine dv_join (HJ _ _ ?_)
        replace S : St g14 [[bx b10 #[nilS] 27], [bx b9 #[.i6 y6.2.Code, .i6 y6.2.Index] 32], [bx b8 #[v4] 27], [bx b6 #[nilS] 27], [bx b5 #[.i6 0, .i6 0] 32], [bx b4 #[nilS] 27], [bx b3 #[nilS] 27]] fr w := St.tail [[bx b10 #[nilS] 27], [bx b9 #[.i6 y6.2.Code, .i6 y6.2.Index] 32], [bx b8 #[v4] 27], [bx b6 #[nilS] 27], [bx b5 #[.i6 0, .i6 0] 32], [bx b4 #[nilS] 27], [bx b3 #[nilS] 27]] _ (((((((S.frontC 7 rfl).frontC 7 rfl).frontC 7 rfl).frontC 7 rfl).frontC 6 rfl).frontC 6 rfl).frontC 6 rfl)
        exact ⟨v7, b10, g14, F.sub ⟨rfl, rfl, rfl, rfl, rfl, rfl, rfl, rfl, rfl, trivial⟩, ((((l10.trans l11).trans l12).trans l13).trans l14), S, h12, hm⟩
      ·refine wl_alloc (wn rfl) rfl tz27 (cs := [nilS]) rfl F S rfl rfl ?_; clear F a S; rintro b10 a w F S
       refine dv_nx ⟨yl_ev rfl rfl (ev_loadA tu27 rfl (cs := [vp_1]) ts27 rfl (box_ptr (cells := [vp_1]) 10 rfl 0 rfl (lb rfl))) F S, trivial⟩ ?_
       refine dv_op ok4 3 rfl [] ?_
       obtain ⟨g11, l11, S, h9⟩ : ∃ gz, Le g10 gz ∧ St gz [[bx b10 #[nilS] 27], [bx b9 #[.i6 y6.2.Code, .i6 y6.2.Index] 32], [bx b8 #[v4] 27], [bx b7 #[.i6 y1.Code, .i6 y1.Index] 32], [bx b6 #[nilS] 27], [bx b5 #[.i6 0, .i6 0] 32], [bx b4 #[nilS] 27], [bx b3 #[nilS] 27], [bx b2 #[vq_1] 27], [bx b1 #[vp_1] 27]] fr w ∧ RepSl gz y7 v5 := ⟨_, Le.add _ _, S.freeze 1 rfl, OwnS.freeze (S.front 1 rfl) h8⟩
       refine wl_call0 (wn rfl) rfl F rfl (commute_shift_ok (fr := (fl [[bx b10 #[nilS] 27], [bx b9 #[.i6 y6.2.Code, .i6 y6.2.Index] 32], [bx b8 #[v4] 27], [bx b7 #[.i6 y1.Code, .i6 y1.Index] 32], [bx b6 #[nilS] 27], [bx b5 #[.i6 0, .i6 0] 32], [bx b4 #[nilS] 27], [bx b3 #[nilS] 27], [bx b2 #[vq_1] 27], [bx b1 #[vp_1] 27]] fr)) p_ vp_1 (hp_1.mono ((((((((((l1.trans l2).trans l3).trans l4).trans l5).trans l6).trans l7).trans l8).trans l9).trans l10).trans l11)) y7 v5 h9 1 S hy8) rfl tc83 rfl rfl ?_; clear F a S
       rintro _ a w ⟨g12, v6, c5, l12, S, h10, rfl⟩ F; replace S : St g12 [c5, [bx b10 #[nilS] 27], [bx b9 #[.i6 y6.2.Code, .i6 y6.2.Index] 32], [bx b8 #[v4] 27], [bx b7 #[.i6 y1.Code, .i6 y1.Index] 32], [bx b6 #[nilS] 27], [bx b5 #[.i6 0, .i6 0] 32], [bx b4 #[nilS] 27], [bx b3 #[nilS] 27], [bx b2 #[vq_1] 27], [bx b1 #[vp_1] 27]] fr w := S
       refine dv_nx trivial ?_
       refine dv_op ok4 4 rfl [] ?_
       obtain ⟨g13, l13, S, h11⟩ : ∃ gz, Le g12 gz ∧ St gz [[bx b10 #[nilS] 27], [bx b9 #[.i6 y6.2.Code, .i6 y6.2.Index] 32], [bx b8 #[v4] 27], [bx b7 #[.i6 y1.Code, .i6 y1.Index] 32], [bx b6 #[nilS] 27], [bx b5 #[.i6 0, .i6 0] 32], [bx b4 #[nilS] 27], [bx b3 #[nilS] 27], [bx b2 #[vq_1] 27], [bx b1 #[vp_1] 27]] fr w ∧ RepSl gz y8.Hunks v6 := ⟨_, Le.add _ _, S.freeze 0 rfl, OwnS.freeze (S.front 0 rfl) h10⟩
       refine wl_call0 (wn rfl) rfl F rfl (textpatch_Made_ok (fr := (fl [[bx b10 #[nilS] 27], [bx b9 #[.i6 y6.2.Code, .i6 y6.2.Index] 32], [bx b8 #[v4] 27], [bx b7 #[.i6 y1.Code, .i6 y1.Index] 32], [bx b6 #[nilS] 27], [bx b5 #[.i6 0, .i6 0] 32], [bx b4 #[nilS] 27], [bx b3 #[nilS] 27], [bx b2 #[vq_1] 27], [bx b1 #[vp_1] 27]] fr)) y8 v6 h11 S hy9) rfl tc82 rfl rfl ?_; clear F a S
       rintro _ a w ⟨g14, v7, l14, S, h12, rfl⟩ F; replace S : St g14 [[bx b10 #[nilS] 27], [bx b9 #[.i6 y6.2.Code, .i6 y6.2.Index] 32], [bx b8 #[v4] 27], [bx b7 #[.i6 y1.Code, .i6 y1.Index] 32], [bx b6 #[nilS] 27], [bx b5 #[.i6 0, .i6 0] 32], [bx b4 #[nilS] 27], [bx b3 #[nilS] 27], [bx b2 #[vq_1] 27], [bx b1 #[vp_1] 27]] fr w := S
       refine dv_nx trivial ?_
       refine dv_et ok4 5 rfl (ev_move rfl) F rfl fun a F=>?_
       refine dv_et ok4 6 rfl (ev_extract rfl rfl) F rfl fun a F=>?_
       refine dv_et ok4 7 rfl (ev_extract rfl rfl) F rfl fun a F=>?_
       refine dv_join (HJ _ _ ?_)
       replace S : St g14 [[bx b10 #[nilS] 27], [bx b9 #[.i6 y6.2.Code, .i6 y6.2.Index] 32], [bx b8 #[v4] 27], [bx b6 #[nilS] 27], [bx b5 #[.i6 0, .i6 0] 32], [bx b4 #[nilS] 27], [bx b3 #[nilS] 27]] fr w := St.tail [[bx b10 #[nilS] 27], [bx b9 #[.i6 y6.2.Code, .i6 y6.2.Index] 32], [bx b8 #[v4] 27], [bx b6 #[nilS] 27], [bx b5 #[.i6 0, .i6 0] 32], [bx b4 #[nilS] 27], [bx b3 #[nilS] 27]] _ (((((((S.frontC 7 rfl).frontC 7 rfl).frontC 7 rfl).frontC 7 rfl).frontC 6 rfl).frontC 6 rfl).frontC 6 rfl)
       exact ⟨v7, b10, g14, F.sub ⟨rfl, rfl, rfl, rfl, rfl, rfl, rfl, rfl, rfl, trivial⟩, ((((l10.trans l11).trans l12).trans l13).trans l14), S, h12, hm⟩
     ·refine wl_alloc (wn rfl) rfl tz27 (cs := [nilS]) rfl F S rfl rfl ?_; clear F a S; rintro b10 a w F S
      refine dv_nx ⟨yl_ev rfl rfl (ev_loadA tu27 rfl (cs := [v4]) ts27 rfl (box_ptr (cells := [v4]) 2 rfl 0 rfl (lb rfl))) F S, yl_ev rfl rfl (ev_loadA tu27 rfl (cs := [vp_1]) ts27 rfl (box_ptr (cells := [vp_1]) 9 rfl 0 rfl (lb rfl))) F S, trivial⟩ ?_
      refine dv_op ok4 2 rfl [(0, .agg #[vp_1])] ?_
      refine wl_call0 (wn rfl) rfl F rfl (commute_OldRanges_ok (fr := (fl [[bx b10 #[nilS] 27], [bx b9 #[.i6 y6.2.Code, .i6 y6.2.Index] 32], [bx b8 #[v4] 27], [bx b7 #[.i6 y1.Code, .i6 y1.Index] 32], [bx b6 #[nilS] 27], [bx b5 #[.i6 0, .i6 0] 32], [bx b4 #[nilS] 27], [bx b3 #[nilS] 27], [bx b2 #[vq_1] 27], [bx b1 #[vp_1] 27]] fr)) y6.1 v4 h7 S hy7) rfl tc81 rfl rfl ?_; clear F a S
      rintro _ a w ⟨g10, v5, c4, l10, S, h8, rfl⟩ F; replace S : St g10 [c4, [bx b10 #[nilS] 27], [bx b9 #[.i6 y6.2.Code, .i6 y6.2.Index] 32], [bx b8 #[v4] 27], [bx b7 #[.i6 y1.Code, .i6 y1.Index] 32], [bx b6 #[nilS] 27], [bx b5 #[.i6 0, .i6 0] 32], [bx b4 #[nilS] 27], [bx b3 #[nilS] 27], [bx b2 #[vq_1] 27], [bx b1 #[vp_1] 27]] fr w := S
      refine dv_nx ⟨yl_ev rfl rfl (ev_loadA tu27 rfl (cs := [vp_1]) ts27 rfl (box_ptr (cells := [vp_1]) 10 rfl 0 rfl (lb rfl))) F S, trivial⟩ ?_
      refine dv_op ok4 3 rfl [] ?_
      obtain ⟨g11, l11, S, h9⟩ : ∃ gz, Le g10 gz ∧ St gz [[bx b10 #[nilS] 27], [bx b9 #[.i6 y6.2.Code, .i6 y6.2.Index] 32], [bx b8 #[v4] 27], [bx b7 #[.i6 y1.Code, .i6 y1.Index] 32], [bx b6 #[nilS] 27], [bx b5 #[.i6 0, .i6 0] 32], [bx b4 #[nilS] 27], [bx b3 #[nilS] 27], [bx b2 #[vq_1] 27], [bx b1 #[vp_1] 27]] fr w ∧ RepSl gz y7 v5 := ⟨_, Le.add _ _, S.freeze 0 rfl, OwnS.freeze (S.front 0 rfl) h8⟩
      refine wl_call0 (wn rfl) rfl F rfl (commute_shift_ok (fr := (fl [[bx b10 #[nilS] 27], [bx b9 #[.i6 y6.2.Code, .i6 y6.2.Index] 32], [bx b8 #[v4] 27], [bx b7 #[.i6 y1.Code, .i6 y1.Index] 32], [bx b6 #[nilS] 27], [bx b5 #[.i6 0, .i6 0] 32], [bx b4 #[nilS] 27], [bx b3 #[nilS] 27], [bx b2 #[vq_1] 27], [bx b1 #[vp_1] 27]] fr)) p_ vp_1 (hp_1.mono ((((((((((l1.trans l2).trans l3).trans l4).trans l5).trans l6).trans l7).trans l8).trans l9).trans l10).trans l11)) y7 v5 h9 1 S hy8) rfl tc83 rfl rfl ?_; clear F a S
      rintro _ a w ⟨g12, v6, c5, l12, S, h10, rfl⟩ F; replace S : St g12 [c5, [bx b10 #[nilS] 27], [bx b9 #[.i6 y6.2.Code, .i6 y6.2.Index] 32], [bx b8 #[v4] 27], [bx b7 #[.i6 y1.Code, .i6 y1.Index] 32], [bx b6 #[nilS] 27], [bx b5 #[.i6 0, .i6 0] 32], [bx b4 #[nilS] 27], [bx b3 #[nilS] 27], [bx b2 #[vq_1] 27], [bx b1 #[vp_1] 27]] fr w := S
      refine dv_nx trivial ?_
      refine dv_op ok4 4 rfl [] ?_
      obtain ⟨g13, l13, S, h11⟩ : ∃ gz, Le g12 gz ∧ St gz [[bx b10 #[nilS] 27], [bx b9 #[.i6 y6.2.Code, .i6 y6.2.Index] 32], [bx b8 #[v4] 27], [bx b7 #[.i6 y1.Code, .i6 y1.Index] 32], [bx b6 #[nilS] 27], [bx b5 #[.i6 0, .i6 0] 32], [bx b4 #[nilS] 27], [bx b3 #[nilS] 27], [bx b2 #[vq_1] 27], [bx b1 #[vp_1] 27]] fr w ∧ RepSl gz y8.Hunks v6 := ⟨_, Le.add _ _, S.freeze 0 rfl, OwnS.freeze (S.front 0 rfl) h10⟩
      refine wl_call0 (wn rfl) rfl F rfl (textpatch_Made_ok (fr := (fl [[bx b10 #[nilS] 27], [bx b9 #[.i6 y6.2.Code, .i6 y6.2.Index] 32], [bx b8 #[v4] 27], [bx b7 #[.i6 y1.Code, .i6 y1.Index] 32], [bx b6 #[nilS] 27], [bx b5 #[.i6 0, .i6 0] 32], [bx b4 #[nilS] 27], [bx b3 #[nilS] 27], [bx b2 #[vq_1] 27], [bx b1 #[vp_1] 27]] fr)) y8 v6 h11 S hy9) rfl tc82 rfl rfl ?_; clear F a S
      rintro _ a w ⟨g14, v7, l14, S, h12, rfl⟩ F; replace S : St g14 [[bx b10 #[nilS] 27], [bx b9 #[.i6 y6.2.Code, .i6 y6.2.Index] 32], [bx b8 #[v4] 27], [bx b7 #[.i6 y1.Code, .i6 y1.Index] 32], [bx b6 #[nilS] 27], [bx b5 #[.i6 0, .i6 0] 32], [bx b4 #[nilS] 27], [bx b3 #[nilS] 27], [bx b2 #[vq_1] 27], [bx b1 #[vp_1] 27]] fr w := S
      refine dv_nx trivial ?_
      refine dv_et ok4 5 rfl (ev_move rfl) F rfl fun a F=>?_
      refine dv_et ok4 6 rfl (ev_extract rfl rfl) F rfl fun a F=>?_
      refine dv_et ok4 7 rfl (ev_extract rfl rfl) F rfl fun a F=>?_
      refine dv_join (HJ _ _ ?_)
      replace S : St g14 [[bx b10 #[nilS] 27], [bx b9 #[.i6 y6.2.Code, .i6 y6.2.Index] 32], [bx b8 #[v4] 27], [bx b6 #[nilS] 27], [bx b5 #[.i6 0, .i6 0] 32], [bx b4 #[nilS] 27], [bx b3 #[nilS] 27]] fr w := St.tail [[bx b10 #[nilS] 27], [bx b9 #[.i6 y6.2.Code, .i6 y6.2.Index] 32], [bx b8 #[v4] 27], [bx b6 #[nilS] 27], [bx b5 #[.i6 0, .i6 0] 32], [bx b4 #[nilS] 27], [bx b3 #[nilS] 27]] _ (((((((S.frontC 7 rfl).frontC 7 rfl).frontC 7 rfl).frontC 7 rfl).frontC 6 rfl).frontC 6 rfl).frontC 6 rfl)
      exact ⟨v7, b10, g14, F.sub ⟨rfl, rfl, rfl, rfl, rfl, rfl, rfl, rfl, rfl, trivial⟩, ((((l10.trans l11).trans l12).trans l13).trans l14), S, h12, hm⟩
    ·clear F S hm; rintro a w ⟨v8, b11, g15, F, l15, S, h13, hm⟩
     refine dv_op ok4 9 rfl [] ?_
     refine wl_storeC (wn rfl) rfl F S rfl rfl (vs := [v8]) rfl ts27 (one_cons h13.one one_nil) (k := 0) rfl (lb rfl) (c' := #[v8]) rfl rfl ?_; clear S; intro w S
     refine dv_nx trivial ?_
     refine dv_op ok4 10 rfl [] ?_
     refine wl_storeC (wn rfl) rfl F S rfl rfl (vs := [.i6 y9.2.Code, .i6 y9.2.Index]) rfl ts32 (one_cons rfl (one_cons rfl one_nil)) (k := 1) rfl (lb rfl) (c' := #[.i6 y9.2.Code, .i6 y9.2.Index]) rfl rfl ?_; clear S; intro w S
     refine dv_nx trivial ?_
     refine dv_fin ok4 ?_
     refine then_n ?_
     refine wp_seq ?_
     refine wp_seq ?_
     refine wp_region_lit ?_
     refine wE (ev_loadA tu32 rfl (cs := [.i6 y9.2.Code, .i6 y9.2.Index]) ts32 rfl (box_ptr (cells := [.i6 y9.2.Code, .i6 y9.2.Index]) 1 rfl 0 rfl (lb rfl))) F S rfl fun a F=>?_
     refine wE (ev_build (parts := []) (vs := []) rfl (fun w => tb32_  w)) F S rfl fun a F=>?_
     refine wE (ev_neS tu32 tqa32 tqb32 tqc32 (xs := [.i6 y9.2.Code, .i6 y9.2.Index]) (ys := [.i6 0, .i6 0]) rfl rfl ⟨_, _, rfl, by decide, ⟨_, _, rfl, rfl, leaf_int tu3⟩, ⟨_, _, rfl, by decide, ⟨_, _, rfl, rfl, leaf_int tu3⟩, rfl⟩⟩) F S rfl fun a F=>?_
     refine wpList_nil ?_
     refine then_n ?_
     obtain ⟨hc4, hm⟩ | ⟨hc4, hm⟩ := ite_or hm
     ·refine wp_condT F rfl hc4 ?_
      refine wp_seq ?_
      refine wp_dv [] mo S ?_; clear S; intro ok5 w S
      refine dv_ev ok5 0 rfl (ev_loadA tu27 rfl (cs := [nilS]) ts27 rfl (box_ptr (cells := [nilS]) 3 rfl 0 rfl (lb rfl))) F S rfl fun a F=>?_
      refine dv_ev ok5 1 rfl (ev_loadA tu27 rfl (cs := [nilS]) ts27 rfl (box_ptr (cells := [nilS]) 3 rfl 0 rfl (lb rfl))) F S rfl fun a F=>?_
      refine dv_ev ok5 2 rfl (ev_loadA tu32 rfl (cs := [.i6 y9.2.Code, .i6 y9.2.Index]) ts32 rfl (box_ptr (cells := [.i6 y9.2.Code, .i6 y9.2.Index]) 1 rfl 0 rfl (lb rfl))) F S rfl fun a F=>?_
      refine dv_op ok5 3 rfl [(2, .agg #[.i6 y9.2.Code, .i6 y9.2.Index]), (1, .agg #[nilS])] ?_
      refine wl_storeC (wn rfl) rfl F S rfl rfl (vs := [nilS]) rfl ts27 (one_cons rfl one_nil) (k := 6) rfl (lb rfl) (c' := #[nilS]) rfl rfl ?_; clear S; intro w S
      refine dv_nx ⟨yl_ev rfl rfl (ev_loadA tu32 rfl (cs := [.i6 y9.2.Code, .i6 y9.2.Index]) ts32 rfl (box_ptr (cells := [.i6 y9.2.Code, .i6 y9.2.Index]) 1 rfl 0 rfl (lb rfl))) F S, yl_ev rfl rfl (ev_loadA tu27 rfl (cs := [nilS]) ts27 rfl (box_ptr (cells := [nilS]) 3 rfl 0 rfl (lb rfl))) F S, trivial⟩ ?_
      refine dv_op ok5 4 rfl [(2, .agg #[.i6 y9.2.Code, .i6 y9.2.Index])] ?_
      refine wl_storeC (wn rfl) rfl F S rfl rfl (vs := [nilS]) rfl ts27 (one_cons rfl one_nil) (k := 5) rfl (lb rfl) (c' := #[nilS]) rfl rfl ?_; clear S; intro w S
      refine dv_nx ⟨yl_ev rfl rfl (ev_loadA tu32 rfl (cs := [.i6 y9.2.Code, .i6 y9.2.Index]) ts32 rfl (box_ptr (cells := [.i6 y9.2.Code, .i6 y9.2.Index]) 1 rfl 0 rfl (lb rfl))) F S, trivial⟩ ?_
      refine dv_et ok5 5 rfl (ev_assign rfl) F rfl fun a F=>?_
      refine dv_op ok5 6 rfl [] ?_
      refine wl_storeC (wn rfl) rfl F S rfl rfl (vs := [.i6 y9.2.Code, .i6 y9.2.Index]) rfl ts32 (one_cons rfl (one_cons rfl one_nil)) (k := 4) rfl (lb rfl) (c' := #[.i6 y9.2.Code, .i6 y9.2.Index]) rfl rfl ?_; clear S; intro w S
      refine dv_nx trivial ?_
      refine dv_fin ok5 ?_
      refine then_n ?_
      refine wp_ret ?_
      refine then_r ?_
      obtain rfl := sinj hm
      refine post_r _ F rfl (ar_cons (resA rfl tu27 rfl (box_ptr (cells := [nilS]) 6 rfl 0 rfl (lb rfl) w S) ts27) (ar_cons (resA rfl tu27 rfl (box_ptr (cells := [nilS]) 5 rfl 0 rfl (lb rfl) w S) ts27) (ar_cons (resT rfl) (ar_cons (resA rfl tu32 rfl (box_ptr (cells := [.i6 y9.2.Code, .i6 y9.2.Index]) 4 rfl 0 rfl (lb rfl) w S) ts32) ar_nil)))) ?_
      replace S : St g15 [] fr w := St.tail [] _ S
      exact ⟨_, rfl, g15, (nilS), (nilS), (((((((((l1.trans l2).trans l3).trans l4).trans l5).trans l6).trans l7).trans l8).trans l9).trans l15), S, (RepSl.nil _), (RepSl.nil _), rfl⟩
     ·refine wp_condF F rfl hc4 ?_
      refine wp_skip ?_
      refine then_n ?_
      refine wp_seq ?_
      refine wp_dv [] mo S ?_; clear S; intro ok6 w S
      refine dv_ev ok6 0 rfl (ev_loadA tu27 rfl (cs := [v4]) ts27 rfl (box_ptr (cells := [v4]) 2 rfl 0 rfl (lb rfl))) F S rfl fun a F=>?_
      refine dv_ev ok6 1 rfl (ev_loadA tu27 rfl (cs := [v8]) ts27 rfl (box_ptr (cells := [v8]) 0 rfl 0 rfl (lb rfl))) F S rfl fun a F=>?_
      refine dv_et ok6 2 rfl (ev_build (parts := []) (vs := []) rfl (fun w => tb32_  w)) F rfl fun a F=>?_
      refine dv_op ok6 3 rfl [(1, .agg #[v8])] ?_
      refine wl_storeC (wn rfl) rfl F S rfl rfl (vs := [v4]) rfl ts27 (one_cons h7.one one_nil) (k := 6) rfl (lb rfl) (c' := #[v4]) rfl rfl ?_; clear S; intro w S
      refine dv_nx ⟨yl_ev rfl rfl (ev_loadA tu27 rfl (cs := [v8]) ts27 rfl (box_ptr (cells := [v8]) 0 rfl 0 rfl (lb rfl))) F S, trivial⟩ ?_
      refine dv_op ok6 4 rfl [] ?_
      refine wl_storeC (wn rfl) rfl F S rfl rfl (vs := [v8]) rfl ts27 (one_cons h13.one one_nil) (k := 5) rfl (lb rfl) (c' := #[v8]) rfl rfl ?_; clear S; intro w S
      refine dv_nx trivial ?_
      refine dv_et ok6 5 rfl (ev_assign rfl) F rfl fun a F=>?_
      refine dv_op ok6 6 rfl [] ?_
      refine wl_storeC (wn rfl) rfl F S rfl rfl (vs := [.i6 0, .i6 0]) rfl ts32 (one_cons rfl (one_cons rfl one_nil)) (k := 4) rfl (lb rfl) (c' := #[.i6 0, .i6 0]) rfl rfl ?_; clear S; intro w S
      refine dv_nx trivial ?_
      refine dv_fin ok6 ?_
      refine then_n ?_
      refine wp_ret ?_
      obtain rfl := sinj hm
      refine post_r _ F rfl (ar_cons (resA rfl tu27 rfl (box_ptr (cells := [v4]) 6 rfl 0 rfl (lb rfl) w S) ts27) (ar_cons (resA rfl tu27 rfl (box_ptr (cells := [v8]) 5 rfl 0 rfl (lb rfl) w S) ts27) (ar_cons (resT rfl) (ar_cons (resA rfl tu32 rfl (box_ptr (cells := [.i6 0, .i6 0]) 4 rfl 0 rfl (lb rfl) w S) ts32) ar_nil)))) ?_
      replace S : St g15 [] fr w := St.tail [] _ S
      exact ⟨_, rfl, g15, v4, v8, (((((((((l1.trans l2).trans l3).trans l4).trans l5).trans l6).trans l7).trans l8).trans l9).trans l15), S, (h7.mono l15), h13, rfl⟩

theorem treecommute_edit_ok {g : Gh} {fr : Hl} {w : World} {r : TreeChange} (path : ByteArray) (p_ : Patch) (vp_1 : Value) (hp_1 : RepSl g p_.Hunks vp_1) (S : St g [] fr w) (hm : treecommute_edit path p_ = some r) :
  Calls Tryz.prog 41 [.string path, .agg #[vp_1]].toArray w (fun en w' => ∃ v, en = .returned v ∧ ∃ (g' : Gh) (v1 v2 : Value), Le g g' ∧ St g' [] fr w' ∧ RepSl g' r.Lines v1 ∧ RepSl g' r.Patch.Hunks v2 ∧ .agg #[.i6 r.Kind, .string r.Path, .string r.To, v1, v2] = v) := by
 unfold treecommute_edit at hm
 refine calls_enter (fn := Tryz.f41) Tryz.func41 rfl Tryz.ntmps41 (lb rfl) ?_
 intro a F
 replace F : Fr 8 a [(0, .string path), (1, .agg #[vp_1])] := F
 refine wp_seq ?_
 refine wp_region_lit ?_
 refine wl_boxC (wn rfl) rfl rfl rfl F S rfl rfl ?_; clear F a S; rintro b1 a w F S
 refine wl_alloc (wn rfl) rfl tz30 (cs := [.i6 0, .string ByteArray.empty, .string ByteArray.empty, nilS, nilS]) rfl F S rfl rfl ?_; clear F a S; rintro b2 a w F S
 refine wpList_nil ?_
 refine then_n ?_
 refine wp_seq ?_
 refine wp_region_lit ?_
 refine wE (ev_move rfl) F S rfl fun a F=>?_
 refine wE (ev_loadA tu27 rfl (cs := [vp_1]) ts27 rfl (box_ptr (cells := [vp_1]) 1 rfl 0 rfl (lb rfl))) F S rfl fun a F=>?_
 refine wE (ev_build (parts := [(0, .const (.i6 4)), (1, .tmp 5), (4, .tmp 6)]) (vs := [(0, .i6 4), (1, .string path), (4, .agg #[vp_1])]) rfl (fun w => tb30_0_1_4 4 path vp_1 (RepSl.isSl hp_1) w)) F S rfl fun a F=>?_
 refine wl_storeC (wn rfl) rfl F S rfl rfl (vs := [.i6 4, .string path, .string ByteArray.empty, nilS, vp_1]) rfl ts30 (one_cons rfl (one_cons rfl (one_cons rfl (one_cons rfl (one_cons hp_1.one one_nil))))) (k := 0) rfl (lb rfl) (c' := #[.i6 4, .string path, .string ByteArray.empty, nilS, vp_1]) rfl rfl ?_; clear S; intro w S
 refine wpList_nil ?_
 refine then_n ?_
 refine wp_ret ?_
 obtain rfl := sinj hm
 refine post_r _ F rfl (ar_cons (resA rfl tu30 rfl (box_ptr (cells := [.i6 4, .string path, .string ByteArray.empty, nilS, vp_1]) 0 rfl 0 rfl (lb rfl) w S) ts30) ar_nil) ?_
 replace S : St g [] fr w := St.tail [] _ S
 exact ⟨_, rfl, g, (nilS), vp_1, (Le.refl _), S, (RepSl.nil _), hp_1, rfl⟩
end Go.Dc
