/- Walks: each function comes to what its model says. -/
import Derived.Test.YtgcjgmfdnhimmaaDcTab
import Derived.Test.YtgcjgmfdnhimmaaDcM
import Derived.Test.YtgcjgmfdnhimmaaDcW1
namespace Go.Dc
open Go Go.Proofs
set_option maxRecDepth 100000
set_option maxHeartbeats 4000000
set_option linter.unusedVariables false
theorem commute_meet_ok {g : Gh} {fr : Hl} {w : World} {r : Bool} (a_ : (List Range_commute)) (va_1 : Value) (ha_1 : RepSl g a_ va_1) (b_ : (List Range_commute)) (vb_1 : Value) (hb_1 : RepSl g b_ vb_1) (S : St g [] fr w) (hm : commute_meet a_ b_ = some r) :
  Calls Try.prog 33 [va_1, vb_1].toArray w (fun en w' => ∃ v, en = .returned v ∧ ∃ (g' : Gh), Le g g' ∧ St g' [] fr w' ∧ .bool r = v) := by
 unfold commute_meet at hm
 refine calls_enter (fn := Try.f33) Try.func33 rfl Try.ntmps33 (lb rfl) ?_
 intro a F
 replace F : Fr 26 a [(0, va_1), (1, vb_1)] := F
 refine wp_seq ?_
 refine wp_region_lit ?_
 refine wl_ev (wn rfl) (ev_assign rfl) F S rfl rfl ?_; clear F a; intro a F
 refine wpList_nil ?_
 replace F := F.sub (e' := [(0, va_1), (1, vb_1)]) ⟨rfl, rfl, trivial⟩
 refine then_n ?_
 refine wp_cut (fun a w => ∃ (g1 : Gh), Fr 26 a [] ∧ Le g g1 ∧ St g1 [] fr w ∧ commute_meet.j1 = some r) ?_ ?_
 ·refine wp_seq ?_
  refine wp_region_lit ?_
  refine wl_ev (wn rfl) (ev_move rfl) F S rfl rfl ?_; clear F a; intro a F
  refine wl_ev (wn rfl) (ev_lenSh ha_1 rfl tu52) F S rfl rfl ?_; clear F a; intro a F
  refine wl_ev (wn rfl) (ev_move rfl) F S rfl rfl ?_; clear F a; intro a F
  refine wpList_nil ?_
  replace F := F.sub (e' := [(11, .int .i64 0), (10, .int .i64 (a_.length : Int)), (9, va_1), (1, vb_1)]) ⟨rfl, rfl, rfl, rfl, trivial⟩
  refine then_n ?_
  refine wp_block ?_
  obtain ⟨r1, hr1, hm⟩ := bind_some hm
  have hmo1 := hm; clear hm
  refine wp_iter (σ := Int) (ρ := Bool ⊕ Unit) (m := fun s => commute_meet.l1 a_ b_ s) (I := fun x1 a w => ∃ (g2 : Gh), Fr 26 a [(11, .int .i64 x1), (10, .int .i64 (a_.length : Int)), (9, va_1), (1, vb_1)] ∧ Le g g2 ∧ St g2 [] fr w) hr1 ?_ ?_
  ·exact ⟨g, F.sub ⟨rfl, rfl, rfl, rfl, trivial⟩, (Le.refl _), S⟩
  ·clear F S; rintro x1 a w x2 ⟨g2, F, l2, S⟩ hx1 hfin1
   have hm : commute_meet.l1 a_ b_ x1 = some x2 := hx1; clear hx1
   unfold commute_meet.l1 at hm
   refine wp_seq ?_
   refine wp_region_lit ?_
   refine wl_ev (wn rfl) (ev_int rfl rfl (bo_lss _ _ _ _)) F S rfl rfl ?_; clear F a; intro a F
   refine wpList_nil ?_
   refine then_n ?_
   refine wp_seq ?_
   obtain ⟨hc1, hm⟩ | ⟨hc1, hm⟩ := ite_or hm
   ·refine wp_condT F rfl hc1 ?_
    refine wp_skip ?_
    refine then_n ?_
    refine wp_cut (fun a w => ∃ (g3 : Gh), Fr 26 a [(11, .int .i64 x1), (10, .int .i64 (a_.length : Int)), (9, va_1), (1, vb_1)] ∧ Le g2 g3 ∧ St g3 [] fr w ∧ commute_meet.j2 x1 = some x2) ?_ ?_
    ·refine wp_block ?_
     refine wp_seq ?_
     refine wp_region_lit ?_
     obtain ⟨y1, hy1, hm⟩ := bind_some hm
     obtain ⟨cs1, hr2, hp1⟩ := elemS (ha_1.mono l2) hy1
     obtain rfl := rep_Range_commute hr2
     refine wl_ev (wn rfl) (ev_idxS (ha_1.mono l2) hy1 tu52 ts70 rfl rfl) F S rfl rfl ?_; clear F a; intro a F
     refine wl_ev (wn rfl) (ev_loadA tu70 rfl (cs := [.int .i64 y1.Low, .int .i64 y1.High, .int .i64 y1.Growth]) ts70 rfl (ptr_mono (cks := []) (fr := fr) hp1 (Le.refl _))) F S rfl rfl ?_; clear F a; intro a F
     refine wl_alloc (wn rfl) rfl tz70 (cs := [.int .i64 0, .int .i64 0, .int .i64 0]) rfl F S rfl rfl ?_; clear F a S; rintro b1 a w F S
     refine wl_storeC (wn rfl) rfl F S rfl rfl (vs := [.int .i64 y1.Low, .int .i64 y1.High, .int .i64 y1.Growth]) rfl ts70 (one_cons rfl (one_cons rfl (one_cons rfl one_nil))) (k := 0) rfl (lb rfl) (c' := #[.int .i64 y1.Low, .int .i64 y1.High, .int .i64 y1.Growth]) rfl rfl ?_; clear S; intro w S
     replace S : St g2 [[(b1, .cells #[.int .i64 y1.Low, .int .i64 y1.High, .int .i64 y1.Growth] 70 (0, 0))]] fr w := S
     refine wpList_nil ?_
     replace F := F.sub (e' := [(6, bp b1 0), (11, .int .i64 x1), (10, .int .i64 (a_.length : Int)), (9, va_1), (1, vb_1)]) ⟨rfl, rfl, rfl, rfl, rfl, trivial⟩
     refine then_n ?_
     refine wp_seq ?_
     refine wp_region_lit ?_
     refine wl_ev (wn rfl) (ev_move rfl) F S rfl rfl ?_; clear F a; intro a F
     refine wl_ev (wn rfl) (ev_lenSh hb_1 rfl tu52) F S rfl rfl ?_; clear F a; intro a F
     refine wl_ev (wn rfl) (ev_move rfl) F S rfl rfl ?_; clear F a; intro a F
     refine wpList_nil ?_
     refine then_n ?_
     refine wp_cut1 (fun a w => ∃ (g4 : Gh), Fr 26 a [(11, .int .i64 x1), (10, .int .i64 (a_.length : Int)), (9, va_1), (1, vb_1)] ∧ Le g2 g4 ∧ St g4 [] fr w ∧ commute_meet.j3 x1 = some x2) ?_ ?_
     ·refine wp_block ?_
      obtain ⟨r2, hr3, hm⟩ := bind_some hm
      have hmo2 := hm; clear hm
      refine wp_iter (σ := Int) (ρ := Bool ⊕ Unit) (m := fun s => commute_meet.l2 b_ y1 s) (I := fun x3 a w => ∃ (g5 : Gh), Fr 26 a [(17, .int .i64 x3), (16, .int .i64 (b_.length : Int)), (15, vb_1), (6, bp b1 0), (11, .int .i64 x1), (10, .int .i64 (a_.length : Int)), (9, va_1), (1, vb_1)] ∧ Le g2 g5 ∧ St g5 [[(b1, .cells #[.int .i64 y1.Low, .int .i64 y1.High, .int .i64 y1.Growth] 70 (0, 0))]] fr w) hr3 ?_ ?_
      ·exact ⟨g2, F.sub ⟨rfl, rfl, rfl, rfl, rfl, rfl, rfl, rfl, trivial⟩, (Le.refl _), S⟩
      ·clear F S; rintro x3 a w x4 ⟨g5, F, l5, S⟩ hx2 hfin2
       have hm : commute_meet.l2 b_ y1 x3 = some x4 := hx2; clear hx2
       unfold commute_meet.l2 at hm
       refine wp_seq ?_
       refine wp_region_lit ?_
       refine wl_ev (wn rfl) (ev_int rfl rfl (bo_lss _ _ _ _)) F S rfl rfl ?_; clear F a; intro a F
       refine wpList_nil ?_
       refine then_n ?_
       refine wp_seq ?_
       obtain ⟨hc2, hm⟩ | ⟨hc2, hm⟩ := ite_or hm
       ·refine wp_condT F rfl hc2 ?_
        refine wp_skip ?_
        refine then_n ?_
        refine wp_seq ?_
        refine wp_block ?_
        refine wp_seq ?_
        refine wp_region_lit ?_
        obtain ⟨y2, hy2, hm⟩ := bind_some hm
        obtain ⟨cs2, hr4, hp2⟩ := elemS (hb_1.mono (l2.trans l5)) hy2
        obtain rfl := rep_Range_commute hr4
        refine wl_ev (wn rfl) (ev_idxS (hb_1.mono (l2.trans l5)) hy2 tu52 ts70 rfl rfl) F S rfl rfl ?_; clear F a; intro a F
        refine wl_ev (wn rfl) (ev_loadA tu70 rfl (cs := [.int .i64 y2.Low, .int .i64 y2.High, .int .i64 y2.Growth]) ts70 rfl (ptr_mono (cks := [[(b1, .cells #[.int .i64 y1.Low, .int .i64 y1.High, .int .i64 y1.Growth] 70 (0, 0))]]) (fr := fr) hp2 (Le.refl _))) F S rfl rfl ?_; clear F a; intro a F
        refine wl_alloc (wn rfl) rfl tz70 (cs := [.int .i64 0, .int .i64 0, .int .i64 0]) rfl F S rfl rfl ?_; clear F a S; rintro b2 a w F S
        refine wl_storeC (wn rfl) rfl F S rfl rfl (vs := [.int .i64 y2.Low, .int .i64 y2.High, .int .i64 y2.Growth]) rfl ts70 (one_cons rfl (one_cons rfl (one_cons rfl one_nil))) (k := 0) rfl (lb rfl) (c' := #[.int .i64 y2.Low, .int .i64 y2.High, .int .i64 y2.Growth]) rfl rfl ?_; clear S; intro w S
        replace S : St g5 [[(b2, .cells #[.int .i64 y2.Low, .int .i64 y2.High, .int .i64 y2.Growth] 70 (0, 0))], [(b1, .cells #[.int .i64 y1.Low, .int .i64 y1.High, .int .i64 y1.Growth] 70 (0, 0))]] fr w := S
        refine wpList_nil ?_
        replace F := F.sub (e' := [(8, bp b2 0), (17, .int .i64 x3), (16, .int .i64 (b_.length : Int)), (15, vb_1), (6, bp b1 0), (11, .int .i64 x1), (10, .int .i64 (a_.length : Int)), (9, va_1), (1, vb_1)]) ⟨rfl, rfl, rfl, rfl, rfl, rfl, rfl, rfl, rfl, trivial⟩
        refine then_n ?_
        refine wp_seq ?_
        refine wp_region_lit ?_
        refine wl_ev (wn rfl) (ev_loadA tu70 rfl (cs := [.int .i64 y1.Low, .int .i64 y1.High, .int .i64 y1.Growth]) ts70 rfl (box_ptr (cells := [.int .i64 y1.Low, .int .i64 y1.High, .int .i64 y1.Growth]) 1 rfl 0 rfl (lb rfl))) F S rfl rfl ?_; clear F a; intro a F
        refine wl_ev (wn rfl) (ev_loadA tu70 rfl (cs := [.int .i64 y2.Low, .int .i64 y2.High, .int .i64 y2.Growth]) ts70 rfl (box_ptr (cells := [.int .i64 y2.Low, .int .i64 y2.High, .int .i64 y2.Growth]) 0 rfl 0 rfl (lb rfl))) F S rfl rfl ?_; clear F a; intro a F
        obtain ⟨y3, hy3, hm⟩ := bind_some hm
        refine wl_call (wn rfl) rfl (xs := [.tmp 21, .tmp 22]) (vs := [.agg #[.int .i64 y1.Low, .int .i64 y1.High, .int .i64 y1.Growth], .agg #[.int .i64 y2.Low, .int .i64 y2.High, .int .i64 y2.Growth]]) (cap := []) F rfl rfl tc50 (commute_Touch_ok (g := g5) (fr := (fl [[(b2, .cells #[.int .i64 y2.Low, .int .i64 y2.High, .int .i64 y2.Growth] 70 (0, 0))], [(b1, .cells #[.int .i64 y1.Low, .int .i64 y1.High, .int .i64 y1.Growth] 70 (0, 0))]] fr)) (w := w) y1 y2 S hy3) rfl rfl ?_; clear F a S
        rintro _ a w ⟨g6, l6, S, rfl⟩ F; replace S : St g6 [[(b2, .cells #[.int .i64 y2.Low, .int .i64 y2.High, .int .i64 y2.Growth] 70 (0, 0))], [(b1, .cells #[.int .i64 y1.Low, .int .i64 y1.High, .int .i64 y1.Growth] 70 (0, 0))]] fr w := S
        refine wpList_nil ?_
        replace F := F.sub (e' := [(23, .bool y3), (17, .int .i64 x3), (16, .int .i64 (b_.length : Int)), (15, vb_1), (6, bp b1 0), (11, .int .i64 x1), (10, .int .i64 (a_.length : Int)), (9, va_1), (1, vb_1)]) ⟨rfl, rfl, rfl, rfl, rfl, rfl, rfl, rfl, rfl, trivial⟩
        refine then_n ?_
        obtain ⟨hc3, hm⟩ | ⟨hc3, hm⟩ := ite_or hm
        ·refine wp_condT F rfl hc3 ?_
         refine wp_seq ?_
         refine wp_region_lit ?_
         refine wl_ev (wn rfl) (ev_assign rfl) F S rfl rfl ?_; clear F a; intro a F
         refine wpList_nil ?_
         replace F := F.sub (e' := [(4, .bool true)]) ⟨rfl, trivial⟩
         refine then_n ?_
         refine wp_ret ?_
         refine inb_r ?_
         refine then_r ?_
         refine then_r ?_
         refine inb_r ?_
         refine then_r ?_
         refine inb_r ?_
         refine then_r ?_
         refine then_r ?_
         refine inb_r ?_
         refine then_r ?_
         obtain rfl := sinj hm
         obtain rfl := hfin2 _ rfl
         clear hm
         have hm : (some (Step.done (Sum.inl true)) : Option (Step Int (Bool ⊕ Unit))) = some _ := hmo2
         obtain rfl := sinj hm
         obtain rfl := hfin1 _ rfl
         clear hm
         have hm : (some true : Option Bool) = some _ := hmo1
         obtain rfl := sinj hm
         refine post_r (fn := Try.f33) (rs := [.tmp 4]) [.bool true] F rfl (ar_cons (resT rfl) ar_nil) ?_
         replace S : St g6 [] fr w := St.tail [] _ S
         exact ⟨_, rfl, g6, ((l2.trans l5).trans l6), S, rfl⟩
        ·refine wp_condF F rfl hc3 ?_
         refine wp_skip ?_
         refine inb_n ?_
         refine then_n ?_
         refine wp_region_lit ?_
         obtain ⟨z2, hz2, hm⟩ := bind_some hm
         refine wl_ev (wn rfl) (ev_int rfl rfl (bo_add hz2)) F S rfl rfl ?_; clear F a; intro a F
         refine wl_ev (wn rfl) (ev_move rfl) F S rfl rfl ?_; clear F a; intro a F
         refine wpList_nil ?_
         replace F := F.sub (e' := [(17, .int .i64 z2), (16, .int .i64 (b_.length : Int)), (15, vb_1), (6, bp b1 0), (11, .int .i64 x1), (10, .int .i64 (a_.length : Int)), (9, va_1), (1, vb_1)]) ⟨rfl, rfl, rfl, rfl, rfl, rfl, rfl, rfl, trivial⟩
         refine then_n ?_
         obtain rfl := sinj hm
         refine ⟨_, rfl, ?_⟩
         replace S : St g6 [[(b1, .cells #[.int .i64 y1.Low, .int .i64 y1.High, .int .i64 y1.Growth] 70 (0, 0))]] fr w := St.tail [[(b1, .cells #[.int .i64 y1.Low, .int .i64 y1.High, .int .i64 y1.Growth] 70 (0, 0))]] _ (S.frontC 1 rfl)
         exact ⟨g6, F.sub ⟨rfl, rfl, rfl, rfl, rfl, rfl, rfl, rfl, trivial⟩, (l5.trans l6), S⟩
       ·refine wp_condF F rfl hc2 ?_
        refine wp_exit ?_
        refine then_e ?_
        refine then_e ?_
        refine inb_x ?_
        refine then_n ?_
        obtain rfl := sinj hm
        obtain rfl := hfin2 _ rfl
        clear hm
        have hm : (commute_meet.j3 x1 : Option (Step Int (Bool ⊕ Unit))) = some _ := hmo2
        replace S : St g5 [] fr w := St.tail [] _ S
        exact ⟨g5, F.sub ⟨rfl, rfl, rfl, rfl, trivial⟩, l5, S, hm⟩
     ·clear F S hm; rintro a w ⟨g4, F, l4, S, hm⟩
      refine inb_n ?_
      refine then_n ?_
      exact ⟨g4, F.sub ⟨rfl, rfl, rfl, rfl, trivial⟩, l4, S, hm⟩
    ·clear F S hm; rintro a w ⟨g3, F, l3, S, hm⟩
     refine wp_region_lit ?_
     obtain ⟨z1, hz1, hm⟩ := bind_some hm
     refine wl_ev (wn rfl) (ev_int rfl rfl (bo_add hz1)) F S rfl rfl ?_; clear F a; intro a F
     refine wl_ev (wn rfl) (ev_move rfl) F S rfl rfl ?_; clear F a; intro a F
     refine wpList_nil ?_
     replace F := F.sub (e' := [(11, .int .i64 z1), (10, .int .i64 (a_.length : Int)), (9, va_1), (1, vb_1)]) ⟨rfl, rfl, rfl, rfl, trivial⟩
     refine then_n ?_
     obtain rfl := sinj hm
     refine ⟨_, rfl, ?_⟩
     exact ⟨g3, F.sub ⟨rfl, rfl, rfl, rfl, trivial⟩, (l2.trans l3), S⟩
   ·refine wp_condF F rfl hc1 ?_
    refine wp_exit ?_
    refine then_e ?_
    refine then_e ?_
    refine inb_x ?_
    refine then_n ?_
    obtain rfl := sinj hm
    obtain rfl := hfin1 _ rfl
    clear hm
    have hm : (commute_meet.j1 : Option Bool) = some _ := hmo1
    exact ⟨g2, F.sub trivial, l2, S, hm⟩
 ·clear F S hm; rintro a w ⟨g1, F, l1, S, hm⟩
  refine wp_seq ?_
  refine wp_region_lit ?_
  refine wl_ev (wn rfl) (ev_assign rfl) F S rfl rfl ?_; clear F a; intro a F
  refine wpList_nil ?_
  refine then_n ?_
  refine wp_ret ?_
  obtain rfl := sinj hm
  refine post_r (fn := Try.f33) (rs := [.tmp 4]) [.bool false] F rfl (ar_cons (resT rfl) ar_nil) ?_
  exact ⟨_, rfl, g1, l1, S, rfl⟩

theorem commute_OldRanges_ok {g : Gh} {fr : Hl} {w : World} {r : (List Range_commute)} (p_ : Patch) (vp_1 : Value) (hp_1 : RepSl g p_.Hunks vp_1) (S : St g [] fr w) (hm : commute_OldRanges p_ = some r) :
  Calls Try.prog 34 [.agg #[vp_1]].toArray w (fun en w' => ∃ v, en = .returned v ∧ ∃ (g' : Gh) (v1 : Value) (c1 : Hl), Le g g' ∧ St g' [c1] fr w' ∧ OwnS g' r v1 c1 ∧ v1 = v) := by
 unfold commute_OldRanges at hm
 refine calls_enter (fn := Try.f34) Try.func34 rfl Try.ntmps34 (lb rfl) ?_
 intro a F
 replace F : Fr 25 a [(0, .agg #[vp_1])] := F
 refine wp_seq ?_
 refine wp_region_lit ?_
 refine wl_boxC (wn rfl) rfl rfl rfl F S rfl rfl ?_; clear F a S; rintro b1 a w F S
 refine wl_ev (wn rfl) (ev_assign rfl) F S rfl rfl ?_; clear F a; intro a F
 refine wpList_nil ?_
 replace F := F.sub (e' := [(1, bp b1 0)]) ⟨rfl, trivial⟩
 refine then_n ?_
 refine wp_seq ?_
 refine wp_region_lit ?_
 refine wl_ev (wn rfl) (ev_assign rfl) F S rfl rfl ?_; clear F a; intro a F
 refine wpList_nil ?_
 refine then_n ?_
 refine wp_cut (fun a w => ∃ (x1 : List Range_commute) (v1 : Value) (c1 : Hl) (g1 : Gh), Fr 25 a [(3, v1)] ∧ Le g g1 ∧ St g1 [c1] fr w ∧ OwnS g1 x1 v1 c1 ∧ commute_OldRanges.j1 x1 = some r) ?_ ?_
 ·refine wp_seq ?_
  refine wp_region_lit ?_
  refine wl_ev (wn rfl) (ev_fieldAddr' tu38 tf38_0 (z := 0) ts36 rfl ⟨_, rfl⟩ rfl) F S rfl rfl ?_; clear F a; intro a F
  refine wl_ev (wn rfl) (ev_load1 tu36 rfl rfl (box_ptr (cells := [vp_1]) 0 rfl 0 rfl (lb rfl))) F S rfl rfl ?_; clear F a; intro a F
  refine wl_ev (wn rfl) (ev_lenSh hp_1 rfl tu36) F S rfl rfl ?_; clear F a; intro a F
  refine wl_ev (wn rfl) (ev_move rfl) F S rfl rfl ?_; clear F a; intro a F
  refine wpList_nil ?_
  replace F := F.sub (e' := [(9, .int .i64 0), (8, .int .i64 (p_.Hunks.length : Int)), (7, vp_1), (3, nilS)]) ⟨rfl, rfl, rfl, rfl, trivial⟩
  refine then_n ?_
  refine wp_block ?_
  obtain ⟨r1, hr1, hm⟩ := bind_some hm
  have hmo1 := hm; clear hm
  refine wp_iter (σ := Int × (List Range_commute)) (ρ := (List Range_commute)) (m := fun s => commute_OldRanges.l1 p_ s.1 s.2) (I := fun s a w => match s with | (x2, x3) => ∃ (v2 : Value) (c2 : Hl) (g2 : Gh), Fr 25 a [(9, .int .i64 x2), (8, .int .i64 (p_.Hunks.length : Int)), (7, vp_1), (3, v2)] ∧ Le g g2 ∧ St g2 [c2] fr w ∧ OwnS g2 x3 v2 c2) hr1 ?_ ?_
  ·dsimp only
   replace S : St g [[], [(b1, .cells #[vp_1] 38 (0, 0))]] fr w := S
   replace S : St g [[]] fr w := St.tail [[]] _ (S.frontC 0 rfl)
   exact ⟨(nilS), [], g, F.sub ⟨rfl, rfl, rfl, rfl, trivial⟩, (Le.refl _), S, (OwnS.nil _)⟩
  ·clear F S; rintro ⟨x2, x3⟩ a w x4 ⟨v2, c2, g2, F, l2, S, h2⟩ hx1 hfin1
   have hm : commute_OldRanges.l1 p_ x2 x3 = some x4 := hx1; clear hx1
   unfold commute_OldRanges.l1 at hm
   refine wp_seq ?_
   refine wp_region_lit ?_
   refine wl_ev (wn rfl) (ev_int rfl rfl (bo_lss _ _ _ _)) F S rfl rfl ?_; clear F a; intro a F
   refine wpList_nil ?_
   refine then_n ?_
   refine wp_seq ?_
   obtain ⟨hc1, hm⟩ | ⟨hc1, hm⟩ := ite_or hm
   ·refine wp_condT F rfl hc1 ?_
    refine wp_skip ?_
    refine then_n ?_
    refine wp_seq ?_
    refine wp_block ?_
    refine wp_seq ?_
    refine wp_region_lit ?_
    obtain ⟨y1, hy1, hm⟩ := bind_some hm
    obtain ⟨cs1, hr2, hp1⟩ := elemS (hp_1.mono l2) hy1
    obtain ⟨v3, v4, rfl, h3, h4⟩ := rep_Hunk hr2
    refine wl_ev (wn rfl) (ev_idxS (hp_1.mono l2) hy1 tu36 ts60 rfl rfl) F S rfl rfl ?_; clear F a; intro a F
    refine wl_ev (wn rfl) (ev_loadA tu60 rfl (cs := [.int .i64 y1.At, v3, v4]) ts60 rfl (ptr_mono (cks := [c2]) (fr := fr) hp1 (Le.refl _))) F S rfl rfl ?_; clear F a; intro a F
    refine wl_alloc (wn rfl) rfl tz60 (cs := [.int .i64 0, nilS, nilS]) rfl F S rfl rfl ?_; clear F a S; rintro b2 a w F S
    refine wl_storeC (wn rfl) rfl F S rfl rfl (vs := [.int .i64 y1.At, v3, v4]) rfl ts60 (one_cons rfl (one_cons h3.one (one_cons h4.one one_nil))) (k := 0) rfl (lb rfl) (c' := #[.int .i64 y1.At, v3, v4]) rfl rfl ?_; clear S; intro w S
    replace S : St g2 [[(b2, .cells #[.int .i64 y1.At, v3, v4] 60 (0, 0))], c2] fr w := S
    refine wpList_nil ?_
    replace F := F.sub (e' := [(5, bp b2 0), (9, .int .i64 x2), (8, .int .i64 (p_.Hunks.length : Int)), (7, vp_1), (3, v2)]) ⟨rfl, rfl, rfl, rfl, rfl, trivial⟩
    refine then_n ?_
    obtain ⟨y2, hy2, hm⟩ := bind_some hm
    obtain ⟨y3, hy3, hm⟩ := bind_some hm
    obtain ⟨y4, hy4, hm⟩ := bind_some hm
    refine wp_drawL ⟨2, [[13], [14], [15], [16], [17], [18], [19], [20], [21], [22], [3, 22]], [[], [], [], [], [], [], [], [], [], [12], []], [[], [], [11], [11], [], [11], [], [], [], [8], []], [[3], [5], [], [5], [], [5], [], [], [], [], []], [[], [], [1], [], [3], [], [5], [2, 4, 6], [7], [0, 8], [9]], [9, 8, 7], [0, 1, 2, 3, 4, 5, 6, 7, 8, 9, 10, 11]⟩
     [([13], fun us g c => us = [v2]),
      ([14], fun us g c => us = [bp b2 0]),
      ([15], fun us g c => us = [.int .i64 y1.At]),
      ([16], fun us g c => us = [.agg #[.int .i64 y1.At, v3, v4]]),
      ([17], fun us g c => us = [.int .i64 y2]),
      ([18], fun us g c => us = [.agg #[.int .i64 y1.At, v3, v4]]),
      ([19], fun us g c => us = [.int .i64 y3]),
      ([20], fun us g c => us = [.agg #[.int .i64 y1.At, .int .i64 y2, .int .i64 y3]]),
      ([21], fun us g c => ∃ v5 : Value, us = [v5] ∧ OwnS g ([({ Low := y1.At, High := y2, Growth := y3 } : Range_commute)] : List Range_commute) v5 c),
      ([22], fun us g c => ∃ v6 : Value, us = [v6] ∧ OwnS g y4 v6 c),
      ([3, 22], fun us g c => ∃ v6 : Value, us = [v6, v6])]
     mo (by kernel_rfl) rfl rfl ⟨fun _ _ _ _ _ h => h, fun _ _ _ _ _ h => h, fun _ _ _ _ _ h => h, fun _ _ _ _ _ h => h, fun _ _ _ _ _ h => h, fun _ _ _ _ _ h => h, fun _ _ _ _ _ h => h, fun _ _ _ _ _ h => h, fun _ _ _ _ l ⟨x0, e0, h0⟩ => ⟨x0, e0, h0.mono l⟩, fun _ _ _ _ l ⟨x0, e0, h0⟩ => ⟨x0, e0, h0.mono l⟩, fun _ _ _ _ _ h => h, trivial⟩ F S ⟨?_, ?_, ?_, ?_, ?_, ?_, ?_, ?_, ?_, ?_, ?_, trivial⟩ ?_
    ·intro a w gd1 c fr hsz hdf hK ld1 hN hI S
     have F : Fr 25 a [(3, v2)] := Fr.of hsz hdf ⟨hK 3 (by decide) _ rfl, trivial⟩
     replace S : St gd1 [] fr w := S.of_eq (flat2 _ _ _ _)
     refine wl_ev (wn rfl) (ev_move rfl) F S rfl rfl ?_; clear F; intro a F
     refine wpList_nil ⟨rfl, F.sz, F.df, _, [], (Le.refl _), ?_, (lst1 (F.get 13 _ rfl))⟩
     refine St0.of_eq ?_ (flat3 c [] [] fr).symm
     show St0 _ (fl ([] ++ []) fr) _
     exact S
    ·intro a w gd1 c fr hsz hdf hK ld1 hN hI S
     have F : Fr 25 a [(5, bp b2 0)] := Fr.of hsz hdf ⟨hK 5 (by decide) _ rfl, trivial⟩
     replace S : St gd1 [] fr w := S.of_eq (flat2 _ _ _ _)
     refine wl_ev (wn rfl) (ev_fieldAddr' tu60 tf60_0 (z := 0) ts3 rfl ⟨_, rfl⟩ rfl) F S rfl rfl ?_; clear F; intro a F
     refine wpList_nil ⟨rfl, F.sz, F.df, _, [], (Le.refl _), ?_, (lst1 (F.get 14 _ rfl))⟩
     refine St0.of_eq ?_ (flat3 c [] [] fr).symm
     show St0 _ (fl ([] ++ []) fr) _
     exact S
    ·intro a w gd1 c fr hsz hdf hK ld1 hN hI S
     have e1 := hN 1 (by decide)
     have e14x : val a 14 = bp b2 0 := nth e1 0
     have F : Fr 25 a [(14, bp b2 0)] := Fr.of hsz hdf ⟨e14x, trivial⟩
     replace S : St gd1 [c 11] fr w := S.of_eq (flat2 _ _ _ _)
     have q11 : c 11 = [(b2, .cells #[.int .i64 y1.At, v3, v4] 60 (0, 0))] := hI 0 _ rfl
     rw [q11] at S
     refine wl_ev (wn rfl) (ev_load1 tu3 rfl rfl (box_ptr (cells := [.int .i64 y1.At]) 0 rfl 0 rfl (lb rfl))) F S rfl rfl ?_; clear F; intro a F
     refine wpList_nil ⟨rfl, F.sz, F.df, _, [], (Le.refl _), ?_, (lst1 (F.get 15 _ rfl))⟩
     refine St0.of_eq ?_ (flat3 c [] [11] fr).symm
     show St0 _ (fl ([] ++ [c 11]) fr) _
     rw [q11]
     exact S
    ·intro a w gd1 c fr hsz hdf hK ld1 hN hI S
     have F : Fr 25 a [(5, bp b2 0)] := Fr.of hsz hdf ⟨hK 5 (by decide) _ rfl, trivial⟩
     replace S : St gd1 [c 11] fr w := S.of_eq (flat2 _ _ _ _)
     have q11 : c 11 = [(b2, .cells #[.int .i64 y1.At, v3, v4] 60 (0, 0))] := hI 0 _ rfl
     rw [q11] at S
     refine wl_ev (wn rfl) (ev_loadA tu60 rfl (cs := [.int .i64 y1.At, v3, v4]) ts60 rfl (box_ptr (cells := [.int .i64 y1.At, v3, v4]) 0 rfl 0 rfl (lb rfl))) F S rfl rfl ?_; clear F; intro a F
     refine wpList_nil ⟨rfl, F.sz, F.df, _, [], (Le.refl _), ?_, (lst1 (F.get 16 _ rfl))⟩
     refine St0.of_eq ?_ (flat3 c [] [11] fr).symm
     show St0 _ (fl ([] ++ [c 11]) fr) _
     rw [q11]
     exact S
    ·intro a w gd1 c fr hsz hdf hK ld1 hN hI S
     have e3 := hN 3 (by decide)
     have e16x : val a 16 = .agg #[.int .i64 y1.At, v3, v4] := nth e3 0
     have F : Fr 25 a [(16, .agg #[.int .i64 y1.At, v3, v4])] := Fr.of hsz hdf ⟨e16x, trivial⟩
     replace S : St gd1 [] fr w := S.of_eq (flat2 _ _ _ _)
     refine wl_call (wn rfl) rfl (xs := [.tmp 16]) (vs := [.agg #[.int .i64 y1.At, v3, v4]]) (cap := []) F rfl rfl tc51 (textpatch_End_ok (g := gd1) (fr := fr) (w := w) y1 v3 (h3.mono ld1) v4 (h4.mono ld1) S hy2) rfl rfl ?_; clear F S
     rintro _ a w ⟨g3, l3, S, rfl⟩ F; replace S : St g3 [] fr w := S
     refine wpList_nil ⟨rfl, F.sz, F.df, _, [], l3, ?_, (lst1 (F.get 17 _ rfl))⟩
     refine St0.of_eq ?_ (flat3 c [] [] fr).symm
     show St0 _ (fl ([] ++ []) fr) _
     exact S
    ·intro a w gd1 c fr hsz hdf hK ld1 hN hI S
     have F : Fr 25 a [(5, bp b2 0)] := Fr.of hsz hdf ⟨hK 5 (by decide) _ rfl, trivial⟩
     replace S : St gd1 [c 11] fr w := S.of_eq (flat2 _ _ _ _)
     have q11 : c 11 = [(b2, .cells #[.int .i64 y1.At, v3, v4] 60 (0, 0))] := hI 0 _ rfl
     rw [q11] at S
     refine wl_ev (wn rfl) (ev_loadA tu60 rfl (cs := [.int .i64 y1.At, v3, v4]) ts60 rfl (box_ptr (cells := [.int .i64 y1.At, v3, v4]) 0 rfl 0 rfl (lb rfl))) F S rfl rfl ?_; clear F; intro a F
     refine wpList_nil ⟨rfl, F.sz, F.df, _, [], (Le.refl _), ?_, (lst1 (F.get 18 _ rfl))⟩
     refine St0.of_eq ?_ (flat3 c [] [11] fr).symm
     show St0 _ (fl ([] ++ [c 11]) fr) _
     rw [q11]
     exact S
    ·intro a w gd1 c fr hsz hdf hK ld1 hN hI S
     have e5 := hN 5 (by decide)
     have e18x : val a 18 = .agg #[.int .i64 y1.At, v3, v4] := nth e5 0
     have F : Fr 25 a [(18, .agg #[.int .i64 y1.At, v3, v4])] := Fr.of hsz hdf ⟨e18x, trivial⟩
     replace S : St gd1 [] fr w := S.of_eq (flat2 _ _ _ _)
     refine wl_call (wn rfl) rfl (xs := [.tmp 18]) (vs := [.agg #[.int .i64 y1.At, v3, v4]]) (cap := []) F rfl rfl tc49 (textpatch_Growth_ok (g := gd1) (fr := fr) (w := w) y1 v3 (h3.mono ld1) v4 (h4.mono ld1) S hy3) rfl rfl ?_; clear F S
     rintro _ a w ⟨g4, l4, S, rfl⟩ F; replace S : St g4 [] fr w := S
     refine wpList_nil ⟨rfl, F.sz, F.df, _, [], l4, ?_, (lst1 (F.get 19 _ rfl))⟩
     refine St0.of_eq ?_ (flat3 c [] [] fr).symm
     show St0 _ (fl ([] ++ []) fr) _
     exact S
    ·intro a w gd1 c fr hsz hdf hK ld1 hN hI S
     have e2 := hN 2 (by decide)
     have e15x : val a 15 = .int .i64 y1.At := nth e2 0
     have e4 := hN 4 (by decide)
     have e17x : val a 17 = .int .i64 y2 := nth e4 0
     have e6 := hN 6 (by decide)
     have e19x : val a 19 = .int .i64 y3 := nth e6 0
     have F : Fr 25 a [(15, .int .i64 y1.At), (17, .int .i64 y2), (19, .int .i64 y3)] := Fr.of hsz hdf ⟨e15x, e17x, e19x, trivial⟩
     replace S : St gd1 [] fr w := S.of_eq (flat2 _ _ _ _)
     refine wl_ev (wn rfl) (ev_build (parts := [(0, .tmp 15), (1, .tmp 17), (2, .tmp 19)]) (vs := [(0, .int .i64 y1.At), (1, .int .i64 y2), (2, .int .i64 y3)]) rfl (fun w => tb70_0_1_2 y1.At y2 y3 w)) F S rfl rfl ?_; clear F; intro a F
     refine wpList_nil ⟨rfl, F.sz, F.df, _, [], (Le.refl _), ?_, (lst1 (F.get 20 _ rfl))⟩
     refine St0.of_eq ?_ (flat3 c [] [] fr).symm
     show St0 _ (fl ([] ++ []) fr) _
     exact S
    ·intro a w gd1 c fr hsz hdf hK ld1 hN hI S
     have e7 := hN 7 (by decide)
     have e20x : val a 20 = .agg #[.int .i64 y1.At, .int .i64 y2, .int .i64 y3] := nth e7 0
     have F : Fr 25 a [(20, .agg #[.int .i64 y1.At, .int .i64 y2, .int .i64 y3])] := Fr.of hsz hdf ⟨e20x, trivial⟩
     replace S : St gd1 [] fr w := S.of_eq (flat2 _ _ _ _)
     refine wl_lit (l := ([({ Low := y1.At, High := y2, Growth := y3 } : Range_commute)] : List Range_commute)) (vs := [.agg #[.int .i64 y1.At, .int .i64 y2, .int .i64 y3]]) (parts := [(0, .tmp 20)]) (wn rfl) rfl rfl rfl tu52 te70 (sz_cons rfl sz_nil) rfl (Cat.cons (rep_Range_commute_mk (x := ({ Low := y1.At, High := y2, Growth := y3 } : Range_commute)) ) (Cat.nil _)) (coa_cons rfl coa_nil) rfl F S rfl rfl ?_; clear F S
     rintro v5 c3 a w h5 F S
     refine wpList_nil ⟨rfl, F.sz, F.df, _, c3, (Le.refl _), ?_, ⟨v5, (lst1 (F.get 21 _ rfl)), h5⟩⟩
     refine St0.of_eq ?_ (flat3s c (c3) [] fr).symm
     show St0 _ (fl ([c3] ++ []) fr) _
     exact S
    ·intro a w gd1 c fr hsz hdf hK ld1 hN hI S
     have e0 := hN 0 (by decide)
     have e13x : val a 13 = v2 := nth e0 0
     obtain ⟨v5, e8, lh1⟩ := hN 8 (by decide)
     have e21x : val a 21 = v5 := nth e8 0
     have F : Fr 25 a [(13, v2), (21, v5)] := Fr.of hsz hdf ⟨e13x, e21x, trivial⟩
     replace S : St gd1 [c 12, c 8] fr w := S.of_eq (flat2 _ _ _ _)
     have q12 : c 12 = c2 := hI 1 _ rfl
     rw [q12] at S
     obtain ⟨cs2, hk1, hr3⟩ := OwnS.reads lh1
     refine wl_append (wn rfl) rfl tu52 tu52 te70 (by decide) (by decide) F S rfl rfl (k := 0) rfl (h2.mono ld1) hk1 rfl (hr3 _ _ _ 1 rfl S) hy4 rfl rfl ?_; clear F S
     rintro v6 c4 a w h6 S F; replace S : St gd1 [c4, (c 8)] fr w := S
     refine wpList_nil ⟨rfl, F.sz, F.df, _, c4, (Le.refl _), ?_, ⟨v6, (lst1 (F.get 22 _ rfl)), h6⟩⟩
     refine St0.of_eq ?_ (flat3s c (c4) [8] fr).symm
     show St0 _ (fl ([c4] ++ [c 8]) fr) _
     exact S
    ·intro a w gd1 c fr hsz hdf hK ld1 hN hI S
     obtain ⟨v6, e9, lh1⟩ := hN 9 (by decide)
     have e22x : val a 22 = v6 := nth e9 0
     have F : Fr 25 a [(22, v6)] := Fr.of hsz hdf ⟨e22x, trivial⟩
     replace S : St gd1 [] fr w := S.of_eq (flat2 _ _ _ _)
     refine wl_ev (wn rfl) (ev_assign rfl) F S rfl rfl ?_; clear F; intro a F
     refine wpList_nil ⟨rfl, F.sz, F.df, _, [], (Le.refl _), ?_, ⟨v6, (lst2 (F.get 3 _ rfl) (F.get 22 _ rfl))⟩⟩
     refine St0.of_eq ?_ (flat3 c [] [] fr).symm
     show St0 _ (fl ([] ++ []) fr) _
     exact S
    clear F S; intro a w gd1 c hsz hdf hK ld1 hI S hN
    obtain ⟨v5, e8, lh1⟩ := hN 8 (by decide)
    have e21x : val a 21 = v5 := nth e8 0
    obtain ⟨v6, e9, lh2⟩ := hN 9 (by decide)
    have e22x : val a 22 = v6 := nth e9 0
    obtain ⟨dup1, e10⟩ := hN 10 (by decide)
    obtain rfl : v6 = dup1 := by have hq := e22x.symm.trans (nth e10 1); simp at hq; first | exact hq | exact hq.1 | exact hq.2 | exact hq.2.1 | exact hq.2.2
    have e3x : val a 3 = v6 := nth e10 0
    have F : Fr 25 a [(9, .int .i64 x2), (8, .int .i64 (p_.Hunks.length : Int)), (7, vp_1), (3, v6)] := Fr.of hsz hdf ⟨hK 9 (by decide) _ rfl, hK 8 (by decide) _ rfl, hK 7 (by decide) _ rfl, e3x, trivial⟩
    replace S : St gd1 [c 0, c 1, c 2, c 3, c 4, c 5, c 6, c 7, c 8, c 9, c 10, c 11] fr w := S.of_eq (flat_fl _ _ _)
    generalize c 8 = c3 at *
    generalize c 9 = c4 at *
    have q11 : c 11 = [(b2, .cells #[.int .i64 y1.At, v3, v4] 60 (0, 0))] := hI 0 _ rfl
    rw [q11] at S
    replace S : St gd1 [c4] fr w := St.tail [c4] _ (S.frontC 9 rfl)
    clear hK hI hN hsz hdf e8 e9 e10 e21x e22x e3x
    refine inb_n ?_
    refine then_n ?_
    refine wp_region_lit ?_
    obtain ⟨z1, hz1, hm⟩ := bind_some hm
    refine wl_ev (wn rfl) (ev_int rfl rfl (bo_add hz1)) F S rfl rfl ?_; clear F a; intro a F
    refine wl_ev (wn rfl) (ev_move rfl) F S rfl rfl ?_; clear F a; intro a F
    refine wpList_nil ?_
    replace F := F.sub (e' := [(9, .int .i64 z1), (8, .int .i64 (p_.Hunks.length : Int)), (7, vp_1), (3, v6)]) ⟨rfl, rfl, rfl, rfl, trivial⟩
    refine then_n ?_
    obtain rfl := sinj hm
    refine ⟨_, rfl, ?_⟩
    dsimp only
    exact ⟨v6, c4, gd1, F.sub ⟨rfl, rfl, rfl, rfl, trivial⟩, (l2.trans ld1), S, lh2⟩
   ·refine wp_condF F rfl hc1 ?_
    refine wp_exit ?_
    refine then_e ?_
    refine then_e ?_
    refine inb_x ?_
    refine then_n ?_
    obtain rfl := sinj hm
    obtain rfl := hfin1 _ rfl
    clear hm
    have hm : (commute_OldRanges.j1 x3 : Option (List Range_commute)) = some _ := hmo1
    exact ⟨x3, v2, c2, g2, F.sub ⟨rfl, trivial⟩, l2, S, h2, hm⟩
 ·clear F S hm; rintro a w ⟨x1, v1, c1, g1, F, l1, S, h1, hm⟩
  refine wp_seq ?_
  refine wp_region_lit ?_
  refine wl_ev (wn rfl) (ev_move rfl) F S rfl rfl ?_; clear F a; intro a F
  refine wl_ev (wn rfl) (ev_assign rfl) F S rfl rfl ?_; clear F a; intro a F
  refine wpList_nil ?_
  replace F := F.sub (e' := [(2, v1)]) ⟨rfl, trivial⟩
  refine then_n ?_
  refine wp_ret ?_
  obtain rfl := sinj hm
  refine post_r (fn := Try.f34) (rs := [.tmp 2]) [v1] F rfl (ar_cons (resT rfl) ar_nil) ?_
  exact ⟨_, rfl, g1, v1, c1, l1, S, h1, rfl⟩

theorem textpatch_Made_ok {g : Gh} {fr : Hl} {w : World} {r : Patch × Fault} (p_ : Patch) (vp_1 : Value) (hp_1 : RepSl g p_.Hunks vp_1) (S : St g [] fr w) (hm : textpatch_Made p_ = some r) :
  Calls Try.prog 35 [.agg #[vp_1]].toArray w (fun en w' => ∃ v, en = .returned v ∧ ∃ (g' : Gh) (v1 : Value), Le g g' ∧ St g' [] fr w' ∧ RepSl g' r.1.Hunks v1 ∧ .tuple #[.agg #[v1], .agg #[.int .i64 r.2.Code, .int .i64 r.2.Index]] = v) := by
 unfold textpatch_Made at hm
 refine calls_enter (fn := Try.f35) Try.func35 rfl Try.ntmps35 (lb rfl) ?_
 intro a F
 replace F : Fr 12 a [(0, .agg #[vp_1])] := F
 refine wp_seq ?_
 refine wp_region_lit ?_
 refine wl_boxC (wn rfl) rfl rfl rfl F S rfl rfl ?_; clear F a S; rintro b1 a w F S
 refine wl_alloc (wn rfl) rfl tz38 (cs := [nilS]) rfl F S rfl rfl ?_; clear F a S; rintro b2 a w F S
 refine wl_alloc (wn rfl) rfl tz24 (cs := [.int .i64 0, .int .i64 0]) rfl F S rfl rfl ?_; clear F a S; rintro b3 a w F S
 refine wpList_nil ?_
 replace F := F.sub (e' := [(3, bp b3 0), (2, bp b2 0), (1, bp b1 0)]) ⟨rfl, rfl, rfl, trivial⟩
 refine then_n ?_
 refine wp_seq ?_
 refine wp_seq ?_
 refine wp_region_lit ?_
 refine wl_ev (wn rfl) (ev_loadA tu38 rfl (cs := [vp_1]) ts38 rfl (box_ptr (cells := [vp_1]) 2 rfl 0 rfl (lb rfl))) F S rfl rfl ?_; clear F a; intro a F
 obtain ⟨y1, hy1, hm⟩ := bind_some hm
 refine wl_call (wn rfl) rfl (xs := [.tmp 4]) (vs := [.agg #[vp_1]]) (cap := []) F rfl rfl tc37 (textpatch_Validate_ok (g := g) (fr := (fl [[(b3, .cells #[.int .i64 0, .int .i64 0] 24 (0, 0))], [(b2, .cells #[nilS] 38 (0, 0))], [(b1, .cells #[vp_1] 38 (0, 0))]] fr)) (w := w) p_ vp_1 hp_1 S hy1) rfl rfl ?_; clear F a S
 rintro _ a w ⟨g1, l1, S, rfl⟩ F; replace S : St g1 [[(b3, .cells #[.int .i64 0, .int .i64 0] 24 (0, 0))], [(b2, .cells #[nilS] 38 (0, 0))], [(b1, .cells #[vp_1] 38 (0, 0))]] fr w := S
 refine wl_ev (wn rfl) (ev_build (parts := []) (vs := []) rfl (fun w => tb24_  w)) F S rfl rfl ?_; clear F a; intro a F
 refine wl_ev (wn rfl) (ev_neS tu24 tqa24 tqb24 tqc24 (xs := [.int .i64 y1.Code, .int .i64 y1.Index]) (ys := [.int .i64 0, .int .i64 0]) rfl rfl ⟨_, _, rfl, by decide, ⟨_, _, rfl, rfl, leaf_int tu3⟩, ⟨_, _, rfl, by decide, ⟨_, _, rfl, rfl, leaf_int tu3⟩, rfl⟩⟩) F S rfl rfl ?_; clear F a; intro a F
 refine wpList_nil ?_
 replace F := F.sub (e' := [(7, .bool (!(decide (y1.Code = 0) && decide (y1.Index = 0)))), (3, bp b3 0), (2, bp b2 0), (1, bp b1 0)]) ⟨rfl, rfl, rfl, rfl, trivial⟩
 refine then_n ?_
 obtain ⟨hc1, hm⟩ | ⟨hc1, hm⟩ := ite_or hm
 ·refine wp_condT F rfl hc1 ?_
  refine wp_seq ?_
  refine wp_region_lit ?_
  refine wl_ev (wn rfl) (ev_build (parts := []) (vs := []) rfl (fun w => tb38_  w)) F S rfl rfl ?_; clear F a; intro a F
  refine wl_ev (wn rfl) (ev_build (parts := [(0, .const (.int .i64 10)), (1, .const (.int .i64 (-1)))]) (vs := [(0, .int .i64 10), (1, .int .i64 (-1))]) rfl (fun w => tb24_0_1 10 (-1) w)) F S rfl rfl ?_; clear F a; intro a F
  refine wl_storeC (wn rfl) rfl F S rfl rfl (vs := [nilS]) rfl ts38 (one_cons rfl one_nil) (k := 1) rfl (lb rfl) (c' := #[nilS]) rfl rfl ?_; clear S; intro w S
  replace S : St g1 [[(b3, .cells #[.int .i64 0, .int .i64 0] 24 (0, 0))], [(b2, .cells #[nilS] 38 (0, 0))], [(b1, .cells #[vp_1] 38 (0, 0))]] fr w := S
  refine wl_storeC (wn rfl) rfl F S rfl rfl (vs := [.int .i64 10, .int .i64 (-1)]) rfl ts24 (one_cons rfl (one_cons rfl one_nil)) (k := 0) rfl (lb rfl) (c' := #[.int .i64 10, .int .i64 (-1)]) rfl rfl ?_; clear S; intro w S
  replace S : St g1 [[(b3, .cells #[.int .i64 10, .int .i64 (-1)] 24 (0, 0))], [(b2, .cells #[nilS] 38 (0, 0))], [(b1, .cells #[vp_1] 38 (0, 0))]] fr w := S
  refine wpList_nil ?_
  replace F := F.sub (e' := [(3, bp b3 0), (2, bp b2 0)]) ⟨rfl, rfl, trivial⟩
  refine then_n ?_
  refine wp_ret ?_
  refine then_r ?_
  obtain rfl := sinj hm
  refine post_r (fn := Try.f35) (rs := [.cell 2 38, .cell 3 24]) [.agg #[nilS], .agg #[.int .i64 10, .int .i64 (-1)]] F rfl (ar_cons (resA rfl tu38 rfl ts38 (box_ptr (cells := [nilS]) 1 rfl 0 rfl (lb rfl) w S)) (ar_cons (resA rfl tu24 rfl ts24 (box_ptr (cells := [.int .i64 10, .int .i64 (-1)]) 0 rfl 0 rfl (lb rfl) w S)) ar_nil)) ?_
  replace S : St g1 [] fr w := St.tail [] _ S
  exact ⟨_, rfl, g1, (nilS), l1, S, (RepSl.nil _), rfl⟩
 ·refine wp_condF F rfl hc1 ?_
  refine wp_skip ?_
  refine then_n ?_
  refine wp_seq ?_
  refine wp_region_lit ?_
  refine wl_ev (wn rfl) (ev_loadA tu38 rfl (cs := [vp_1]) ts38 rfl (box_ptr (cells := [vp_1]) 2 rfl 0 rfl (lb rfl))) F S rfl rfl ?_; clear F a; intro a F
  refine wl_ev (wn rfl) (ev_build (parts := []) (vs := []) rfl (fun w => tb24_  w)) F S rfl rfl ?_; clear F a; intro a F
  refine wl_storeC (wn rfl) rfl F S rfl rfl (vs := [vp_1]) rfl ts38 (one_cons hp_1.one one_nil) (k := 1) rfl (lb rfl) (c' := #[vp_1]) rfl rfl ?_; clear S; intro w S
  replace S : St g1 [[(b3, .cells #[.int .i64 0, .int .i64 0] 24 (0, 0))], [(b2, .cells #[vp_1] 38 (0, 0))], [(b1, .cells #[vp_1] 38 (0, 0))]] fr w := S
  refine wl_storeC (wn rfl) rfl F S rfl rfl (vs := [.int .i64 0, .int .i64 0]) rfl ts24 (one_cons rfl (one_cons rfl one_nil)) (k := 0) rfl (lb rfl) (c' := #[.int .i64 0, .int .i64 0]) rfl rfl ?_; clear S; intro w S
  replace S : St g1 [[(b3, .cells #[.int .i64 0, .int .i64 0] 24 (0, 0))], [(b2, .cells #[vp_1] 38 (0, 0))], [(b1, .cells #[vp_1] 38 (0, 0))]] fr w := S
  refine wpList_nil ?_
  replace F := F.sub (e' := [(3, bp b3 0), (2, bp b2 0)]) ⟨rfl, rfl, trivial⟩
  refine then_n ?_
  refine wp_ret ?_
  obtain rfl := sinj hm
  refine post_r (fn := Try.f35) (rs := [.cell 2 38, .cell 3 24]) [.agg #[vp_1], .agg #[.int .i64 0, .int .i64 0]] F rfl (ar_cons (resA rfl tu38 rfl ts38 (box_ptr (cells := [vp_1]) 1 rfl 0 rfl (lb rfl) w S)) (ar_cons (resA rfl tu24 rfl ts24 (box_ptr (cells := [.int .i64 0, .int .i64 0]) 0 rfl 0 rfl (lb rfl) w S)) ar_nil)) ?_
  replace S : St g1 [] fr w := St.tail [] _ S
  exact ⟨_, rfl, g1, vp_1, l1, S, (hp_1.mono l1), rfl⟩

theorem slices_Clone_ok {g : Gh} {fr : Hl} {w : World} {r : (List ByteArray)} (s_ : (List ByteArray)) (vs_1 : Value) (hs_1 : RepSl g s_ vs_1) (S : St g [] fr w) (hm : slices_Clone s_ = some r) :
  Calls Try.prog 66 [vs_1].toArray w (fun en w' => ∃ v, en = .returned v ∧ ∃ (g' : Gh) (v1 : Value) (c1 : Hl), Le g g' ∧ St g' [c1] fr w' ∧ OwnS g' r v1 c1 ∧ v1 = v) := by
 unfold slices_Clone at hm
 refine calls_enter (fn := Try.f66) Try.func66 rfl Try.ntmps66 (lb rfl) ?_
 intro a F
 replace F : Fr 8 a [(0, vs_1)] := F
 refine wp_seq ?_
 refine wp_region_lit ?_
 refine wl_ev (wn rfl) (ev_assign rfl) F S rfl rfl ?_; clear F a; intro a F
 refine wpList_nil ?_
 replace F := F.sub (e' := [(0, vs_1)]) ⟨rfl, trivial⟩
 refine then_n ?_
 refine wp_seq ?_
 refine wp_seq ?_
 refine wp_region_lit ?_
 refine wl_ev (wn rfl) (ev_move rfl) F S rfl rfl ?_; clear F a; intro a F
 obtain ⟨nb1, hnb1, he1⟩ := ev_nileqlS (P := Try.prog) (n := 8) (e := [(3, vs_1), (0, vs_1)]) (C := fun w => St g [] fr w) (x := .tmp 3) (y := .const (nilS)) hs_1 tu31 rfl rfl
 refine wl_ev (wn rfl) he1 F S rfl rfl ?_; clear F a; intro a F
 refine wpList_nil ?_
 replace F := F.sub (e' := [(4, .bool nb1), (0, vs_1)]) ⟨rfl, rfl, trivial⟩
 refine then_n ?_
 obtain ⟨hc1, hm⟩ | ⟨hc1, hm⟩ := nil_or hnb1 hm
 ·refine wp_condT F rfl hc1 ?_
  refine wp_seq ?_
  refine wp_region_lit ?_
  refine wl_ev (wn rfl) (ev_assign rfl) F S rfl rfl ?_; clear F a; intro a F
  refine wpList_nil ?_
  replace F := F.sub (e' := [(2, nilS)]) ⟨rfl, trivial⟩
  refine then_n ?_
  refine wp_ret ?_
  refine then_r ?_
  obtain rfl := sinj hm
  replace S : St g [[]] fr w := S
  refine post_r (fn := Try.f66) (rs := [.tmp 2]) [nilS] F rfl (ar_cons (resT rfl) ar_nil) ?_
  exact ⟨_, rfl, g, (nilS), [], (Le.refl _), S, (OwnS.nil _), rfl⟩
 ·refine wp_condF F rfl hc1 ?_
  refine wp_skip ?_
  refine then_n ?_
  refine wp_seq ?_
  refine wp_region_lit ?_
  refine wl_lit (l := ([] : List ByteArray)) (vs := []) (parts := []) (wn rfl) rfl rfl rfl tu31 te9 sz_nil rfl (Cat.nil _) coa_nil rfl F S rfl rfl ?_; clear F a S
  rintro v1 c1 a w h1 F S
  refine wl_ev (wn rfl) (ev_move rfl) F S rfl rfl ?_; clear F a; intro a F
  obtain ⟨cs1, hk1, hr1⟩ := RepSl.reads hs_1
  obtain ⟨y1, hy1, hm⟩ := bind_some hm
  refine wl_append (wn rfl) rfl tu31 tu31 te9 (by decide) (by decide) F S rfl rfl (k := 0) rfl h1 hk1 rfl (hr1 _ _ S) hy1 rfl rfl ?_; clear F a S
  rintro v2 c2 a w h2 S F; replace S : St g [c2] fr w := S
  refine wl_ev (wn rfl) (ev_assign rfl) F S rfl rfl ?_; clear F a; intro a F
  refine wpList_nil ?_
  replace F := F.sub (e' := [(2, v2)]) ⟨rfl, trivial⟩
  refine then_n ?_
  refine wp_ret ?_
  obtain rfl := sinj hm
  refine post_r (fn := Try.f66) (rs := [.tmp 2]) [v2] F rfl (ar_cons (resT rfl) ar_nil) ?_
  exact ⟨_, rfl, g, v2, c2, (Le.refl _), S, h2, rfl⟩

theorem textpatch_Copy_ok {g : Gh} {fr : Hl} {w : World} {r : Patch} (p_ : Patch) (vp_1 : Value) (hp_1 : RepSl g p_.Hunks vp_1) (S : St g [] fr w) (hm : textpatch_Copy p_ = some r) :
  Calls Try.prog 52 [.agg #[vp_1]].toArray w (fun en w' => ∃ v, en = .returned v ∧ ∃ (g' : Gh) (v1 : Value) (c1 : Hl), Le g g' ∧ St g' [c1] fr w' ∧ OwnS g' r.Hunks v1 c1 ∧ .agg #[v1] = v) := by
 unfold textpatch_Copy at hm
 refine calls_enter (fn := Try.f52) Try.func52 rfl Try.ntmps52 (lb rfl) ?_
 intro a F
 replace F : Fr 29 a [(0, .agg #[vp_1])] := F
 refine wp_seq ?_
 refine wp_region_lit ?_
 refine wl_boxC (wn rfl) rfl rfl rfl F S rfl rfl ?_; clear F a S; rintro b1 a w F S
 refine wl_alloc (wn rfl) rfl tz38 (cs := [nilS]) rfl F S rfl rfl ?_; clear F a S; rintro b2 a w F S
 refine wpList_nil ?_
 replace F := F.sub (e' := [(2, bp b2 0), (1, bp b1 0)]) ⟨rfl, rfl, trivial⟩
 refine then_n ?_
 refine wp_seq ?_
 refine wp_region_lit ?_
 refine wl_alloc (wn rfl) rfl tz38 (cs := [nilS]) rfl F S rfl rfl ?_; clear F a S; rintro b3 a w F S
 refine wpList_nil ?_
 refine then_n ?_
 refine wp_cut (fun a w => ∃ (x1 : List Hunk) (v1 : Value) (c1 : Hl) (g1 : Gh), Fr 29 a [(3, bp b3 0), (2, bp b2 0)] ∧ Le g g1 ∧ St g1 [[(b3, .cells #[v1] 38 (0, 0))], [(b2, .cells #[nilS] 38 (0, 0))], c1] fr w ∧ OwnS g1 x1 v1 c1 ∧ textpatch_Copy.j1 x1 = some r) ?_ ?_
 ·refine wp_seq ?_
  refine wp_region_lit ?_
  refine wl_ev (wn rfl) (ev_fieldAddr' tu38 tf38_0 (z := 0) ts36 rfl ⟨_, rfl⟩ rfl) F S rfl rfl ?_; clear F a; intro a F
  refine wl_ev (wn rfl) (ev_load1 tu36 rfl rfl (box_ptr (cells := [vp_1]) 2 rfl 0 rfl (lb rfl))) F S rfl rfl ?_; clear F a; intro a F
  refine wl_ev (wn rfl) (ev_lenSh hp_1 rfl tu36) F S rfl rfl ?_; clear F a; intro a F
  refine wl_ev (wn rfl) (ev_move rfl) F S rfl rfl ?_; clear F a; intro a F
  refine wpList_nil ?_
  replace F := F.sub (e' := [(9, .int .i64 0), (8, .int .i64 (p_.Hunks.length : Int)), (7, vp_1), (3, bp b3 0), (2, bp b2 0)]) ⟨rfl, rfl, rfl, rfl, rfl, trivial⟩
  refine then_n ?_
  refine wp_block ?_
  obtain ⟨r1, hr1, hm⟩ := bind_some hm
  have hmo1 := hm; clear hm
  refine wp_iter (σ := Int × (List Hunk)) (ρ := (List Hunk)) (m := fun s => textpatch_Copy.l1 p_ s.1 s.2) (I := fun s a w => match s with | (x2, x3) => ∃ (v2 : Value) (c2 : Hl) (g2 : Gh), Fr 29 a [(9, .int .i64 x2), (8, .int .i64 (p_.Hunks.length : Int)), (7, vp_1), (3, bp b3 0), (2, bp b2 0)] ∧ Le g g2 ∧ St g2 [[(b3, .cells #[v2] 38 (0, 0))], [(b2, .cells #[nilS] 38 (0, 0))], c2] fr w ∧ OwnS g2 x3 v2 c2) hr1 ?_ ?_
  ·dsimp only
   replace S : St g [[], [(b3, .cells #[nilS] 38 (0, 0))], [(b2, .cells #[nilS] 38 (0, 0))], [(b1, .cells #[vp_1] 38 (0, 0))]] fr w := S
   replace S : St g [[(b3, .cells #[nilS] 38 (0, 0))], [(b2, .cells #[nilS] 38 (0, 0))], []] fr w := St.tail [[(b3, .cells #[nilS] 38 (0, 0))], [(b2, .cells #[nilS] 38 (0, 0))], []] _ (((S.frontC 0 rfl).frontC 3 rfl).frontC 3 rfl)
   exact ⟨(nilS), [], g, F.sub ⟨rfl, rfl, rfl, rfl, rfl, trivial⟩, (Le.refl _), S, (OwnS.nil _)⟩
  ·clear F S; rintro ⟨x2, x3⟩ a w x4 ⟨v2, c2, g2, F, l2, S, h2⟩ hx1 hfin1
   have hm : textpatch_Copy.l1 p_ x2 x3 = some x4 := hx1; clear hx1
   unfold textpatch_Copy.l1 at hm
   refine wp_seq ?_
   refine wp_region_lit ?_
   refine wl_ev (wn rfl) (ev_int rfl rfl (bo_lss _ _ _ _)) F S rfl rfl ?_; clear F a; intro a F
   refine wpList_nil ?_
   refine then_n ?_
   refine wp_seq ?_
   obtain ⟨hc1, hm⟩ | ⟨hc1, hm⟩ := ite_or hm
   ·refine wp_condT F rfl hc1 ?_
    refine wp_skip ?_
    refine then_n ?_
    refine wp_seq ?_
    refine wp_block ?_
    refine wp_seq ?_
    refine wp_region_lit ?_
    obtain ⟨y1, hy1, hm⟩ := bind_some hm
    obtain ⟨cs1, hr2, hp1⟩ := elemS (hp_1.mono l2) hy1
    obtain ⟨v3, v4, rfl, h3, h4⟩ := rep_Hunk hr2
    refine wl_ev (wn rfl) (ev_idxS (hp_1.mono l2) hy1 tu36 ts60 rfl rfl) F S rfl rfl ?_; clear F a; intro a F
    refine wl_ev (wn rfl) (ev_loadA tu60 rfl (cs := [.int .i64 y1.At, v3, v4]) ts60 rfl (ptr_mono (cks := [[(b3, .cells #[v2] 38 (0, 0))], [(b2, .cells #[nilS] 38 (0, 0))], c2]) (fr := fr) hp1 (Le.refl _))) F S rfl rfl ?_; clear F a; intro a F
    refine wl_alloc (wn rfl) rfl tz60 (cs := [.int .i64 0, nilS, nilS]) rfl F S rfl rfl ?_; clear F a S; rintro b4 a w F S
    refine wl_storeC (wn rfl) rfl F S rfl rfl (vs := [.int .i64 y1.At, v3, v4]) rfl ts60 (one_cons rfl (one_cons h3.one (one_cons h4.one one_nil))) (k := 0) rfl (lb rfl) (c' := #[.int .i64 y1.At, v3, v4]) rfl rfl ?_; clear S; intro w S
    replace S : St g2 [[(b4, .cells #[.int .i64 y1.At, v3, v4] 60 (0, 0))], [(b3, .cells #[v2] 38 (0, 0))], [(b2, .cells #[nilS] 38 (0, 0))], c2] fr w := S
    refine wpList_nil ?_
    replace F := F.sub (e' := [(5, bp b4 0), (9, .int .i64 x2), (8, .int .i64 (p_.Hunks.length : Int)), (7, vp_1), (3, bp b3 0), (2, bp b2 0)]) ⟨rfl, rfl, rfl, rfl, rfl, rfl, trivial⟩
    refine then_n ?_
    obtain ⟨y2, hy2, hm⟩ := bind_some hm
    obtain ⟨y3, hy3, hm⟩ := bind_some hm
    obtain ⟨y4, hy4, hm⟩ := bind_some hm
    refine wp_drawL ⟨4, [[13], [14], [15], [16], [17], [18], [19], [20], [21], [22], [23, 19, 22], [24], [25], [26], [25]], [[], [], [], [], [], [], [], [], [], [], [], [6, 9], [18], [], [16]], [[], [16], [], [15], [], [15], [], [], [15], [], [], [], [11], [], []], [[3], [], [5], [], [5], [], [], [5], [], [], [], [], [], [3], []], [[], [0], [], [2], [], [4], [5], [], [7], [8], [3, 6, 9], [6, 9, 10], [1, 11], [], [12, 13]], [9, 8, 7, 3, 2], [0, 1, 2, 3, 4, 5, 7, 8, 10, 11, 12, 13, 14, 15, 17]⟩
     [([13], fun us g c => us = [bp b3 0]),
      ([14], fun us g c => us = [v2]),
      ([15], fun us g c => us = [bp b4 0]),
      ([16], fun us g c => us = [.int .i64 y1.At]),
      ([17], fun us g c => us = [bp b4 1]),
      ([18], fun us g c => us = [v3]),
      ([19], fun us g c => ∃ v5 : Value, us = [v5] ∧ OwnS g y2 v5 c),
      ([20], fun us g c => us = [bp b4 2]),
      ([21], fun us g c => us = [v4]),
      ([22], fun us g c => ∃ v6 : Value, us = [v6] ∧ OwnS g y3 v6 c),
      ([23, 19, 22], fun us g c => ∃ v5 : Value, ∃ v6 : Value, us = [.agg #[.int .i64 y1.At, v5, v6], v5, v6]),
      ([24], fun us g c => ∃ v7 : Value, us = [v7] ∧ OwnS g ([({ At := y1.At, Old := y2, New := y3 } : Hunk)] : List Hunk) v7 c),
      ([25], fun us g c => ∃ v8 : Value, us = [v8] ∧ OwnS g y4 v8 c),
      ([26], fun us g c => us = [bp b3 0]),
      ([25], fun us g c => ∃ v8 : Value, us = [v8] ∧ c = [(b3, .cells #[v8] 38 (0, 0))])]
     mo (by kernel_rfl) rfl rfl ⟨fun _ _ _ _ _ h => h, fun _ _ _ _ _ h => h, fun _ _ _ _ _ h => h, fun _ _ _ _ _ h => h, fun _ _ _ _ _ h => h, fun _ _ _ _ _ h => h, fun _ _ _ _ l ⟨x0, e0, h0⟩ => ⟨x0, e0, h0.mono l⟩, fun _ _ _ _ _ h => h, fun _ _ _ _ _ h => h, fun _ _ _ _ l ⟨x0, e0, h0⟩ => ⟨x0, e0, h0.mono l⟩, fun _ _ _ _ _ h => h, fun _ _ _ _ l ⟨x0, e0, h0⟩ => ⟨x0, e0, h0.mono l⟩, fun _ _ _ _ l ⟨x0, e0, h0⟩ => ⟨x0, e0, h0.mono l⟩, fun _ _ _ _ _ h => h, fun _ _ _ _ _ h => h, trivial⟩ F S ⟨?_, ?_, ?_, ?_, ?_, ?_, ?_, ?_, ?_, ?_, ?_, ?_, ?_, ?_, ?_, trivial⟩ ?_
    ·intro a w gd1 c fr hsz hdf hK ld1 hN hI S
     have F : Fr 29 a [(3, bp b3 0)] := Fr.of hsz hdf ⟨hK 3 (by decide) _ rfl, trivial⟩
     replace S : St gd1 [] fr w := S.of_eq (flat2 _ _ _ _)
     refine wl_ev (wn rfl) (ev_fieldAddr' tu38 tf38_0 (z := 0) ts36 rfl ⟨_, rfl⟩ rfl) F S rfl rfl ?_; clear F; intro a F
     refine wpList_nil ⟨rfl, F.sz, F.df, _, [], (Le.refl _), ?_, (lst1 (F.get 13 _ rfl))⟩
     refine St0.of_eq ?_ (flat3 c [] [] fr).symm
     show St0 _ (fl ([] ++ []) fr) _
     exact S
    ·intro a w gd1 c fr hsz hdf hK ld1 hN hI S
     have e0 := hN 0 (by decide)
     have e13x : val a 13 = bp b3 0 := nth e0 0
     have F : Fr 29 a [(13, bp b3 0)] := Fr.of hsz hdf ⟨e13x, trivial⟩
     replace S : St gd1 [c 16] fr w := S.of_eq (flat2 _ _ _ _)
     have q16 : c 16 = [(b3, .cells #[v2] 38 (0, 0))] := hI 1 _ rfl
     rw [q16] at S
     refine wl_ev (wn rfl) (ev_load1 tu36 rfl rfl (box_ptr (cells := [v2]) 0 rfl 0 rfl (lb rfl))) F S rfl rfl ?_; clear F; intro a F
     refine wpList_nil ⟨rfl, F.sz, F.df, _, [], (Le.refl _), ?_, (lst1 (F.get 14 _ rfl))⟩
     refine St0.of_eq ?_ (flat3 c [] [16] fr).symm
     show St0 _ (fl ([] ++ [c 16]) fr) _
     rw [q16]
     exact S
    ·intro a w gd1 c fr hsz hdf hK ld1 hN hI S
     have F : Fr 29 a [(5, bp b4 0)] := Fr.of hsz hdf ⟨hK 5 (by decide) _ rfl, trivial⟩
     replace S : St gd1 [] fr w := S.of_eq (flat2 _ _ _ _)
     refine wl_ev (wn rfl) (ev_fieldAddr' tu60 tf60_0 (z := 0) ts3 rfl ⟨_, rfl⟩ rfl) F S rfl rfl ?_; clear F; intro a F
     refine wpList_nil ⟨rfl, F.sz, F.df, _, [], (Le.refl _), ?_, (lst1 (F.get 15 _ rfl))⟩
     refine St0.of_eq ?_ (flat3 c [] [] fr).symm
     show St0 _ (fl ([] ++ []) fr) _
     exact S
    ·intro a w gd1 c fr hsz hdf hK ld1 hN hI S
     have e2 := hN 2 (by decide)
     have e15x : val a 15 = bp b4 0 := nth e2 0
     have F : Fr 29 a [(15, bp b4 0)] := Fr.of hsz hdf ⟨e15x, trivial⟩
     replace S : St gd1 [c 15] fr w := S.of_eq (flat2 _ _ _ _)
     have q15 : c 15 = [(b4, .cells #[.int .i64 y1.At, v3, v4] 60 (0, 0))] := hI 0 _ rfl
     rw [q15] at S
     refine wl_ev (wn rfl) (ev_load1 tu3 rfl rfl (box_ptr (cells := [.int .i64 y1.At]) 0 rfl 0 rfl (lb rfl))) F S rfl rfl ?_; clear F; intro a F
     refine wpList_nil ⟨rfl, F.sz, F.df, _, [], (Le.refl _), ?_, (lst1 (F.get 16 _ rfl))⟩
     refine St0.of_eq ?_ (flat3 c [] [15] fr).symm
     show St0 _ (fl ([] ++ [c 15]) fr) _
     rw [q15]
     exact S
    ·intro a w gd1 c fr hsz hdf hK ld1 hN hI S
     have F : Fr 29 a [(5, bp b4 0)] := Fr.of hsz hdf ⟨hK 5 (by decide) _ rfl, trivial⟩
     replace S : St gd1 [] fr w := S.of_eq (flat2 _ _ _ _)
     refine wl_ev (wn rfl) (ev_fieldAddr' tu60 tf60_1 (z := 0) ts31 rfl ⟨_, rfl⟩ rfl) F S rfl rfl ?_; clear F; intro a F
     refine wpList_nil ⟨rfl, F.sz, F.df, _, [], (Le.refl _), ?_, (lst1 (F.get 17 _ rfl))⟩
     refine St0.of_eq ?_ (flat3 c [] [] fr).symm
     show St0 _ (fl ([] ++ []) fr) _
     exact S
    ·intro a w gd1 c fr hsz hdf hK ld1 hN hI S
     have e4 := hN 4 (by decide)
     have e17x : val a 17 = bp b4 1 := nth e4 0
     have F : Fr 29 a [(17, bp b4 1)] := Fr.of hsz hdf ⟨e17x, trivial⟩
     replace S : St gd1 [c 15] fr w := S.of_eq (flat2 _ _ _ _)
     have q15 : c 15 = [(b4, .cells #[.int .i64 y1.At, v3, v4] 60 (0, 0))] := hI 0 _ rfl
     rw [q15] at S
     refine wl_ev (wn rfl) (ev_load1 tu31 rfl rfl (box_ptr (cells := [v3]) 0 rfl 1 rfl (lb rfl))) F S rfl rfl ?_; clear F; intro a F
     refine wpList_nil ⟨rfl, F.sz, F.df, _, [], (Le.refl _), ?_, (lst1 (F.get 18 _ rfl))⟩
     refine St0.of_eq ?_ (flat3 c [] [15] fr).symm
     show St0 _ (fl ([] ++ [c 15]) fr) _
     rw [q15]
     exact S
    ·intro a w gd1 c fr hsz hdf hK ld1 hN hI S
     have e5 := hN 5 (by decide)
     have e18x : val a 18 = v3 := nth e5 0
     have F : Fr 29 a [(18, v3)] := Fr.of hsz hdf ⟨e18x, trivial⟩
     replace S : St gd1 [] fr w := S.of_eq (flat2 _ _ _ _)
     refine wl_call (wn rfl) rfl (xs := [.tmp 18]) (vs := [v3]) (cap := []) F rfl rfl tc66 (slices_Clone_ok (g := gd1) (fr := fr) (w := w) y1.Old v3 (h3.mono ld1) S hy2) rfl rfl ?_; clear F S
     rintro _ a w ⟨g3, v5, c3, l3, S, h5, rfl⟩ F; replace S : St g3 [c3] fr w := S
     refine wpList_nil ⟨rfl, F.sz, F.df, _, c3, l3, ?_, ⟨v5, (lst1 (F.get 19 _ rfl)), h5⟩⟩
     refine St0.of_eq ?_ (flat3s c (c3) [] fr).symm
     show St0 _ (fl ([c3] ++ []) fr) _
     exact S
    ·intro a w gd1 c fr hsz hdf hK ld1 hN hI S
     have F : Fr 29 a [(5, bp b4 0)] := Fr.of hsz hdf ⟨hK 5 (by decide) _ rfl, trivial⟩
     replace S : St gd1 [] fr w := S.of_eq (flat2 _ _ _ _)
     refine wl_ev (wn rfl) (ev_fieldAddr' tu60 tf60_2 (z := 0) ts31 rfl ⟨_, rfl⟩ rfl) F S rfl rfl ?_; clear F; intro a F
     refine wpList_nil ⟨rfl, F.sz, F.df, _, [], (Le.refl _), ?_, (lst1 (F.get 20 _ rfl))⟩
     refine St0.of_eq ?_ (flat3 c [] [] fr).symm
     show St0 _ (fl ([] ++ []) fr) _
     exact S
    ·intro a w gd1 c fr hsz hdf hK ld1 hN hI S
     have e7 := hN 7 (by decide)
     have e20x : val a 20 = bp b4 2 := nth e7 0
     have F : Fr 29 a [(20, bp b4 2)] := Fr.of hsz hdf ⟨e20x, trivial⟩
     replace S : St gd1 [c 15] fr w := S.of_eq (flat2 _ _ _ _)
     have q15 : c 15 = [(b4, .cells #[.int .i64 y1.At, v3, v4] 60 (0, 0))] := hI 0 _ rfl
     rw [q15] at S
     refine wl_ev (wn rfl) (ev_load1 tu31 rfl rfl (box_ptr (cells := [v4]) 0 rfl 2 rfl (lb rfl))) F S rfl rfl ?_; clear F; intro a F
     refine wpList_nil ⟨rfl, F.sz, F.df, _, [], (Le.refl _), ?_, (lst1 (F.get 21 _ rfl))⟩
     refine St0.of_eq ?_ (flat3 c [] [15] fr).symm
     show St0 _ (fl ([] ++ [c 15]) fr) _
     rw [q15]
     exact S
    ·intro a w gd1 c fr hsz hdf hK ld1 hN hI S
     have e8 := hN 8 (by decide)
     have e21x : val a 21 = v4 := nth e8 0
     have F : Fr 29 a [(21, v4)] := Fr.of hsz hdf ⟨e21x, trivial⟩
     replace S : St gd1 [] fr w := S.of_eq (flat2 _ _ _ _)
     refine wl_call (wn rfl) rfl (xs := [.tmp 21]) (vs := [v4]) (cap := []) F rfl rfl tc66 (slices_Clone_ok (g := gd1) (fr := fr) (w := w) y1.New v4 (h4.mono ld1) S hy3) rfl rfl ?_; clear F S
     rintro _ a w ⟨g4, v6, c4, l4, S, h6, rfl⟩ F; replace S : St g4 [c4] fr w := S
     refine wpList_nil ⟨rfl, F.sz, F.df, _, c4, l4, ?_, ⟨v6, (lst1 (F.get 22 _ rfl)), h6⟩⟩
     refine St0.of_eq ?_ (flat3s c (c4) [] fr).symm
     show St0 _ (fl ([c4] ++ []) fr) _
     exact S
    ·intro a w gd1 c fr hsz hdf hK ld1 hN hI S
     have e3 := hN 3 (by decide)
     have e16x : val a 16 = .int .i64 y1.At := nth e3 0
     obtain ⟨v5, e6, lh1⟩ := hN 6 (by decide)
     have e19x : val a 19 = v5 := nth e6 0
     obtain ⟨v6, e9, lh2⟩ := hN 9 (by decide)
     have e22x : val a 22 = v6 := nth e9 0
     have F : Fr 29 a [(16, .int .i64 y1.At), (19, v5), (22, v6)] := Fr.of hsz hdf ⟨e16x, e19x, e22x, trivial⟩
     replace S : St gd1 [] fr w := S.of_eq (flat2 _ _ _ _)
     refine wl_ev (wn rfl) (ev_build (parts := [(0, .tmp 16), (1, .tmp 19), (2, .tmp 22)]) (vs := [(0, .int .i64 y1.At), (1, v5), (2, v6)]) rfl (fun w => tb60_0_1_2 y1.At v5 (OwnS.isSl lh1) v6 (OwnS.isSl lh2) w)) F S rfl rfl ?_; clear F; intro a F
     refine wpList_nil ⟨rfl, F.sz, F.df, _, [], (Le.refl _), ?_, ⟨v5, v6, (lst3 (F.get 23 _ rfl) (F.get 19 _ rfl) (F.get 22 _ rfl))⟩⟩
     refine St0.of_eq ?_ (flat3 c [] [] fr).symm
     show St0 _ (fl ([] ++ []) fr) _
     exact S
    ·intro a w gd1 c fr hsz hdf hK ld1 hN hI S
     obtain ⟨v5, e6, lh1⟩ := hN 6 (by decide)
     have e19x : val a 19 = v5 := nth e6 0
     obtain ⟨v6, e9, lh2⟩ := hN 9 (by decide)
     have e22x : val a 22 = v6 := nth e9 0
     obtain ⟨dup1, dup2, e10⟩ := hN 10 (by decide)
     obtain rfl : v5 = dup1 := by have hq := e19x.symm.trans (nth e10 1); simp at hq; first | exact hq | exact hq.1 | exact hq.2 | exact hq.2.1 | exact hq.2.2
     obtain rfl : v6 = dup2 := by have hq := e22x.symm.trans (nth e10 2); simp at hq; first | exact hq | exact hq.1 | exact hq.2 | exact hq.2.1 | exact hq.2.2
     have e23x : val a 23 = .agg #[.int .i64 y1.At, v5, v6] := nth e10 0
     have F : Fr 29 a [(19, v5), (22, v6), (23, .agg #[.int .i64 y1.At, v5, v6])] := Fr.of hsz hdf ⟨e19x, e22x, e23x, trivial⟩
     replace S : St gd1 [c 6, c 9] fr w := S.of_eq (flat2 _ _ _ _)
     obtain ⟨g5, l5, S, h7⟩ : ∃ gz, Le gd1 gz ∧ St gz [(c 9)] fr w ∧ RepSl gz y2 v5 := ⟨_, Le.add _ _, S.freeze 0 rfl, OwnS.freeze (S.front 0 rfl) lh1⟩
     obtain ⟨g6, l6, S, h8⟩ : ∃ gz, Le g5 gz ∧ St gz [] fr w ∧ RepSl gz y3 v6 := ⟨_, Le.add _ _, S.freeze 0 rfl, OwnS.freeze (S.front 0 rfl) (lh2.mono l5)⟩
     refine wl_lit (l := ([({ At := y1.At, Old := y2, New := y3 } : Hunk)] : List Hunk)) (vs := [.agg #[.int .i64 y1.At, v5, v6]]) (parts := [(0, .tmp 23)]) (wn rfl) rfl rfl rfl tu36 te60 (sz_cons rfl sz_nil) rfl (Cat.cons (rep_Hunk_mk (x := ({ At := y1.At, Old := y2, New := y3 } : Hunk)) (h7.mono l6) h8) (Cat.nil _)) (coa_cons rfl coa_nil) rfl F S rfl rfl ?_; clear F S
     rintro v7 c5 a w h9 F S
     refine wpList_nil ⟨rfl, F.sz, F.df, _, c5, (l5.trans l6), ?_, ⟨v7, (lst1 (F.get 24 _ rfl)), h9⟩⟩
     refine St0.of_eq ?_ (flat3s c (c5) [] fr).symm
     show St0 _ (fl ([c5] ++ []) fr) _
     exact S
    ·intro a w gd1 c fr hsz hdf hK ld1 hN hI S
     have e1 := hN 1 (by decide)
     have e14x : val a 14 = v2 := nth e1 0
     obtain ⟨v7, e11, lh1⟩ := hN 11 (by decide)
     have e24x : val a 24 = v7 := nth e11 0
     have F : Fr 29 a [(14, v2), (24, v7)] := Fr.of hsz hdf ⟨e14x, e24x, trivial⟩
     replace S : St gd1 [c 18, c 11] fr w := S.of_eq (flat2 _ _ _ _)
     have q18 : c 18 = c2 := hI 3 _ rfl
     rw [q18] at S
     obtain ⟨cs2, hk1, hr3⟩ := OwnS.reads lh1
     refine wl_append (wn rfl) rfl tu36 tu36 te60 (by decide) (by decide) F S rfl rfl (k := 0) rfl (h2.mono ld1) hk1 rfl (hr3 _ _ _ 1 rfl S) hy4 rfl rfl ?_; clear F S
     rintro v8 c6 a w h10 S F; replace S : St gd1 [c6, (c 11)] fr w := S
     refine wpList_nil ⟨rfl, F.sz, F.df, _, c6, (Le.refl _), ?_, ⟨v8, (lst1 (F.get 25 _ rfl)), h10⟩⟩
     refine St0.of_eq ?_ (flat3s c (c6) [11] fr).symm
     show St0 _ (fl ([c6] ++ [c 11]) fr) _
     exact S
    ·intro a w gd1 c fr hsz hdf hK ld1 hN hI S
     have F : Fr 29 a [(3, bp b3 0)] := Fr.of hsz hdf ⟨hK 3 (by decide) _ rfl, trivial⟩
     replace S : St gd1 [] fr w := S.of_eq (flat2 _ _ _ _)
     refine wl_ev (wn rfl) (ev_fieldAddr' tu38 tf38_0 (z := 0) ts36 rfl ⟨_, rfl⟩ rfl) F S rfl rfl ?_; clear F; intro a F
     refine wpList_nil ⟨rfl, F.sz, F.df, _, [], (Le.refl _), ?_, (lst1 (F.get 26 _ rfl))⟩
     refine St0.of_eq ?_ (flat3 c [] [] fr).symm
     show St0 _ (fl ([] ++ []) fr) _
     exact S
    ·intro a w gd1 c fr hsz hdf hK ld1 hN hI S
     obtain ⟨v8, e12, lh1⟩ := hN 12 (by decide)
     have e25x : val a 25 = v8 := nth e12 0
     have e13 := hN 13 (by decide)
     have e26x : val a 26 = bp b3 0 := nth e13 0
     have F : Fr 29 a [(25, v8), (26, bp b3 0)] := Fr.of hsz hdf ⟨e25x, e26x, trivial⟩
     replace S : St gd1 [c 16] fr w := S.of_eq (flat2 _ _ _ _)
     have q16 : c 16 = [(b3, .cells #[v2] 38 (0, 0))] := hI 1 _ rfl
     rw [q16] at S
     refine wl_storeC (wn rfl) rfl F S rfl rfl (vs := [v8]) (OwnS.cl lh1) ts36 (one_cons (OwnS.one lh1) one_nil) (k := 0) rfl (lb rfl) (c' := #[v8]) rfl rfl ?_; clear S; intro w S
     replace S : St gd1 [[(b3, .cells #[v8] 38 (0, 0))]] fr w := S
     refine wpList_nil ⟨rfl, F.sz, F.df, _, [(b3, .cells #[v8] 38 (0, 0))], (Le.refl _), ?_, ⟨v8, (lst1 (F.get 25 _ rfl)), rfl⟩⟩
     refine St0.of_eq ?_ (flat3s c ([(b3, .cells #[v8] 38 (0, 0))]) [] fr).symm
     show St0 _ (fl ([[(b3, .cells #[v8] 38 (0, 0))]] ++ []) fr) _
     exact S
    clear F S; intro a w gd1 c hsz hdf hK ld1 hI S hN
    obtain ⟨v7, e11, lh1⟩ := hN 11 (by decide)
    have e24x : val a 24 = v7 := nth e11 0
    obtain ⟨v8, e12, lh2⟩ := hN 12 (by decide)
    have e25x : val a 25 = v8 := nth e12 0
    obtain ⟨dup1, e14, q14⟩ := hN 14 (by decide)
    obtain rfl : v8 = dup1 := by have hq := e25x.symm.trans (nth e14 0); simp at hq; first | exact hq | exact hq.1 | exact hq.2 | exact hq.2.1 | exact hq.2.2
    have F : Fr 29 a [(9, .int .i64 x2), (8, .int .i64 (p_.Hunks.length : Int)), (7, vp_1), (3, bp b3 0), (2, bp b2 0)] := Fr.of hsz hdf ⟨hK 9 (by decide) _ rfl, hK 8 (by decide) _ rfl, hK 7 (by decide) _ rfl, hK 3 (by decide) _ rfl, hK 2 (by decide) _ rfl, trivial⟩
    replace S : St gd1 [c 0, c 1, c 2, c 3, c 4, c 5, c 7, c 8, c 10, c 11, c 12, c 13, c 14, c 15, c 17] fr w := S.of_eq (flat_fl _ _ _)
    generalize c 11 = c5 at *
    generalize c 12 = c6 at *
    rw [q14] at S
    have q15 : c 15 = [(b4, .cells #[.int .i64 y1.At, v3, v4] 60 (0, 0))] := hI 0 _ rfl
    rw [q15] at S
    have q17 : c 17 = [(b2, .cells #[nilS] 38 (0, 0))] := hI 2 _ rfl
    rw [q17] at S
    replace S : St gd1 [c6, [(b3, .cells #[v8] 38 (0, 0))], [(b2, .cells #[nilS] 38 (0, 0))]] fr w := St.tail [c6, [(b3, .cells #[v8] 38 (0, 0))], [(b2, .cells #[nilS] 38 (0, 0))]] _ (((S.frontC 14 rfl).frontC 13 rfl).frontC 12 rfl)
    clear hK hI hN hsz hdf e11 e12 e14 e24x e25x
    refine inb_n ?_
    refine then_n ?_
    refine wp_region_lit ?_
    obtain ⟨z1, hz1, hm⟩ := bind_some hm
    refine wl_ev (wn rfl) (ev_int rfl rfl (bo_add hz1)) F S rfl rfl ?_; clear F a; intro a F
    refine wl_ev (wn rfl) (ev_move rfl) F S rfl rfl ?_; clear F a; intro a F
    refine wpList_nil ?_
    replace F := F.sub (e' := [(9, .int .i64 z1), (8, .int .i64 (p_.Hunks.length : Int)), (7, vp_1), (3, bp b3 0), (2, bp b2 0)]) ⟨rfl, rfl, rfl, rfl, rfl, trivial⟩
    refine then_n ?_
    obtain rfl := sinj hm
    refine ⟨_, rfl, ?_⟩
    dsimp only
    replace S : St gd1 [[(b3, .cells #[v8] 38 (0, 0))], [(b2, .cells #[nilS] 38 (0, 0))], c6] fr w := St.tail [[(b3, .cells #[v8] 38 (0, 0))], [(b2, .cells #[nilS] 38 (0, 0))], c6] _ (((S.frontC 0 rfl).frontC 3 rfl).frontC 3 rfl)
    exact ⟨v8, c6, gd1, F.sub ⟨rfl, rfl, rfl, rfl, rfl, trivial⟩, (l2.trans ld1), S, lh2⟩
   ·refine wp_condF F rfl hc1 ?_
    refine wp_exit ?_
    refine then_e ?_
    refine then_e ?_
    refine inb_x ?_
    refine then_n ?_
    obtain rfl := sinj hm
    obtain rfl := hfin1 _ rfl
    clear hm
    have hm : (textpatch_Copy.j1 x3 : Option Patch) = some _ := hmo1
    exact ⟨x3, v2, c2, g2, F.sub ⟨rfl, rfl, trivial⟩, l2, S, h2, hm⟩
 ·clear F S hm; rintro a w ⟨x1, v1, c1, g1, F, l1, S, h1, hm⟩
  refine wp_seq ?_
  refine wp_region_lit ?_
  refine wl_ev (wn rfl) (ev_loadA tu38 rfl (cs := [v1]) ts38 rfl (box_ptr (cells := [v1]) 0 rfl 0 rfl (lb rfl))) F S rfl rfl ?_; clear F a; intro a F
  refine wl_storeC (wn rfl) rfl F S rfl rfl (vs := [v1]) rfl ts38 (one_cons (OwnS.one h1) one_nil) (k := 1) rfl (lb rfl) (c' := #[v1]) rfl rfl ?_; clear S; intro w S
  replace S : St g1 [[(b3, .cells #[v1] 38 (0, 0))], [(b2, .cells #[v1] 38 (0, 0))], c1] fr w := S
  refine wpList_nil ?_
  replace F := F.sub (e' := [(2, bp b2 0)]) ⟨rfl, trivial⟩
  refine then_n ?_
  refine wp_ret ?_
  obtain rfl := sinj hm
  refine post_r (fn := Try.f52) (rs := [.cell 2 38]) [.agg #[v1]] F rfl (ar_cons (resA rfl tu38 rfl ts38 (box_ptr (cells := [v1]) 1 rfl 0 rfl (lb rfl) w S)) ar_nil) ?_
  replace S : St g1 [c1] fr w := St.tail [c1] _ (S.frontC 2 rfl)
  exact ⟨_, rfl, g1, v1, c1, l1, S, h1, rfl⟩

theorem commute_shift_ok {g : Gh} {fr : Hl} {w : World} {r : Patch} (p_ : Patch) (vp_1 : Value) (hp_1 : RepSl g p_.Hunks vp_1) (l_ : (List Range_commute)) (vl_1 : Value) (hl_1 : RepSl g l_ vl_1) (sign : Int) (S : St g [] fr w) (hm : commute_shift p_ l_ sign = some r) :
  Calls Try.prog 36 [.agg #[vp_1], vl_1, .int .i64 sign].toArray w (fun en w' => ∃ v, en = .returned v ∧ ∃ (g' : Gh) (v1 : Value) (c1 : Hl), Le g g' ∧ St g' [c1] fr w' ∧ OwnS g' r.Hunks v1 c1 ∧ .agg #[v1] = v) := by
 unfold commute_shift at hm
 refine calls_enter (fn := Try.f36) Try.func36 rfl Try.ntmps36 (lb rfl) ?_
 intro a F
 replace F : Fr 49 a [(0, .agg #[vp_1]), (1, vl_1), (2, .int .i64 sign)] := F
 refine wp_seq ?_
 refine wp_region_lit ?_
 refine wl_boxC (wn rfl) rfl rfl rfl F S rfl rfl ?_; clear F a S; rintro b1 a w F S
 refine wl_alloc (wn rfl) rfl tz38 (cs := [nilS]) rfl F S rfl rfl ?_; clear F a S; rintro b2 a w F S
 refine wpList_nil ?_
 replace F := F.sub (e' := [(6, bp b2 0), (3, bp b1 0), (1, vl_1), (2, .int .i64 sign)]) ⟨rfl, rfl, rfl, rfl, trivial⟩
 refine then_n ?_
 refine wp_seq ?_
 refine wp_region_lit ?_
 refine wl_ev (wn rfl) (ev_loadA tu38 rfl (cs := [vp_1]) ts38 rfl (box_ptr (cells := [vp_1]) 1 rfl 0 rfl (lb rfl))) F S rfl rfl ?_; clear F a; intro a F
 obtain ⟨y1, hy1, hm⟩ := bind_some hm
 refine wl_call (wn rfl) rfl (xs := [.tmp 12]) (vs := [.agg #[vp_1]]) (cap := []) F rfl rfl tc52 (textpatch_Copy_ok (g := g) (fr := (fl [[(b2, .cells #[nilS] 38 (0, 0))], [(b1, .cells #[vp_1] 38 (0, 0))]] fr)) (w := w) p_ vp_1 hp_1 S hy1) rfl rfl ?_; clear F a S
 rintro _ a w ⟨g1, v1, c1, l1, S, h1, rfl⟩ F; replace S : St g1 [c1, [(b2, .cells #[nilS] 38 (0, 0))], [(b1, .cells #[vp_1] 38 (0, 0))]] fr w := S
 refine wl_alloc (wn rfl) rfl tz38 (cs := [nilS]) rfl F S rfl rfl ?_; clear F a S; rintro b3 a w F S
 refine wl_storeC (wn rfl) rfl F S rfl rfl (vs := [v1]) rfl ts38 (one_cons (OwnS.one h1) one_nil) (k := 0) rfl (lb rfl) (c' := #[v1]) rfl rfl ?_; clear S; intro w S
 replace S : St g1 [[(b3, .cells #[v1] 38 (0, 0))], c1, [(b2, .cells #[nilS] 38 (0, 0))], [(b1, .cells #[vp_1] 38 (0, 0))]] fr w := S
 refine wpList_nil ?_
 replace F := F.sub (e' := [(7, bp b3 0), (6, bp b2 0), (3, bp b1 0), (1, vl_1), (2, .int .i64 sign)]) ⟨rfl, rfl, rfl, rfl, rfl, trivial⟩
 refine then_n ?_
 refine wp_cut (fun a w => ∃ (x1 : List Hunk) (v2 : Value) (c2 : Hl) (g2 : Gh), Fr 49 a [(7, bp b3 0), (6, bp b2 0)] ∧ Le g1 g2 ∧ St g2 [[(b3, .cells #[v2] 38 (0, 0))], [(b2, .cells #[nilS] 38 (0, 0))], c2] fr w ∧ OwnS g2 x1 v2 c2 ∧ commute_shift.j1 x1 = some r) ?_ ?_
 ·refine wp_seq ?_
  refine wp_region_lit ?_
  refine wl_ev (wn rfl) (ev_fieldAddr' tu38 tf38_0 (z := 0) ts36 rfl ⟨_, rfl⟩ rfl) F S rfl rfl ?_; clear F a; intro a F
  refine wl_ev (wn rfl) (ev_load1 tu36 rfl rfl (box_ptr (cells := [vp_1]) 3 rfl 0 rfl (lb rfl))) F S rfl rfl ?_; clear F a; intro a F
  refine wl_ev (wn rfl) (ev_lenSh hp_1 rfl tu36) F S rfl rfl ?_; clear F a; intro a F
  refine wl_ev (wn rfl) (ev_move rfl) F S rfl rfl ?_; clear F a; intro a F
  refine wpList_nil ?_
  replace F := F.sub (e' := [(17, .int .i64 0), (16, .int .i64 (p_.Hunks.length : Int)), (15, vp_1), (7, bp b3 0), (6, bp b2 0), (1, vl_1), (2, .int .i64 sign)]) ⟨rfl, rfl, rfl, rfl, rfl, rfl, rfl, trivial⟩
  refine then_n ?_
  refine wp_block ?_
  obtain ⟨r1, hr1, hm⟩ := bind_some hm
  have hmo1 := hm; clear hm
  refine wp_iter (σ := Int × (List Hunk)) (ρ := (List Hunk)) (m := fun s => commute_shift.l1 p_ l_ sign s.1 s.2) (I := fun s a w => match s with | (x2, x3) => ∃ (v3 : Value) (c3 : Hl) (g3 : Gh), Fr 49 a [(17, .int .i64 x2), (16, .int .i64 (p_.Hunks.length : Int)), (15, vp_1), (7, bp b3 0), (6, bp b2 0), (1, vl_1), (2, .int .i64 sign)] ∧ Le g1 g3 ∧ St g3 [[(b3, .cells #[v3] 38 (0, 0))], [(b2, .cells #[nilS] 38 (0, 0))], c3] fr w ∧ OwnS g3 x3 v3 c3) hr1 ?_ ?_
  ·dsimp only
   replace S : St g1 [[(b3, .cells #[v1] 38 (0, 0))], [(b2, .cells #[nilS] 38 (0, 0))], c1] fr w := St.tail [[(b3, .cells #[v1] 38 (0, 0))], [(b2, .cells #[nilS] 38 (0, 0))], c1] _ (((S.frontC 1 rfl).frontC 3 rfl).frontC 2 rfl)
   exact ⟨v1, c1, g1, F.sub ⟨rfl, rfl, rfl, rfl, rfl, rfl, rfl, trivial⟩, (Le.refl _), S, h1⟩
  ·clear F S; rintro ⟨x2, x3⟩ a w x4 ⟨v3, c3, g3, F, l3, S, h3⟩ hx1 hfin1
   have hm : commute_shift.l1 p_ l_ sign x2 x3 = some x4 := hx1; clear hx1
   unfold commute_shift.l1 at hm
   refine wp_seq ?_
   refine wp_region_lit ?_
   refine wl_ev (wn rfl) (ev_int rfl rfl (bo_lss _ _ _ _)) F S rfl rfl ?_; clear F a; intro a F
   refine wpList_nil ?_
   refine then_n ?_
   refine wp_seq ?_
   obtain ⟨hc1, hm⟩ | ⟨hc1, hm⟩ := ite_or hm
   ·refine wp_condT F rfl hc1 ?_
    refine wp_skip ?_
    refine then_n ?_
    refine wp_cut (fun a w => ∃ (x5 : List Hunk) (v4 : Value) (c4 : Hl) (g4 : Gh), Fr 49 a [(17, .int .i64 x2), (16, .int .i64 (p_.Hunks.length : Int)), (15, vp_1), (7, bp b3 0), (6, bp b2 0), (1, vl_1), (2, .int .i64 sign)] ∧ Le g3 g4 ∧ St g4 [[(b3, .cells #[v4] 38 (0, 0))], [(b2, .cells #[nilS] 38 (0, 0))], c4] fr w ∧ OwnS g4 x5 v4 c4 ∧ commute_shift.j2 x2 x5 = some x4) ?_ ?_
    ·refine wp_block ?_
     refine wp_seq ?_
     refine wp_region_lit ?_
     refine wl_ev (wn rfl) (ev_move rfl) F S rfl rfl ?_; clear F a; intro a F
     obtain ⟨y2, hy2, hm⟩ := bind_some hm
     obtain ⟨cs1, hr2, hp1⟩ := elemS (hp_1.mono (l1.trans l3)) hy2
     obtain ⟨v5, v6, rfl, h5, h6⟩ := rep_Hunk hr2
     refine wl_ev (wn rfl) (ev_idxS (hp_1.mono (l1.trans l3)) hy2 tu36 ts60 rfl rfl) F S rfl rfl ?_; clear F a; intro a F
     refine wl_ev (wn rfl) (ev_loadA tu60 rfl (cs := [.int .i64 y2.At, v5, v6]) ts60 rfl (ptr_mono (cks := [[(b3, .cells #[v3] 38 (0, 0))], [(b2, .cells #[nilS] 38 (0, 0))], c3]) (fr := fr) hp1 (Le.refl _))) F S rfl rfl ?_; clear F a; intro a F
     refine wl_alloc (wn rfl) rfl tz60 (cs := [.int .i64 0, nilS, nilS]) rfl F S rfl rfl ?_; clear F a S; rintro b4 a w F S
     refine wl_ev (wn rfl) (ev_assign rfl) F S rfl rfl ?_; clear F a; intro a F
     refine wl_storeC (wn rfl) rfl F S rfl rfl (vs := [.int .i64 y2.At, v5, v6]) rfl ts60 (one_cons rfl (one_cons h5.one (one_cons h6.one one_nil))) (k := 0) rfl (lb rfl) (c' := #[.int .i64 y2.At, v5, v6]) rfl rfl ?_; clear S; intro w S
     replace S : St g3 [[(b4, .cells #[.int .i64 y2.At, v5, v6] 60 (0, 0))], [(b3, .cells #[v3] 38 (0, 0))], [(b2, .cells #[nilS] 38 (0, 0))], c3] fr w := S
     refine wpList_nil ?_
     replace F := F.sub (e' := [(8, .int .i64 x2), (9, bp b4 0), (17, .int .i64 x2), (16, .int .i64 (p_.Hunks.length : Int)), (15, vp_1), (7, bp b3 0), (6, bp b2 0), (1, vl_1), (2, .int .i64 sign)]) ⟨rfl, rfl, rfl, rfl, rfl, rfl, rfl, rfl, rfl, trivial⟩
     refine then_n ?_
     refine wp_seq ?_
     refine wp_region_lit ?_
     refine wl_ev (wn rfl) (ev_move rfl) F S rfl rfl ?_; clear F a; intro a F
     refine wl_ev (wn rfl) (ev_lenSh hl_1 rfl tu52) F S rfl rfl ?_; clear F a; intro a F
     refine wl_ev (wn rfl) (ev_move rfl) F S rfl rfl ?_; clear F a; intro a F
     refine wpList_nil ?_
     refine then_n ?_
     refine wp_cut1 (fun a w => ∃ (x6 : List Hunk) (v7 : Value) (c5 : Hl) (g5 : Gh), Fr 49 a [(17, .int .i64 x2), (16, .int .i64 (p_.Hunks.length : Int)), (15, vp_1), (7, bp b3 0), (6, bp b2 0), (1, vl_1), (2, .int .i64 sign)] ∧ Le g3 g5 ∧ St g5 [[(b3, .cells #[v7] 38 (0, 0))], [(b2, .cells #[nilS] 38 (0, 0))], c5] fr w ∧ OwnS g5 x6 v7 c5 ∧ commute_shift.j3 x2 x6 = some x4) ?_ ?_
     ·refine wp_block ?_
      obtain ⟨r2, hr3, hm⟩ := bind_some hm
      have hmo2 := hm; clear hm
      refine wp_iter (σ := Int × (List Hunk)) (ρ := (List Hunk)) (m := fun s => commute_shift.l2 l_ sign x2 y2 s.1 s.2) (I := fun s a w => match s with | (x7, x8) => ∃ (v8 : Value) (c6 : Hl) (g6 : Gh), Fr 49 a [(24, .int .i64 x7), (23, .int .i64 (l_.length : Int)), (22, vl_1), (8, .int .i64 x2), (9, bp b4 0), (17, .int .i64 x2), (16, .int .i64 (p_.Hunks.length : Int)), (15, vp_1), (7, bp b3 0), (6, bp b2 0), (1, vl_1), (2, .int .i64 sign)] ∧ Le g3 g6 ∧ St g6 [[(b4, .cells #[.int .i64 y2.At, v5, v6] 60 (0, 0))], [(b3, .cells #[v8] 38 (0, 0))], [(b2, .cells #[nilS] 38 (0, 0))], c6] fr w ∧ OwnS g6 x8 v8 c6) hr3 ?_ ?_
      ·dsimp only
       exact ⟨v3, c3, g3, F.sub ⟨rfl, rfl, rfl, rfl, rfl, rfl, rfl, rfl, rfl, rfl, rfl, rfl, trivial⟩, (Le.refl _), S, h3⟩
      ·clear F S; rintro ⟨x7, x8⟩ a w x9 ⟨v8, c6, g6, F, l6, S, h8⟩ hx2 hfin2
       have hm : commute_shift.l2 l_ sign x2 y2 x7 x8 = some x9 := hx2; clear hx2
       unfold commute_shift.l2 at hm
       refine wp_seq ?_
       refine wp_region_lit ?_
       refine wl_ev (wn rfl) (ev_int rfl rfl (bo_lss _ _ _ _)) F S rfl rfl ?_; clear F a; intro a F
       refine wpList_nil ?_
       refine then_n ?_
       refine wp_seq ?_
       obtain ⟨hc2, hm⟩ | ⟨hc2, hm⟩ := ite_or hm
       ·refine wp_condT F rfl hc2 ?_
        refine wp_skip ?_
        refine then_n ?_
        refine wp_cut (fun a w => ∃ (x10 : List Hunk) (v9 : Value) (c7 : Hl) (g7 : Gh), Fr 49 a [(24, .int .i64 x7), (23, .int .i64 (l_.length : Int)), (22, vl_1), (8, .int .i64 x2), (9, bp b4 0), (17, .int .i64 x2), (16, .int .i64 (p_.Hunks.length : Int)), (15, vp_1), (7, bp b3 0), (6, bp b2 0), (1, vl_1), (2, .int .i64 sign)] ∧ Le g6 g7 ∧ St g7 [[(b4, .cells #[.int .i64 y2.At, v5, v6] 60 (0, 0))], [(b3, .cells #[v9] 38 (0, 0))], [(b2, .cells #[nilS] 38 (0, 0))], c7] fr w ∧ OwnS g7 x10 v9 c7 ∧ commute_shift.j4 x7 x10 = some x9) ?_ ?_
        ·refine wp_block ?_
         refine wp_seq ?_
         refine wp_region_lit ?_
         obtain ⟨y3, hy3, hm⟩ := bind_some hm
         obtain ⟨cs2, hr4, hp2⟩ := elemS (hl_1.mono ((l1.trans l3).trans l6)) hy3
         obtain rfl := rep_Range_commute hr4
         refine wl_ev (wn rfl) (ev_idxS (hl_1.mono ((l1.trans l3).trans l6)) hy3 tu52 ts70 rfl rfl) F S rfl rfl ?_; clear F a; intro a F
         refine wl_ev (wn rfl) (ev_loadA tu70 rfl (cs := [.int .i64 y3.Low, .int .i64 y3.High, .int .i64 y3.Growth]) ts70 rfl (ptr_mono (cks := [[(b4, .cells #[.int .i64 y2.At, v5, v6] 60 (0, 0))], [(b3, .cells #[v8] 38 (0, 0))], [(b2, .cells #[nilS] 38 (0, 0))], c6]) (fr := fr) hp2 (Le.refl _))) F S rfl rfl ?_; clear F a; intro a F
         refine wl_alloc (wn rfl) rfl tz70 (cs := [.int .i64 0, .int .i64 0, .int .i64 0]) rfl F S rfl rfl ?_; clear F a S; rintro b5 a w F S
         refine wl_storeC (wn rfl) rfl F S rfl rfl (vs := [.int .i64 y3.Low, .int .i64 y3.High, .int .i64 y3.Growth]) rfl ts70 (one_cons rfl (one_cons rfl (one_cons rfl one_nil))) (k := 0) rfl (lb rfl) (c' := #[.int .i64 y3.Low, .int .i64 y3.High, .int .i64 y3.Growth]) rfl rfl ?_; clear S; intro w S
         replace S : St g6 [[(b5, .cells #[.int .i64 y3.Low, .int .i64 y3.High, .int .i64 y3.Growth] 70 (0, 0))], [(b4, .cells #[.int .i64 y2.At, v5, v6] 60 (0, 0))], [(b3, .cells #[v8] 38 (0, 0))], [(b2, .cells #[nilS] 38 (0, 0))], c6] fr w := S
         refine wpList_nil ?_
         replace F := F.sub (e' := [(11, bp b5 0), (24, .int .i64 x7), (23, .int .i64 (l_.length : Int)), (22, vl_1), (8, .int .i64 x2), (9, bp b4 0), (17, .int .i64 x2), (16, .int .i64 (p_.Hunks.length : Int)), (15, vp_1), (7, bp b3 0), (6, bp b2 0), (1, vl_1), (2, .int .i64 sign)]) ⟨rfl, rfl, rfl, rfl, rfl, rfl, rfl, rfl, rfl, rfl, rfl, rfl, rfl, trivial⟩
         refine then_n ?_
         refine wp_seq ?_
         refine wp_region_lit ?_
         refine wl_ev (wn rfl) (ev_fieldAddr' tu70 tf70_1 (z := 0) ts3 rfl ⟨_, rfl⟩ rfl) F S rfl rfl ?_; clear F a; intro a F
         refine wl_ev (wn rfl) (ev_load1 tu3 rfl rfl (box_ptr (cells := [.int .i64 y3.High]) 0 rfl 1 rfl (lb rfl))) F S rfl rfl ?_; clear F a; intro a F
         refine wl_ev (wn rfl) (ev_fieldAddr' tu60 tf60_0 (z := 0) ts3 rfl ⟨_, rfl⟩ rfl) F S rfl rfl ?_; clear F a; intro a F
         refine wl_ev (wn rfl) (ev_load1 tu3 rfl rfl (box_ptr (cells := [.int .i64 y2.At]) 1 rfl 0 rfl (lb rfl))) F S rfl rfl ?_; clear F a; intro a F
         refine wl_ev (wn rfl) (ev_int rfl rfl (bo_lss _ _ _ _)) F S rfl rfl ?_; clear F a; intro a F
         refine wpList_nil ?_
         replace F := F.sub (e' := [(32, .bool (decide (y3.High < y2.At))), (11, bp b5 0), (24, .int .i64 x7), (23, .int .i64 (l_.length : Int)), (22, vl_1), (8, .int .i64 x2), (9, bp b4 0), (17, .int .i64 x2), (16, .int .i64 (p_.Hunks.length : Int)), (15, vp_1), (7, bp b3 0), (6, bp b2 0), (1, vl_1), (2, .int .i64 sign)]) ⟨rfl, rfl, rfl, rfl, rfl, rfl, rfl, rfl, rfl, rfl, rfl, rfl, rfl, rfl, trivial⟩
         refine then_n ?_
         obtain ⟨hc3, hm⟩ | ⟨hc3, hm⟩ := ite_or hm
         ·refine wp_condT F rfl hc3 ?_
          obtain ⟨y4, hy4, hm⟩ := bind_some hm
          obtain ⟨z3, hz3, hm⟩ := bind_some hm
          obtain ⟨z4, hz4, hm⟩ := bind_some hm
          obtain ⟨y5, hy5, hm⟩ := bind_some hm
          obtain ⟨y6, hy6, hm⟩ := bind_some hm
          refine wp_drawL ⟨5, [[33], [34], [35], [36], [37], [38], [39], [40], [41], [42], [43], [44], [45], []], [[], [], [], [], [], [], [], [], [], [], [], [], [], [18]], [[], [16], [], [], [], [18], [], [], [14], [], [], [], [], []], [[7], [], [8], [], [], [], [2], [11], [], [], [], [], [], []], [[], [0], [], [1, 2], [3], [4], [], [], [7], [6, 8], [5, 9], [1, 2], [11], [10, 12]], [24, 23, 22, 8, 9, 17, 16, 15, 7, 6, 1, 2], [0, 1, 2, 3, 4, 5, 6, 7, 8, 9, 10, 11, 12, 13, 14, 15, 16, 17]⟩
           [([33], fun us g c => us = [bp b3 0]),
            ([34], fun us g c => us = [v8]),
            ([35], fun us g c => us = [.int .i64 x2]),
            ([36], fun us g c => us = [elemP v8 x2 3]),
            ([37], fun us g c => us = [elemP v8 x2 3]),
            ([38], fun us g c => us = [.int .i64 y4.At]),
            ([39], fun us g c => us = [.int .i64 sign]),
            ([40], fun us g c => us = [bp b5 2]),
            ([41], fun us g c => us = [.int .i64 y3.Growth]),
            ([42], fun us g c => us = [.int .i64 z3]),
            ([43], fun us g c => us = [.int .i64 z4]),
            ([44], fun us g c => us = [elemP v8 x2 3]),
            ([45], fun us g c => us = [elemP v8 x2 3]),
            ([], fun us g c => us = [] ∧ OwnS g y6 v8 c)]
           mo (by kernel_rfl) rfl rfl ⟨fun _ _ _ _ _ h => h, fun _ _ _ _ _ h => h, fun _ _ _ _ _ h => h, fun _ _ _ _ _ h => h, fun _ _ _ _ _ h => h, fun _ _ _ _ _ h => h, fun _ _ _ _ _ h => h, fun _ _ _ _ _ h => h, fun _ _ _ _ _ h => h, fun _ _ _ _ _ h => h, fun _ _ _ _ _ h => h, fun _ _ _ _ _ h => h, fun _ _ _ _ _ h => h, fun _ _ _ _ l ⟨e0, h0⟩ => ⟨e0, h0.mono l⟩, trivial⟩ F S ⟨?_, ?_, ?_, ?_, ?_, ?_, ?_, ?_, ?_, ?_, ?_, ?_, ?_, ?_, trivial⟩ ?_
          ·intro a w gd1 c fr hsz hdf hK ld1 hN hI S
           have F : Fr 49 a [(7, bp b3 0)] := Fr.of hsz hdf ⟨hK 7 (by decide) _ rfl, trivial⟩
           replace S : St gd1 [] fr w := S.of_eq (flat2 _ _ _ _)
           refine wl_ev (wn rfl) (ev_fieldAddr' tu38 tf38_0 (z := 0) ts36 rfl ⟨_, rfl⟩ rfl) F S rfl rfl ?_; clear F; intro a F
           refine wpList_nil ⟨rfl, F.sz, F.df, _, [], (Le.refl _), ?_, (lst1 (F.get 33 _ rfl))⟩
           refine St0.of_eq ?_ (flat3 c [] [] fr).symm
           show St0 _ (fl ([] ++ []) fr) _
           exact S
          ·intro a w gd1 c fr hsz hdf hK ld1 hN hI S
           have e0 := hN 0 (by decide)
           have e33x : val a 33 = bp b3 0 := nth e0 0
           have F : Fr 49 a [(33, bp b3 0)] := Fr.of hsz hdf ⟨e33x, trivial⟩
           replace S : St gd1 [c 16] fr w := S.of_eq (flat2 _ _ _ _)
           have q16 : c 16 = [(b3, .cells #[v8] 38 (0, 0))] := hI 2 _ rfl
           rw [q16] at S
           refine wl_ev (wn rfl) (ev_load1 tu36 rfl rfl (box_ptr (cells := [v8]) 0 rfl 0 rfl (lb rfl))) F S rfl rfl ?_; clear F; intro a F
           refine wpList_nil ⟨rfl, F.sz, F.df, _, [], (Le.refl _), ?_, (lst1 (F.get 34 _ rfl))⟩
           refine St0.of_eq ?_ (flat3 c [] [16] fr).symm
           show St0 _ (fl ([] ++ [c 16]) fr) _
           rw [q16]
           exact S
          ·intro a w gd1 c fr hsz hdf hK ld1 hN hI S
           have F : Fr 49 a [(8, .int .i64 x2)] := Fr.of hsz hdf ⟨hK 8 (by decide) _ rfl, trivial⟩
           replace S : St gd1 [] fr w := S.of_eq (flat2 _ _ _ _)
           refine wl_ev (wn rfl) (ev_move rfl) F S rfl rfl ?_; clear F; intro a F
           refine wpList_nil ⟨rfl, F.sz, F.df, _, [], (Le.refl _), ?_, (lst1 (F.get 35 _ rfl))⟩
           refine St0.of_eq ?_ (flat3 c [] [] fr).symm
           show St0 _ (fl ([] ++ []) fr) _
           exact S
          ·intro a w gd1 c fr hsz hdf hK ld1 hN hI S
           have e1 := hN 1 (by decide)
           have e34x : val a 34 = v8 := nth e1 0
           have e2 := hN 2 (by decide)
           have e35x : val a 35 = .int .i64 x2 := nth e2 0
           have F : Fr 49 a [(34, v8), (35, .int .i64 x2)] := Fr.of hsz hdf ⟨e34x, e35x, trivial⟩
           replace S : St gd1 [] fr w := S.of_eq (flat2 _ _ _ _)
           refine wl_ev (wn rfl) (ev_idxO (h8.mono ld1) hy4 tu36 ts60 rfl rfl) F S rfl rfl ?_; clear F; intro a F
           refine wpList_nil ⟨rfl, F.sz, F.df, _, [], (Le.refl _), ?_, (lst1 (F.get 36 _ rfl))⟩
           refine St0.of_eq ?_ (flat3 c [] [] fr).symm
           show St0 _ (fl ([] ++ []) fr) _
           exact S
          ·intro a w gd1 c fr hsz hdf hK ld1 hN hI S
           have e3 := hN 3 (by decide)
           have e36x : val a 36 = elemP v8 x2 3 := nth e3 0
           have F : Fr 49 a [(36, elemP v8 x2 3)] := Fr.of hsz hdf ⟨e36x, trivial⟩
           replace S : St gd1 [] fr w := S.of_eq (flat2 _ _ _ _)
           refine wl_ev (wn rfl) (ev_fieldAddr' tu60 tf60_0 (z := 0) ts3 rfl (elemO_ptr (h8.mono ld1) hy4) addP_zero) F S rfl rfl ?_; clear F; intro a F
           refine wpList_nil ⟨rfl, F.sz, F.df, _, [], (Le.refl _), ?_, (lst1 (F.get 37 _ rfl))⟩
           refine St0.of_eq ?_ (flat3 c [] [] fr).symm
           show St0 _ (fl ([] ++ []) fr) _
           exact S
          ·intro a w gd1 c fr hsz hdf hK ld1 hN hI S
           have e4 := hN 4 (by decide)
           have e37x : val a 37 = elemP v8 x2 3 := nth e4 0
           have F : Fr 49 a [(37, elemP v8 x2 3)] := Fr.of hsz hdf ⟨e37x, trivial⟩
           replace S : St gd1 [c 18] fr w := S.of_eq (flat2 _ _ _ _)
           have q18 : c 18 = c6 := hI 4 _ rfl
           rw [q18] at S
           obtain ⟨cs3, hr5, hq1⟩ := elemO (h8.mono ld1) hy4
           obtain ⟨v10, v11, rfl, h10, h11⟩ := rep_Hunk hr5
           refine wl_ev (wn rfl) (ev_load1 tu3 rfl rfl (fun w s => addP_zero ▸ fieldP (cells := [.int .i64 y4.At]) 0 (hq1 _ _ 0 rfl w s) rfl (lb rfl))) F S rfl rfl ?_; clear F; intro a F
           refine wpList_nil ⟨rfl, F.sz, F.df, _, [], (Le.refl _), ?_, (lst1 (F.get 38 _ rfl))⟩
           refine St0.of_eq ?_ (flat3 c [] [18] fr).symm
           show St0 _ (fl ([] ++ [c 18]) fr) _
           rw [q18]
           exact S
          ·intro a w gd1 c fr hsz hdf hK ld1 hN hI S
           have F : Fr 49 a [(2, .int .i64 sign)] := Fr.of hsz hdf ⟨hK 2 (by decide) _ rfl, trivial⟩
           replace S : St gd1 [] fr w := S.of_eq (flat2 _ _ _ _)
           refine wl_ev (wn rfl) (ev_move rfl) F S rfl rfl ?_; clear F; intro a F
           refine wpList_nil ⟨rfl, F.sz, F.df, _, [], (Le.refl _), ?_, (lst1 (F.get 39 _ rfl))⟩
           refine St0.of_eq ?_ (flat3 c [] [] fr).symm
           show St0 _ (fl ([] ++ []) fr) _
           exact S
          ·intro a w gd1 c fr hsz hdf hK ld1 hN hI S
           have F : Fr 49 a [(11, bp b5 0)] := Fr.of hsz hdf ⟨hK 11 (by decide) _ rfl, trivial⟩
           replace S : St gd1 [] fr w := S.of_eq (flat2 _ _ _ _)
           refine wl_ev (wn rfl) (ev_fieldAddr' tu70 tf70_2 (z := 0) ts3 rfl ⟨_, rfl⟩ rfl) F S rfl rfl ?_; clear F; intro a F
           refine wpList_nil ⟨rfl, F.sz, F.df, _, [], (Le.refl _), ?_, (lst1 (F.get 40 _ rfl))⟩
           refine St0.of_eq ?_ (flat3 c [] [] fr).symm
           show St0 _ (fl ([] ++ []) fr) _
           exact S
          ·intro a w gd1 c fr hsz hdf hK ld1 hN hI S
           have e7 := hN 7 (by decide)
           have e40x : val a 40 = bp b5 2 := nth e7 0
           have F : Fr 49 a [(40, bp b5 2)] := Fr.of hsz hdf ⟨e40x, trivial⟩
           replace S : St gd1 [c 14] fr w := S.of_eq (flat2 _ _ _ _)
           have q14 : c 14 = [(b5, .cells #[.int .i64 y3.Low, .int .i64 y3.High, .int .i64 y3.Growth] 70 (0, 0))] := hI 0 _ rfl
           rw [q14] at S
           refine wl_ev (wn rfl) (ev_load1 tu3 rfl rfl (box_ptr (cells := [.int .i64 y3.Growth]) 0 rfl 2 rfl (lb rfl))) F S rfl rfl ?_; clear F; intro a F
           refine wpList_nil ⟨rfl, F.sz, F.df, _, [], (Le.refl _), ?_, (lst1 (F.get 41 _ rfl))⟩
           refine St0.of_eq ?_ (flat3 c [] [14] fr).symm
           show St0 _ (fl ([] ++ [c 14]) fr) _
           rw [q14]
           exact S
          ·intro a w gd1 c fr hsz hdf hK ld1 hN hI S
           have e6 := hN 6 (by decide)
           have e39x : val a 39 = .int .i64 sign := nth e6 0
           have e8 := hN 8 (by decide)
           have e41x : val a 41 = .int .i64 y3.Growth := nth e8 0
           have F : Fr 49 a [(39, .int .i64 sign), (41, .int .i64 y3.Growth)] := Fr.of hsz hdf ⟨e39x, e41x, trivial⟩
           replace S : St gd1 [] fr w := S.of_eq (flat2 _ _ _ _)
           refine wl_ev (wn rfl) (ev_int rfl rfl (bo_mul hz3)) F S rfl rfl ?_; clear F; intro a F
           refine wpList_nil ⟨rfl, F.sz, F.df, _, [], (Le.refl _), ?_, (lst1 (F.get 42 _ rfl))⟩
           refine St0.of_eq ?_ (flat3 c [] [] fr).symm
           show St0 _ (fl ([] ++ []) fr) _
           exact S
          ·intro a w gd1 c fr hsz hdf hK ld1 hN hI S
           have e5 := hN 5 (by decide)
           have e38x : val a 38 = .int .i64 y4.At := nth e5 0
           have e9 := hN 9 (by decide)
           have e42x : val a 42 = .int .i64 z3 := nth e9 0
           have F : Fr 49 a [(38, .int .i64 y4.At), (42, .int .i64 z3)] := Fr.of hsz hdf ⟨e38x, e42x, trivial⟩
           replace S : St gd1 [] fr w := S.of_eq (flat2 _ _ _ _)
           refine wl_ev (wn rfl) (ev_int rfl rfl (bo_add hz4)) F S rfl rfl ?_; clear F; intro a F
           refine wpList_nil ⟨rfl, F.sz, F.df, _, [], (Le.refl _), ?_, (lst1 (F.get 43 _ rfl))⟩
           refine St0.of_eq ?_ (flat3 c [] [] fr).symm
           show St0 _ (fl ([] ++ []) fr) _
           exact S
          ·intro a w gd1 c fr hsz hdf hK ld1 hN hI S
           have e1 := hN 1 (by decide)
           have e34x : val a 34 = v8 := nth e1 0
           have e2 := hN 2 (by decide)
           have e35x : val a 35 = .int .i64 x2 := nth e2 0
           have F : Fr 49 a [(34, v8), (35, .int .i64 x2)] := Fr.of hsz hdf ⟨e34x, e35x, trivial⟩
           replace S : St gd1 [] fr w := S.of_eq (flat2 _ _ _ _)
           refine wl_ev (wn rfl) (ev_idxO (h8.mono ld1) hy5 tu36 ts60 rfl rfl) F S rfl rfl ?_; clear F; intro a F
           refine wpList_nil ⟨rfl, F.sz, F.df, _, [], (Le.refl _), ?_, (lst1 (F.get 44 _ rfl))⟩
           refine St0.of_eq ?_ (flat3 c [] [] fr).symm
           show St0 _ (fl ([] ++ []) fr) _
           exact S
          ·intro a w gd1 c fr hsz hdf hK ld1 hN hI S
           have e11 := hN 11 (by decide)
           have e44x : val a 44 = elemP v8 x2 3 := nth e11 0
           have F : Fr 49 a [(44, elemP v8 x2 3)] := Fr.of hsz hdf ⟨e44x, trivial⟩
           replace S : St gd1 [] fr w := S.of_eq (flat2 _ _ _ _)
           refine wl_ev (wn rfl) (ev_fieldAddr' tu60 tf60_0 (z := 0) ts3 rfl (elemO_ptr (h8.mono ld1) hy5) addP_zero) F S rfl rfl ?_; clear F; intro a F
           refine wpList_nil ⟨rfl, F.sz, F.df, _, [], (Le.refl _), ?_, (lst1 (F.get 45 _ rfl))⟩
           refine St0.of_eq ?_ (flat3 c [] [] fr).symm
           show St0 _ (fl ([] ++ []) fr) _
           exact S
          ·intro a w gd1 c fr hsz hdf hK ld1 hN hI S
           have e10 := hN 10 (by decide)
           have e43x : val a 43 = .int .i64 z4 := nth e10 0
           have e12 := hN 12 (by decide)
           have e45x : val a 45 = elemP v8 x2 3 := nth e12 0
           have F : Fr 49 a [(43, .int .i64 z4), (45, elemP v8 x2 3)] := Fr.of hsz hdf ⟨e43x, e45x, trivial⟩
           replace S : St gd1 [c 18] fr w := S.of_eq (flat2 _ _ _ _)
           have q18 : c 18 = c6 := hI 4 _ rfl
           rw [q18] at S
           refine wl_storeE (z' := ({ At := z4, Old := y5.Old, New := y5.New } : Hunk)) 0 (wn rfl) rfl F S (h8.mono ld1) hy5 addP_zero rfl rfl (us := [.int .i64 z4]) rfl ts3 (one_cons rfl one_nil) (k := 0) rfl (lb rfl) (fun cs hcs => by obtain ⟨v12, v13, rfl, h13, h14⟩ := rep_Hunk hcs; exact (rep_Hunk_mk (x := ({ At := z4, Old := y5.Old, New := y5.New } : Hunk)) h13 h14)) rfl ?_; clear S
           rintro c8 w h12 S; replace S : St gd1 [c8] fr w := S; replace h12 : OwnS gd1 y6 v8 c8 := sinj hy6 ▸ h12
           replace F := F.sub (e' := [(43, .int .i64 z4)]) ⟨rfl, trivial⟩
           refine wpList_nil ⟨rfl, F.sz, F.df, _, c8, (Le.refl _), ?_, ⟨rfl, h12⟩⟩
           refine St0.of_eq ?_ (flat3s c (c8) [] fr).symm
           show St0 _ (fl ([c8] ++ []) fr) _
           exact S
          clear F S; intro a w gd1 c hsz hdf hK ld1 hI S hN
          obtain ⟨e13, lh1⟩ := hN 13 (by decide)
          have F : Fr 49 a [(24, .int .i64 x7), (23, .int .i64 (l_.length : Int)), (22, vl_1), (8, .int .i64 x2), (9, bp b4 0), (17, .int .i64 x2), (16, .int .i64 (p_.Hunks.length : Int)), (15, vp_1), (7, bp b3 0), (6, bp b2 0), (1, vl_1), (2, .int .i64 sign)] := Fr.of hsz hdf ⟨hK 24 (by decide) _ rfl, hK 23 (by decide) _ rfl, hK 22 (by decide) _ rfl, hK 8 (by decide) _ rfl, hK 9 (by decide) _ rfl, hK 17 (by decide) _ rfl, hK 16 (by decide) _ rfl, hK 15 (by decide) _ rfl, hK 7 (by decide) _ rfl, hK 6 (by decide) _ rfl, hK 1 (by decide) _ rfl, hK 2 (by decide) _ rfl, trivial⟩
          replace S : St gd1 [c 0, c 1, c 2, c 3, c 4, c 5, c 6, c 7, c 8, c 9, c 10, c 11, c 12, c 13, c 14, c 15, c 16, c 17] fr w := S.of_eq (flat_fl _ _ _)
          generalize c 13 = c8 at *
          have q14 : c 14 = [(b5, .cells #[.int .i64 y3.Low, .int .i64 y3.High, .int .i64 y3.Growth] 70 (0, 0))] := hI 0 _ rfl
          rw [q14] at S
          have q15 : c 15 = [(b4, .cells #[.int .i64 y2.At, v5, v6] 60 (0, 0))] := hI 1 _ rfl
          rw [q15] at S
          have q16 : c 16 = [(b3, .cells #[v8] 38 (0, 0))] := hI 2 _ rfl
          rw [q16] at S
          have q17 : c 17 = [(b2, .cells #[nilS] 38 (0, 0))] := hI 3 _ rfl
          rw [q17] at S
          replace S : St gd1 [c8, [(b4, .cells #[.int .i64 y2.At, v5, v6] 60 (0, 0))], [(b3, .cells #[v8] 38 (0, 0))], [(b2, .cells #[nilS] 38 (0, 0))]] fr w := St.tail [c8, [(b4, .cells #[.int .i64 y2.At, v5, v6] 60 (0, 0))], [(b3, .cells #[v8] 38 (0, 0))], [(b2, .cells #[nilS] 38 (0, 0))]] _ ((((S.frontC 17 rfl).frontC 17 rfl).frontC 17 rfl).frontC 16 rfl)
          clear hK hI hN hsz hdf e13 
          refine inb_n ?_
          refine then_n ?_
          replace S : St gd1 [[(b4, .cells #[.int .i64 y2.At, v5, v6] 60 (0, 0))], [(b3, .cells #[v8] 38 (0, 0))], [(b2, .cells #[nilS] 38 (0, 0))], c8] fr w := St.tail [[(b4, .cells #[.int .i64 y2.At, v5, v6] 60 (0, 0))], [(b3, .cells #[v8] 38 (0, 0))], [(b2, .cells #[nilS] 38 (0, 0))], c8] _ ((((S.frontC 0 rfl).frontC 4 rfl).frontC 4 rfl).frontC 4 rfl)
          exact ⟨y6, v8, c8, gd1, F.sub ⟨rfl, rfl, rfl, rfl, rfl, rfl, rfl, rfl, rfl, rfl, rfl, rfl, trivial⟩, ld1, S, lh1, hm⟩
         ·refine wp_condF F rfl hc3 ?_
          refine wp_skip ?_
          refine inb_n ?_
          refine then_n ?_
          replace S : St g6 [[(b4, .cells #[.int .i64 y2.At, v5, v6] 60 (0, 0))], [(b3, .cells #[v8] 38 (0, 0))], [(b2, .cells #[nilS] 38 (0, 0))], c6] fr w := St.tail [[(b4, .cells #[.int .i64 y2.At, v5, v6] 60 (0, 0))], [(b3, .cells #[v8] 38 (0, 0))], [(b2, .cells #[nilS] 38 (0, 0))], c6] _ ((((S.frontC 4 rfl).frontC 4 rfl).frontC 4 rfl).frontC 4 rfl)
          exact ⟨x8, v8, c6, g6, F.sub ⟨rfl, rfl, rfl, rfl, rfl, rfl, rfl, rfl, rfl, rfl, rfl, rfl, trivial⟩, (Le.refl _), S, h8, hm⟩
        ·clear F S hm; rintro a w ⟨x10, v9, c7, g7, F, l7, S, h9, hm⟩
         refine wp_region_lit ?_
         obtain ⟨z2, hz2, hm⟩ := bind_some hm
         refine wl_ev (wn rfl) (ev_int rfl rfl (bo_add hz2)) F S rfl rfl ?_; clear F a; intro a F
         refine wl_ev (wn rfl) (ev_move rfl) F S rfl rfl ?_; clear F a; intro a F
         refine wpList_nil ?_
         replace F := F.sub (e' := [(24, .int .i64 z2), (23, .int .i64 (l_.length : Int)), (22, vl_1), (8, .int .i64 x2), (9, bp b4 0), (17, .int .i64 x2), (16, .int .i64 (p_.Hunks.length : Int)), (15, vp_1), (7, bp b3 0), (6, bp b2 0), (1, vl_1), (2, .int .i64 sign)]) ⟨rfl, rfl, rfl, rfl, rfl, rfl, rfl, rfl, rfl, rfl, rfl, rfl, trivial⟩
         refine then_n ?_
         obtain rfl := sinj hm
         refine ⟨_, rfl, ?_⟩
         dsimp only
         exact ⟨v9, c7, g7, F.sub ⟨rfl, rfl, rfl, rfl, rfl, rfl, rfl, rfl, rfl, rfl, rfl, rfl, trivial⟩, (l6.trans l7), S, h9⟩
       ·refine wp_condF F rfl hc2 ?_
        refine wp_exit ?_
        refine then_e ?_
        refine then_e ?_
        refine inb_x ?_
        refine then_n ?_
        obtain rfl := sinj hm
        obtain rfl := hfin2 _ rfl
        clear hm
        have hm : (commute_shift.j3 x2 x8 : Option (Step (Int × (List Hunk)) (List Hunk))) = some _ := hmo2
        replace S : St g6 [[(b3, .cells #[v8] 38 (0, 0))], [(b2, .cells #[nilS] 38 (0, 0))], c6] fr w := St.tail [[(b3, .cells #[v8] 38 (0, 0))], [(b2, .cells #[nilS] 38 (0, 0))], c6] _ (((S.frontC 3 rfl).frontC 3 rfl).frontC 3 rfl)
        exact ⟨x8, v8, c6, g6, F.sub ⟨rfl, rfl, rfl, rfl, rfl, rfl, rfl, trivial⟩, l6, S, h8, hm⟩
     ·clear F S hm; rintro a w ⟨x6, v7, c5, g5, F, l5, S, h7, hm⟩
      refine inb_n ?_
      refine then_n ?_
      exact ⟨x6, v7, c5, g5, F.sub ⟨rfl, rfl, rfl, rfl, rfl, rfl, rfl, trivial⟩, l5, S, h7, hm⟩
    ·clear F S hm; rintro a w ⟨x5, v4, c4, g4, F, l4, S, h4, hm⟩
     refine wp_region_lit ?_
     obtain ⟨z1, hz1, hm⟩ := bind_some hm
     refine wl_ev (wn rfl) (ev_int rfl rfl (bo_add hz1)) F S rfl rfl ?_; clear F a; intro a F
     refine wl_ev (wn rfl) (ev_move rfl) F S rfl rfl ?_; clear F a; intro a F
     refine wpList_nil ?_
     replace F := F.sub (e' := [(17, .int .i64 z1), (16, .int .i64 (p_.Hunks.length : Int)), (15, vp_1), (7, bp b3 0), (6, bp b2 0), (1, vl_1), (2, .int .i64 sign)]) ⟨rfl, rfl, rfl, rfl, rfl, rfl, rfl, trivial⟩
     refine then_n ?_
     obtain rfl := sinj hm
     refine ⟨_, rfl, ?_⟩
     dsimp only
     exact ⟨v4, c4, g4, F.sub ⟨rfl, rfl, rfl, rfl, rfl, rfl, rfl, trivial⟩, (l3.trans l4), S, h4⟩
   ·refine wp_condF F rfl hc1 ?_
    refine wp_exit ?_
    refine then_e ?_
    refine then_e ?_
    refine inb_x ?_
    refine then_n ?_
    obtain rfl := sinj hm
    obtain rfl := hfin1 _ rfl
    clear hm
    have hm : (commute_shift.j1 x3 : Option Patch) = some _ := hmo1
    exact ⟨x3, v3, c3, g3, F.sub ⟨rfl, rfl, trivial⟩, l3, S, h3, hm⟩
 ·clear F S hm; rintro a w ⟨x1, v2, c2, g2, F, l2, S, h2, hm⟩
  refine wp_seq ?_
  refine wp_region_lit ?_
  refine wl_ev (wn rfl) (ev_loadA tu38 rfl (cs := [v2]) ts38 rfl (box_ptr (cells := [v2]) 0 rfl 0 rfl (lb rfl))) F S rfl rfl ?_; clear F a; intro a F
  refine wl_storeC (wn rfl) rfl F S rfl rfl (vs := [v2]) rfl ts38 (one_cons (OwnS.one h2) one_nil) (k := 1) rfl (lb rfl) (c' := #[v2]) rfl rfl ?_; clear S; intro w S
  replace S : St g2 [[(b3, .cells #[v2] 38 (0, 0))], [(b2, .cells #[v2] 38 (0, 0))], c2] fr w := S
  refine wpList_nil ?_
  replace F := F.sub (e' := [(6, bp b2 0)]) ⟨rfl, trivial⟩
  refine then_n ?_
  refine wp_ret ?_
  obtain rfl := sinj hm
  refine post_r (fn := Try.f36) (rs := [.cell 6 38]) [.agg #[v2]] F rfl (ar_cons (resA rfl tu38 rfl ts38 (box_ptr (cells := [v2]) 1 rfl 0 rfl (lb rfl) w S)) ar_nil) ?_
  replace S : St g2 [c2] fr w := St.tail [c2] _ (S.frontC 2 rfl)
  exact ⟨_, rfl, g2, v2, c2, (l1.trans l2), S, h2, rfl⟩
end Go.Dc
