/- Walks: each function comes to what its model says. -/
import Derived.Test.YtgcjgmfdnhimmaaDcTab
import Derived.Test.YtgcjgmfdnhimmaaDcM
import Derived.Test.YtgcjgmfdnhimmaaDcW1
import Derived.Test.YtgcjgmfdnhimmaaDcW4
namespace Go.Dc
open Go Go.Proofs
set_option maxRecDepth 100000
set_option maxHeartbeats 4000000
set_option linter.unusedVariables false
theorem changeforgeequal_Patches_ok {g : Gh} {fr : Hl} {w : World} {r : Bool} (a_ : (List Patch)) (va_1 : Value) (ha_1 : RepSl g a_ va_1) (b_ : (List Patch)) (vb_1 : Value) (hb_1 : RepSl g b_ vb_1) (S : St g [] fr w) (hm : changeforgeequal_Patches a_ b_ = some r) :
  Calls Try.prog 14 [va_1, vb_1].toArray w (fun en w' => ∃ v, en = .returned v ∧ ∃ (g' : Gh), Le g g' ∧ St g' [] fr w' ∧ .bool r = v) := by
 unfold changeforgeequal_Patches at hm
 refine calls_enter (fn := Try.f14) Try.func14 rfl Try.ntmps14 (lb rfl) ?_
 intro a F
 replace F : Fr 27 a [(0, va_1), (1, vb_1)] := F
 refine wp_seq ?_
 refine wp_region_lit ?_
 refine wl_ev (wn rfl) (ev_assign rfl) F S rfl rfl ?_; clear F a; intro a F
 refine wpList_nil ?_
 replace F := F.sub (e' := [(0, va_1), (1, vb_1)]) ⟨rfl, rfl, trivial⟩
 refine then_n ?_
 refine wp_seq ?_
 refine wp_seq ?_
 refine wp_region_lit ?_
 refine wl_ev (wn rfl) (ev_move rfl) F S rfl rfl ?_; clear F a; intro a F
 refine wl_ev (wn rfl) (ev_lenSh ha_1 rfl tu22) F S rfl rfl ?_; clear F a; intro a F
 refine wl_ev (wn rfl) (ev_move rfl) F S rfl rfl ?_; clear F a; intro a F
 refine wl_ev (wn rfl) (ev_lenSh hb_1 rfl tu22) F S rfl rfl ?_; clear F a; intro a F
 refine wl_ev (wn rfl) (ev_int rfl rfl (bo_neq _ _ _ _)) F S rfl rfl ?_; clear F a; intro a F
 refine wpList_nil ?_
 replace F := F.sub (e' := [(10, .bool (!decide ((a_.length : Int) = (b_.length : Int)))), (0, va_1), (1, vb_1)]) ⟨rfl, rfl, rfl, trivial⟩
 refine then_n ?_
 obtain ⟨hc1, hm⟩ | ⟨hc1, hm⟩ := ite_or hm
 ·refine wp_condT F rfl hc1 ?_
  refine wp_seq ?_
  refine wp_region_lit ?_
  refine wl_ev (wn rfl) (ev_assign rfl) F S rfl rfl ?_; clear F a; intro a F
  refine wpList_nil ?_
  replace F := F.sub (e' := [(4, .bool false)]) ⟨rfl, trivial⟩
  refine then_n ?_
  refine wp_ret ?_
  refine then_r ?_
  obtain rfl := sinj hm
  refine post_r (fn := Try.f14) (rs := [.tmp 4]) [.bool false] F rfl (ar_cons (resT rfl) ar_nil) ?_
  exact ⟨_, rfl, g, (Le.refl _), S, rfl⟩
 ·refine wp_condF F rfl hc1 ?_
  refine wp_skip ?_
  refine then_n ?_
  refine wp_cut (fun a w => ∃ (g1 : Gh), Fr 27 a [] ∧ Le g g1 ∧ St g1 [] fr w ∧ changeforgeequal_Patches.j1 = some r) ?_ ?_
  ·refine wp_seq ?_
   refine wp_region_lit ?_
   refine wl_ev (wn rfl) (ev_assign rfl) F S rfl rfl ?_; clear F a; intro a F
   refine wpList_nil ?_
   replace F := F.sub (e' := [(5, .int .i64 0), (0, va_1), (1, vb_1)]) ⟨rfl, rfl, rfl, trivial⟩
   refine then_n ?_
   refine wp_block ?_
   obtain ⟨r1, hr1, hm⟩ := bind_some hm
   have hmo1 := hm; clear hm
   refine wp_iter (σ := Int) (ρ := Bool ⊕ Unit) (m := fun s => changeforgeequal_Patches.l1 a_ b_ s) (I := fun x1 a w => ∃ (g2 : Gh), Fr 27 a [(5, .int .i64 x1), (0, va_1), (1, vb_1)] ∧ Le g g2 ∧ St g2 [] fr w) hr1 ?_ ?_
   ·exact ⟨g, F.sub ⟨rfl, rfl, rfl, trivial⟩, (Le.refl _), S⟩
   ·clear F S; rintro x1 a w x2 ⟨g2, F, l2, S⟩ hx1 hfin1
    have hm : changeforgeequal_Patches.l1 a_ b_ x1 = some x2 := hx1; clear hx1
    unfold changeforgeequal_Patches.l1 at hm
    refine wp_seq ?_
    refine wp_seq ?_
    refine wp_region_lit ?_
    refine wl_ev (wn rfl) (ev_move rfl) F S rfl rfl ?_; clear F a; intro a F
    refine wl_ev (wn rfl) (ev_move rfl) F S rfl rfl ?_; clear F a; intro a F
    refine wl_ev (wn rfl) (ev_lenSh ha_1 rfl tu22) F S rfl rfl ?_; clear F a; intro a F
    refine wl_ev (wn rfl) (ev_int rfl rfl (bo_lss _ _ _ _)) F S rfl rfl ?_; clear F a; intro a F
    refine wpList_nil ?_
    replace F := F.sub (e' := [(14, .bool (decide (x1 < (a_.length : Int)))), (5, .int .i64 x1), (0, va_1), (1, vb_1)]) ⟨rfl, rfl, rfl, rfl, trivial⟩
    refine then_n ?_
    obtain ⟨hc2, hm⟩ | ⟨hc2, hm⟩ := ite_or hm
    ·refine wp_condT F rfl hc2 ?_
     refine wp_skip ?_
     refine then_n ?_
     refine wp_seq ?_
     refine wp_block ?_
     refine wp_seq ?_
     refine wp_quiet mo (by kernel_rfl) S ?_
     refine wq_ev (wn rfl) (ev_move rfl) F rfl rfl ?_; clear F a; intro a F
     refine wq_ev (wn rfl) (ev_move rfl) F rfl rfl ?_; clear F a; intro a F
     obtain ⟨y1, hy1, hm⟩ := bind_some hm
     obtain ⟨cs1, hr2, hp1⟩ := elemS (ha_1.mono l2) hy1
     obtain ⟨v1, rfl, h1⟩ := rep_Patch hr2
     refine wq_ev (wn rfl) (ev_idxS (ha_1.mono l2) hy1 tu22 ts38 rfl rfl) F rfl rfl ?_; clear F a; intro a F
     refine wq_ev (wn rfl) (ev_loadA tu38 rfl (cs := [v1]) ts38 rfl (ptr_mono (cks := []) (fr := fr) hp1 (Le.refl _))) F rfl rfl ?_; clear F a; intro a F
     refine wq_ev (wn rfl) (ev_move rfl) F rfl rfl ?_; clear F a; intro a F
     refine wq_ev (wn rfl) (ev_move rfl) F rfl rfl ?_; clear F a; intro a F
     obtain ⟨y2, hy2, hm⟩ := bind_some hm
     obtain ⟨cs2, hr3, hp2⟩ := elemS (hb_1.mono l2) hy2
     obtain ⟨v2, rfl, h2⟩ := rep_Patch hr3
     refine wq_ev (wn rfl) (ev_idxS (hb_1.mono l2) hy2 tu22 ts38 rfl rfl) F rfl rfl ?_; clear F a; intro a F
     refine wq_ev (wn rfl) (ev_loadA tu38 rfl (cs := [v2]) ts38 rfl (ptr_mono (cks := []) (fr := fr) hp2 (Le.refl _))) F rfl rfl ?_; clear F a; intro a F
     obtain ⟨y3, hy3, hm⟩ := bind_some hm
     refine wq_call (wn rfl) rfl (xs := [.tmp 20, .tmp 24]) (vs := [.agg #[v1], .agg #[v2]]) (cap := []) F rfl rfl tc28 (v := .bool y3) (fun w S => (changeforgeequal_Patch_ok (g := g2) (fr := fr) (w := w) y1 v1 h1 y2 v2 h2 S hy3).mono (by rintro en w' ⟨_, rfl, g2, l2, S2, rfl⟩; exact ⟨rfl, S2.weak l2⟩)) rfl rfl ?_; clear F a; intro a F
     refine wq_ev (wn rfl) (ev_not rfl) F rfl rfl ?_; clear F a; intro a F
     refine wq_nil ?_; clear S; intro w S
     replace F := F.sub (e' := [(26, .bool !y3), (5, .int .i64 x1), (0, va_1), (1, vb_1)]) ⟨rfl, rfl, rfl, rfl, trivial⟩
     refine then_n ?_
     obtain ⟨hc3, hm⟩ | ⟨hc3, hm⟩ := ite_or hm
     ·refine wp_condT F rfl hc3 ?_
      refine wp_seq ?_
      refine wp_region_lit ?_
      refine wl_ev (wn rfl) (ev_assign rfl) F S rfl rfl ?_; clear F a; intro a F
      refine wpList_nil ?_
      replace F := F.sub (e' := [(4, .bool false)]) ⟨rfl, trivial⟩
      refine then_n ?_
      refine wp_ret ?_
      refine inb_r ?_
      refine then_r ?_
      refine then_r ?_
      refine inb_r ?_
      refine then_r ?_
      obtain rfl := sinj hm
      obtain rfl := hfin1 _ rfl
      clear hm
      have hm : (some false : Option Bool) = some _ := hmo1
      obtain rfl := sinj hm
      refine post_r (fn := Try.f14) (rs := [.tmp 4]) [.bool false] F rfl (ar_cons (resT rfl) ar_nil) ?_
      exact ⟨_, rfl, g2, l2, S, rfl⟩
     ·refine wp_condF F rfl hc3 ?_
      refine wp_skip ?_
      refine inb_n ?_
      refine then_n ?_
      refine wp_region_lit ?_
      refine wl_ev (wn rfl) (ev_move rfl) F S rfl rfl ?_; clear F a; intro a F
      obtain ⟨z1, hz1, hm⟩ := bind_some hm
      refine wl_ev (wn rfl) (ev_int rfl rfl (bo_add hz1)) F S rfl rfl ?_; clear F a; intro a F
      refine wl_ev (wn rfl) (ev_assign rfl) F S rfl rfl ?_; clear F a; intro a F
      refine wpList_nil ?_
      replace F := F.sub (e' := [(5, .int .i64 z1), (0, va_1), (1, vb_1)]) ⟨rfl, rfl, rfl, trivial⟩
      refine then_n ?_
      obtain rfl := sinj hm
      refine ⟨_, rfl, ?_⟩
      exact ⟨g2, F.sub ⟨rfl, rfl, rfl, trivial⟩, l2, S⟩
    ·refine wp_condF F rfl hc2 ?_
     refine wp_exit ?_
     refine then_e ?_
     refine then_e ?_
     refine inb_x ?_
     refine then_n ?_
     obtain rfl := sinj hm
     obtain rfl := hfin1 _ rfl
     clear hm
     have hm : (changeforgeequal_Patches.j1 : Option Bool) = some _ := hmo1
     exact ⟨g2, F.sub trivial, l2, S, hm⟩
  ·clear F S hm; rintro a w ⟨g1, F, l1, S, hm⟩
   refine wp_seq ?_
   refine wp_region_lit ?_
   refine wl_ev (wn rfl) (ev_assign rfl) F S rfl rfl ?_; clear F a; intro a F
   refine wpList_nil ?_
   refine then_n ?_
   refine wp_ret ?_
   obtain rfl := sinj hm
   refine post_r (fn := Try.f14) (rs := [.tmp 4]) [.bool true] F rfl (ar_cons (resT rfl) ar_nil) ?_
   exact ⟨_, rfl, g1, l1, S, rfl⟩

theorem lines_Second_ok {g : Gh} {fr : Hl} {w : World} {r : Fault} (b_ : (List ByteArray)) (vb_1 : Value) (hb_1 : RepSl g b_ vb_1) (index : Int) (S : St g [] fr w) (hm : lines_Second b_ index = some r) :
  Calls Try.prog 30 [vb_1, .int .i64 index].toArray w (fun en w' => ∃ v, en = .returned v ∧ ∃ (g' : Gh), Le g g' ∧ St g' [] fr w' ∧ .agg #[.int .i64 r.Code, .int .i64 r.Index] = v) := by
 unfold lines_Second at hm
 refine calls_enter (fn := Try.f30) Try.func30 rfl Try.ntmps30 (lb rfl) ?_
 intro a F
 replace F : Fr 16 a [(0, vb_1), (1, .int .i64 index)] := F
 refine wp_seq ?_
 refine wp_region_lit ?_
 refine wl_alloc (wn rfl) rfl tz24 (cs := [.int .i64 0, .int .i64 0]) rfl F S rfl rfl ?_; clear F a S; rintro b1 a w F S
 refine wpList_nil ?_
 refine then_n ?_
 refine wp_seq ?_
 refine wp_seq ?_
 refine wp_region_lit ?_
 refine wl_ev (wn rfl) (ev_move rfl) F S rfl rfl ?_; clear F a; intro a F
 obtain ⟨y1, hy1, hm⟩ := bind_some hm
 refine wl_call (wn rfl) rfl (xs := [.tmp 6]) (vs := [vb_1]) (cap := []) F rfl rfl tc48 (lines_Validate_ok (g := g) (fr := (fl [[(b1, .cells #[.int .i64 0, .int .i64 0] 24 (0, 0))]] fr)) (w := w) b_ vb_1 hb_1 S hy1) rfl rfl ?_; clear F a S
 rintro _ a w ⟨g1, l1, S, rfl⟩ F; replace S : St g1 [[(b1, .cells #[.int .i64 0, .int .i64 0] 24 (0, 0))]] fr w := S
 refine wl_alloc (wn rfl) rfl tz24 (cs := [.int .i64 0, .int .i64 0]) rfl F S rfl rfl ?_; clear F a S; rintro b2 a w F S
 refine wl_storeC (wn rfl) rfl F S rfl rfl (vs := [.int .i64 y1.Code, .int .i64 y1.Index]) rfl ts24 (one_cons rfl (one_cons rfl one_nil)) (k := 0) rfl (lb rfl) (c' := #[.int .i64 y1.Code, .int .i64 y1.Index]) rfl rfl ?_; clear S; intro w S
 replace S : St g1 [[(b2, .cells #[.int .i64 y1.Code, .int .i64 y1.Index] 24 (0, 0))], [(b1, .cells #[.int .i64 0, .int .i64 0] 24 (0, 0))]] fr w := S
 refine wpList_nil ?_
 replace F := F.sub (e' := [(5, bp b2 0), (4, bp b1 0), (1, .int .i64 index)]) ⟨rfl, rfl, rfl, trivial⟩
 refine then_n ?_
 refine wp_seq ?_
 refine wp_region_lit ?_
 refine wl_ev (wn rfl) (ev_loadA tu24 rfl (cs := [.int .i64 y1.Code, .int .i64 y1.Index]) ts24 rfl (box_ptr (cells := [.int .i64 y1.Code, .int .i64 y1.Index]) 0 rfl 0 rfl (lb rfl))) F S rfl rfl ?_; clear F a; intro a F
 refine wl_ev (wn rfl) (ev_build (parts := []) (vs := []) rfl (fun w => tb24_  w)) F S rfl rfl ?_; clear F a; intro a F
 refine wl_ev (wn rfl) (ev_neS tu24 tqa24 tqb24 tqc24 (xs := [.int .i64 y1.Code, .int .i64 y1.Index]) (ys := [.int .i64 0, .int .i64 0]) rfl rfl ⟨_, _, rfl, by decide, ⟨_, _, rfl, rfl, leaf_int tu3⟩, ⟨_, _, rfl, by decide, ⟨_, _, rfl, rfl, leaf_int tu3⟩, rfl⟩⟩) F S rfl rfl ?_; clear F a; intro a F
 refine wpList_nil ?_
 replace F := F.sub (e' := [(10, .bool (!(decide (y1.Code = 0) && decide (y1.Index = 0)))), (5, bp b2 0), (4, bp b1 0), (1, .int .i64 index)]) ⟨rfl, rfl, rfl, rfl, trivial⟩
 refine then_n ?_
 obtain ⟨hc1, hm⟩ | ⟨hc1, hm⟩ := ite_or hm
 ·refine wp_condT F rfl hc1 ?_
  refine wp_seq ?_
  refine wp_region_lit ?_
  refine wl_ev (wn rfl) (ev_fieldAddr' tu24 tf24_0 (z := 0) ts3 rfl ⟨_, rfl⟩ rfl) F S rfl rfl ?_; clear F a; intro a F
  refine wl_ev (wn rfl) (ev_load1 tu3 rfl rfl (box_ptr (cells := [.int .i64 y1.Code]) 0 rfl 0 rfl (lb rfl))) F S rfl rfl ?_; clear F a; intro a F
  refine wl_ev (wn rfl) (ev_move rfl) F S rfl rfl ?_; clear F a; intro a F
  refine wl_ev (wn rfl) (ev_build (parts := [(0, .tmp 12), (1, .tmp 13)]) (vs := [(0, .int .i64 y1.Code), (1, .int .i64 index)]) rfl (fun w => tb24_0_1 y1.Code index w)) F S rfl rfl ?_; clear F a; intro a F
  refine wl_storeC (wn rfl) rfl F S rfl rfl (vs := [.int .i64 y1.Code, .int .i64 index]) rfl ts24 (one_cons rfl (one_cons rfl one_nil)) (k := 1) rfl (lb rfl) (c' := #[.int .i64 y1.Code, .int .i64 index]) rfl rfl ?_; clear S; intro w S
  replace S : St g1 [[(b2, .cells #[.int .i64 y1.Code, .int .i64 y1.Index] 24 (0, 0))], [(b1, .cells #[.int .i64 y1.Code, .int .i64 index] 24 (0, 0))]] fr w := S
  refine wpList_nil ?_
  replace F := F.sub (e' := [(4, bp b1 0)]) ⟨rfl, trivial⟩
  refine then_n ?_
  refine wp_ret ?_
  refine then_r ?_
  obtain rfl := sinj hm
  refine post_r (fn := Try.f30) (rs := [.cell 4 24]) [.agg #[.int .i64 y1.Code, .int .i64 index]] F rfl (ar_cons (resA rfl tu24 rfl ts24 (box_ptr (cells := [.int .i64 y1.Code, .int .i64 index]) 1 rfl 0 rfl (lb rfl) w S)) ar_nil) ?_
  replace S : St g1 [] fr w := St.tail [] _ S
  exact ⟨_, rfl, g1, l1, S, rfl⟩
 ·refine wp_condF F rfl hc1 ?_
  refine wp_skip ?_
  refine then_n ?_
  refine wp_seq ?_
  refine wp_region_lit ?_
  refine wl_ev (wn rfl) (ev_build (parts := []) (vs := []) rfl (fun w => tb24_  w)) F S rfl rfl ?_; clear F a; intro a F
  refine wl_storeC (wn rfl) rfl F S rfl rfl (vs := [.int .i64 0, .int .i64 0]) rfl ts24 (one_cons rfl (one_cons rfl one_nil)) (k := 1) rfl (lb rfl) (c' := #[.int .i64 0, .int .i64 0]) rfl rfl ?_; clear S; intro w S
  replace S : St g1 [[(b2, .cells #[.int .i64 y1.Code, .int .i64 y1.Index] 24 (0, 0))], [(b1, .cells #[.int .i64 0, .int .i64 0] 24 (0, 0))]] fr w := S
  refine wpList_nil ?_
  replace F := F.sub (e' := [(4, bp b1 0)]) ⟨rfl, trivial⟩
  refine then_n ?_
  refine wp_ret ?_
  obtain rfl := sinj hm
  refine post_r (fn := Try.f30) (rs := [.cell 4 24]) [.agg #[.int .i64 0, .int .i64 0]] F rfl (ar_cons (resA rfl tu24 rfl ts24 (box_ptr (cells := [.int .i64 0, .int .i64 0]) 1 rfl 0 rfl (lb rfl) w S)) ar_nil) ?_
  replace S : St g1 [] fr w := St.tail [] _ S
  exact ⟨_, rfl, g1, l1, S, rfl⟩

theorem slices_Equal_ok {g : Gh} {fr : Hl} {w : World} {r : Bool} (s1_ : (List ByteArray)) (vs1_1 : Value) (hs1_1 : RepSl g s1_ vs1_1) (s2_ : (List ByteArray)) (vs2_1 : Value) (hs2_1 : RepSl g s2_ vs2_1) (S : St g [] fr w) (hm : slices_Equal s1_ s2_ = some r) :
  Calls Try.prog 54 [vs1_1, vs2_1].toArray w (fun en w' => ∃ v, en = .returned v ∧ ∃ (g' : Gh), Le g g' ∧ St g' [] fr w' ∧ .bool r = v) := by
 unfold slices_Equal at hm
 refine calls_enter (fn := Try.f54) Try.func54 rfl Try.ntmps54 (lb rfl) ?_
 intro a F
 replace F : Fr 26 a [(0, vs1_1), (1, vs2_1)] := F
 refine wp_seq ?_
 refine wp_region_lit ?_
 refine wl_ev (wn rfl) (ev_assign rfl) F S rfl rfl ?_; clear F a; intro a F
 refine wpList_nil ?_
 replace F := F.sub (e' := [(0, vs1_1), (1, vs2_1)]) ⟨rfl, rfl, trivial⟩
 refine then_n ?_
 refine wp_seq ?_
 refine wp_seq ?_
 refine wp_region_lit ?_
 refine wl_ev (wn rfl) (ev_move rfl) F S rfl rfl ?_; clear F a; intro a F
 refine wl_ev (wn rfl) (ev_lenSh hs1_1 rfl tu31) F S rfl rfl ?_; clear F a; intro a F
 refine wl_ev (wn rfl) (ev_move rfl) F S rfl rfl ?_; clear F a; intro a F
 refine wl_ev (wn rfl) (ev_lenSh hs2_1 rfl tu31) F S rfl rfl ?_; clear F a; intro a F
 refine wl_ev (wn rfl) (ev_int rfl rfl (bo_neq _ _ _ _)) F S rfl rfl ?_; clear F a; intro a F
 refine wpList_nil ?_
 replace F := F.sub (e' := [(10, .bool (!decide ((s1_.length : Int) = (s2_.length : Int)))), (0, vs1_1), (1, vs2_1)]) ⟨rfl, rfl, rfl, trivial⟩
 refine then_n ?_
 obtain ⟨hc1, hm⟩ | ⟨hc1, hm⟩ := ite_or hm
 ·refine wp_condT F rfl hc1 ?_
  refine wp_seq ?_
  refine wp_region_lit ?_
  refine wl_ev (wn rfl) (ev_assign rfl) F S rfl rfl ?_; clear F a; intro a F
  refine wpList_nil ?_
  replace F := F.sub (e' := [(4, .bool false)]) ⟨rfl, trivial⟩
  refine then_n ?_
  refine wp_ret ?_
  refine then_r ?_
  obtain rfl := sinj hm
  refine post_r (fn := Try.f54) (rs := [.tmp 4]) [.bool false] F rfl (ar_cons (resT rfl) ar_nil) ?_
  exact ⟨_, rfl, g, (Le.refl _), S, rfl⟩
 ·refine wp_condF F rfl hc1 ?_
  refine wp_skip ?_
  refine then_n ?_
  refine wp_cut (fun a w => ∃ (g1 : Gh), Fr 26 a [] ∧ Le g g1 ∧ St g1 [] fr w ∧ slices_Equal.j1 = some r) ?_ ?_
  ·refine wp_seq ?_
   refine wp_region_lit ?_
   refine wl_ev (wn rfl) (ev_move rfl) F S rfl rfl ?_; clear F a; intro a F
   refine wl_ev (wn rfl) (ev_lenSh hs1_1 rfl tu31) F S rfl rfl ?_; clear F a; intro a F
   refine wl_ev (wn rfl) (ev_move rfl) F S rfl rfl ?_; clear F a; intro a F
   refine wpList_nil ?_
   replace F := F.sub (e' := [(13, .int .i64 0), (12, .int .i64 (s1_.length : Int)), (0, vs1_1), (1, vs2_1)]) ⟨rfl, rfl, rfl, rfl, trivial⟩
   refine then_n ?_
   refine wp_block ?_
   obtain ⟨r1, hr1, hm⟩ := bind_some hm
   have hmo1 := hm; clear hm
   refine wp_iter (σ := Int) (ρ := Bool ⊕ Unit) (m := fun s => slices_Equal.l1 s1_ s2_ s) (I := fun x1 a w => ∃ (g2 : Gh), Fr 26 a [(13, .int .i64 x1), (12, .int .i64 (s1_.length : Int)), (0, vs1_1), (1, vs2_1)] ∧ Le g g2 ∧ St g2 [] fr w) hr1 ?_ ?_
   ·exact ⟨g, F.sub ⟨rfl, rfl, rfl, rfl, trivial⟩, (Le.refl _), S⟩
   ·clear F S; rintro x1 a w x2 ⟨g2, F, l2, S⟩ hx1 hfin1
    have hm : slices_Equal.l1 s1_ s2_ x1 = some x2 := hx1; clear hx1
    unfold slices_Equal.l1 at hm
    refine wp_seq ?_
    refine wp_region_lit ?_
    refine wl_ev (wn rfl) (ev_int rfl rfl (bo_lss _ _ _ _)) F S rfl rfl ?_; clear F a; intro a F
    refine wpList_nil ?_
    refine then_n ?_
    refine wp_seq ?_
    obtain ⟨hc2, hm⟩ | ⟨hc2, hm⟩ := ite_or hm
    ·refine wp_condT F rfl hc2 ?_
     refine wp_skip ?_
     refine then_n ?_
     refine wp_seq ?_
     refine wp_block ?_
     refine wp_seq ?_
     refine wp_region_lit ?_
     refine wl_ev (wn rfl) (ev_move rfl) F S rfl rfl ?_; clear F a; intro a F
     refine wl_ev (wn rfl) (ev_assign rfl) F S rfl rfl ?_; clear F a; intro a F
     refine wpList_nil ?_
     replace F := F.sub (e' := [(5, .int .i64 x1), (13, .int .i64 x1), (12, .int .i64 (s1_.length : Int)), (0, vs1_1), (1, vs2_1)]) ⟨rfl, rfl, rfl, rfl, rfl, trivial⟩
     refine then_n ?_
     refine wp_seq ?_
     refine wp_quiet mo (by kernel_rfl) S ?_
     refine wq_ev (wn rfl) (ev_move rfl) F rfl rfl ?_; clear F a; intro a F
     refine wq_ev (wn rfl) (ev_move rfl) F rfl rfl ?_; clear F a; intro a F
     obtain ⟨y1, hy1, hm⟩ := bind_some hm
     obtain ⟨cs1, hr2, hp1⟩ := elemS (hs1_1.mono l2) hy1
     obtain rfl := rep_str hr2
     refine wq_ev (wn rfl) (ev_idxS (hs1_1.mono l2) hy1 tu31 ts9 rfl rfl) F rfl rfl ?_; clear F a; intro a F
     refine wq_ev (wn rfl) (ev_load1 tu9 rfl rfl (ptr_mono (cks := []) (fr := fr) hp1 (Le.refl _))) F rfl rfl ?_; clear F a; intro a F
     refine wq_ev (wn rfl) (ev_move rfl) F rfl rfl ?_; clear F a; intro a F
     refine wq_ev (wn rfl) (ev_move rfl) F rfl rfl ?_; clear F a; intro a F
     obtain ⟨y2, hy2, hm⟩ := bind_some hm
     obtain ⟨cs2, hr3, hp2⟩ := elemS (hs2_1.mono l2) hy2
     obtain rfl := rep_str hr3
     refine wq_ev (wn rfl) (ev_idxS (hs2_1.mono l2) hy2 tu31 ts9 rfl rfl) F rfl rfl ?_; clear F a; intro a F
     refine wq_ev (wn rfl) (ev_load1 tu9 rfl rfl (ptr_mono (cks := []) (fr := fr) hp2 (Le.refl _))) F rfl rfl ?_; clear F a; intro a F
     refine wq_ev (wn rfl) (ev_str rfl rfl (bs_neq _ _ _)) F rfl rfl ?_; clear F a; intro a F
     refine wq_nil ?_; clear S; intro w S
     replace F := F.sub (e' := [(24, .bool (!decide (y1 = y2))), (13, .int .i64 x1), (12, .int .i64 (s1_.length : Int)), (0, vs1_1), (1, vs2_1)]) ⟨rfl, rfl, rfl, rfl, rfl, trivial⟩
     refine then_n ?_
     obtain ⟨hc3, hm⟩ | ⟨hc3, hm⟩ := ite_or hm
     ·refine wp_condT F rfl hc3 ?_
      refine wp_seq ?_
      refine wp_region_lit ?_
      refine wl_ev (wn rfl) (ev_assign rfl) F S rfl rfl ?_; clear F a; intro a F
      refine wpList_nil ?_
      replace F := F.sub (e' := [(4, .bool false)]) ⟨rfl, trivial⟩
      refine then_n ?_
      refine wp_ret ?_
      refine inb_r ?_
      refine then_r ?_
      refine then_r ?_
      refine inb_r ?_
      refine then_r ?_
      obtain rfl := sinj hm
      obtain rfl := hfin1 _ rfl
      clear hm
      have hm : (some false : Option Bool) = some _ := hmo1
      obtain rfl := sinj hm
      refine post_r (fn := Try.f54) (rs := [.tmp 4]) [.bool false] F rfl (ar_cons (resT rfl) ar_nil) ?_
      exact ⟨_, rfl, g2, l2, S, rfl⟩
     ·refine wp_condF F rfl hc3 ?_
      refine wp_skip ?_
      refine inb_n ?_
      refine then_n ?_
      refine wp_region_lit ?_
      obtain ⟨z1, hz1, hm⟩ := bind_some hm
      refine wl_ev (wn rfl) (ev_int rfl rfl (bo_add hz1)) F S rfl rfl ?_; clear F a; intro a F
      refine wl_ev (wn rfl) (ev_move rfl) F S rfl rfl ?_; clear F a; intro a F
      refine wpList_nil ?_
      replace F := F.sub (e' := [(13, .int .i64 z1), (12, .int .i64 (s1_.length : Int)), (0, vs1_1), (1, vs2_1)]) ⟨rfl, rfl, rfl, rfl, trivial⟩
      refine then_n ?_
      obtain rfl := sinj hm
      refine ⟨_, rfl, ?_⟩
      exact ⟨g2, F.sub ⟨rfl, rfl, rfl, rfl, trivial⟩, l2, S⟩
    ·refine wp_condF F rfl hc2 ?_
     refine wp_exit ?_
     refine then_e ?_
     refine then_e ?_
     refine inb_x ?_
     refine then_n ?_
     obtain rfl := sinj hm
     obtain rfl := hfin1 _ rfl
     clear hm
     have hm : (slices_Equal.j1 : Option Bool) = some _ := hmo1
     exact ⟨g2, F.sub trivial, l2, S, hm⟩
  ·clear F S hm; rintro a w ⟨g1, F, l1, S, hm⟩
   refine wp_seq ?_
   refine wp_region_lit ?_
   refine wl_ev (wn rfl) (ev_assign rfl) F S rfl rfl ?_; clear F a; intro a F
   refine wpList_nil ?_
   refine then_n ?_
   refine wp_ret ?_
   obtain rfl := sinj hm
   refine post_r (fn := Try.f54) (rs := [.tmp 4]) [.bool true] F rfl (ar_cons (resT rfl) ar_nil) ?_
   exact ⟨_, rfl, g1, l1, S, rfl⟩

theorem lines_Occurs_ok {g : Gh} {fr : Hl} {w : World} {r : Bool} (text : (List ByteArray)) (vtext1 : Value) (htext1 : RepSl g text vtext1) (part : (List ByteArray)) (vpart1 : Value) (hpart1 : RepSl g part vpart1) (at_ : Int) (S : St g [] fr w) (hm : lines_Occurs text part at_ = some r) :
  Calls Try.prog 38 [vtext1, vpart1, .int .i64 at_].toArray w (fun en w' => ∃ v, en = .returned v ∧ ∃ (g' : Gh), Le g g' ∧ St g' [] fr w' ∧ .bool r = v) := by
 unfold lines_Occurs at hm
 refine calls_enter (fn := Try.f38) Try.func38 rfl Try.ntmps38 (lb rfl) ?_
 intro a F
 replace F : Fr 35 a [(0, vtext1), (1, vpart1), (2, .int .i64 at_)] := F
 refine wp_seq ?_
 refine wp_region_lit ?_
 refine wl_ev (wn rfl) (ev_assign rfl) F S rfl rfl ?_; clear F a; intro a F
 refine wpList_nil ?_
 replace F := F.sub (e' := [(0, vtext1), (1, vpart1), (2, .int .i64 at_)]) ⟨rfl, rfl, rfl, trivial⟩
 refine then_n ?_
 refine wp_seq ?_
 refine wp_region_lit ?_
 refine wl_ev (wn rfl) (ev_move rfl) F S rfl rfl ?_; clear F a; intro a F
 refine wl_ev (wn rfl) (ev_int rfl rfl (bo_geq _ _ _ _)) F S rfl rfl ?_; clear F a; intro a F
 refine wl_ev (wn rfl) (ev_move rfl) F S rfl rfl ?_; clear F a; intro a F
 obtain ⟨x1, hx1, hm⟩ := bind_some hm
 refine wl_cut 5 (fun a w' => w = w' ∧ Fr 35 a [(14, .bool x1), (0, vtext1), (1, vpart1), (2, .int .i64 at_)]) ?_ ?_
 ·clear hm; obtain ⟨hc1, hm⟩ | ⟨hc1, hm⟩ := ite_or hx1
  ·refine wl_ev (wg F rfl rfl rfl rfl hc1) (ev_move rfl) F S rfl rfl ?_; clear F a; intro a F
   refine wl_ev (wg F rfl rfl rfl rfl hc1) (ev_move rfl) F S rfl rfl ?_; clear F a; intro a F
   refine wl_ev (wg F rfl rfl rfl rfl hc1) (ev_lenSh htext1 rfl tu31) F S rfl rfl ?_; clear F a; intro a F
   refine wl_ev (wg F rfl rfl rfl rfl hc1) (ev_int rfl rfl (bo_leq _ _ _ _)) F S rfl rfl ?_; clear F a; intro a F
   refine wl_ev (wn rfl) (ev_pickT rfl hc1 rfl) F S rfl rfl ?_; clear F a; intro a F
   obtain rfl := sinj hm
   refine wpList_nil (then_n ?_); exact ⟨rfl, F.sub ⟨rfl, rfl, rfl, rfl, trivial⟩⟩
  ·refine wl_skip rfl rfl rfl rfl (ne_tf hc1) F rfl rfl ?_; clear F a; intro a F
   refine wl_skip rfl rfl rfl rfl (ne_tf hc1) F rfl rfl ?_; clear F a; intro a F
   refine wl_skip rfl rfl rfl rfl (ne_tf hc1) F rfl rfl ?_; clear F a; intro a F
   refine wl_skip rfl rfl rfl rfl (ne_tf hc1) F rfl rfl ?_; clear F a; intro a F
   refine wl_ev (wn rfl) (ev_pickF rfl hc1 rfl) F S rfl rfl ?_; clear F a; intro a F
   obtain rfl := sinj hm
   refine wpList_nil (then_n ?_); exact ⟨rfl, F.sub ⟨rfl, rfl, rfl, rfl, trivial⟩⟩
 clear F; rintro a w' ⟨rfl, F⟩
 refine wl_ev (wn rfl) (ev_move rfl) F S rfl rfl ?_; clear F a; intro a F
 obtain ⟨x2, hx2, hm⟩ := bind_some hm
 refine wl_cut 8 (fun a w' => w = w' ∧ Fr 35 a [(23, .bool x2), (0, vtext1), (1, vpart1), (2, .int .i64 at_)]) ?_ ?_
 ·clear hm; obtain ⟨hc2, hm⟩ | ⟨hc2, hm⟩ := ite_or hx2
  ·refine wl_ev (wg F rfl rfl rfl rfl hc2) (ev_move rfl) F S rfl rfl ?_; clear F a; intro a F
   refine wl_ev (wg F rfl rfl rfl rfl hc2) (ev_lenSh hpart1 rfl tu31) F S rfl rfl ?_; clear F a; intro a F
   refine wl_ev (wg F rfl rfl rfl rfl hc2) (ev_move rfl) F S rfl rfl ?_; clear F a; intro a F
   refine wl_ev (wg F rfl rfl rfl rfl hc2) (ev_lenSh htext1 rfl tu31) F S rfl rfl ?_; clear F a; intro a F
   refine wl_ev (wg F rfl rfl rfl rfl hc2) (ev_move rfl) F S rfl rfl ?_; clear F a; intro a F
   obtain ⟨z1, hz1, hm⟩ := bind_some hm
   refine wl_ev (wg F rfl rfl rfl rfl hc2) (ev_int rfl rfl (bo_sub hz1)) F S rfl rfl ?_; clear F a; intro a F
   refine wl_ev (wg F rfl rfl rfl rfl hc2) (ev_int rfl rfl (bo_leq _ _ _ _)) F S rfl rfl ?_; clear F a; intro a F
   refine wl_ev (wn rfl) (ev_pickT rfl hc2 rfl) F S rfl rfl ?_; clear F a; intro a F
   obtain rfl := sinj hm
   refine wpList_nil (then_n ?_); exact ⟨rfl, F.sub ⟨rfl, rfl, rfl, rfl, trivial⟩⟩
  ·refine wl_skip rfl rfl rfl rfl (ne_tf hc2) F rfl rfl ?_; clear F a; intro a F
   refine wl_skip rfl rfl rfl rfl (ne_tf hc2) F rfl rfl ?_; clear F a; intro a F
   refine wl_skip rfl rfl rfl rfl (ne_tf hc2) F rfl rfl ?_; clear F a; intro a F
   refine wl_skip rfl rfl rfl rfl (ne_tf hc2) F rfl rfl ?_; clear F a; intro a F
   refine wl_skip rfl rfl rfl rfl (ne_tf hc2) F rfl rfl ?_; clear F a; intro a F
   refine wl_skip rfl rfl rfl rfl (ne_tf hc2) F rfl rfl ?_; clear F a; intro a F
   refine wl_skip rfl rfl rfl rfl (ne_tf hc2) F rfl rfl ?_; clear F a; intro a F
   refine wl_ev (wn rfl) (ev_pickF rfl hc2 rfl) F S rfl rfl ?_; clear F a; intro a F
   obtain rfl := sinj hm
   refine wpList_nil (then_n ?_); exact ⟨rfl, F.sub ⟨rfl, rfl, rfl, rfl, trivial⟩⟩
 clear F; rintro a w' ⟨rfl, F⟩
 refine wl_ev (wn rfl) (ev_move rfl) F S rfl rfl ?_; clear F a; intro a F
 obtain ⟨x3, hx3, hm⟩ := bind_some hm
 refine wl_cut 10 (fun a w => ∃ g1, Fr 35 a [(34, .bool x3)] ∧ Le g g1 ∧ St g1 [] fr w) ?_ ?_
 ·clear hm; obtain ⟨hc3, hm⟩ | ⟨hc3, hm⟩ := ite_or hx3
  ·refine wl_ev (wg F rfl rfl rfl rfl hc3) (ev_move rfl) F S rfl rfl ?_; clear F a; intro a F
   refine wl_ev (wg F rfl rfl rfl rfl hc3) (ev_move rfl) F S rfl rfl ?_; clear F a; intro a F
   refine wl_ev (wg F rfl rfl rfl rfl hc3) (ev_move rfl) F S rfl rfl ?_; clear F a; intro a F
   refine wl_ev (wg F rfl rfl rfl rfl hc3) (ev_move rfl) F S rfl rfl ?_; clear F a; intro a F
   refine wl_ev (wg F rfl rfl rfl rfl hc3) (ev_lenSh hpart1 rfl tu31) F S rfl rfl ?_; clear F a; intro a F
   obtain ⟨z2, hz2, hm⟩ := bind_some hm
   refine wl_ev (wg F rfl rfl rfl rfl hc3) (ev_int rfl rfl (bo_add hz2)) F S rfl rfl ?_; clear F a; intro a F
   obtain ⟨y1, hy1, hm⟩ := bind_some hm
   refine wl_cutS (wg F rfl rfl rfl rfl hc3) rfl htext1 hy1 tu31 ts9 rfl (bndV rfl) (bndV rfl) F rfl rfl ?_; clear F a; rintro v1 h1 a F
   refine wl_ev (wg F rfl rfl rfl rfl hc3) (ev_move rfl) F S rfl rfl ?_; clear F a; intro a F
   obtain ⟨y2, hy2, hm⟩ := bind_some hm
   refine wl_call (wg F rfl rfl rfl rfl hc3) rfl (xs := [.tmp 31, .tmp 32]) (vs := [v1, vpart1]) (cap := []) F rfl rfl tc54 (slices_Equal_ok (g := g) (fr := fr) (w := w) y1 v1 h1 part vpart1 hpart1 S hy2) rfl rfl ?_; clear F a S
   rintro _ a w ⟨g2, l2, S, rfl⟩ F; replace S : St g2 [] fr w := S
   refine wl_ev (wn rfl) (ev_pickT rfl hc3 rfl) F S rfl rfl ?_; clear F a; intro a F
   obtain rfl := sinj hm
   refine wpList_nil (then_n ?_); exact ⟨g2, F.sub ⟨rfl, trivial⟩, l2, S⟩
  ·refine wl_skip rfl rfl rfl rfl (ne_tf hc3) F rfl rfl ?_; clear F a; intro a F
   refine wl_skip rfl rfl rfl rfl (ne_tf hc3) F rfl rfl ?_; clear F a; intro a F
   refine wl_skip rfl rfl rfl rfl (ne_tf hc3) F rfl rfl ?_; clear F a; intro a F
   refine wl_skip rfl rfl rfl rfl (ne_tf hc3) F rfl rfl ?_; clear F a; intro a F
   refine wl_skip rfl rfl rfl rfl (ne_tf hc3) F rfl rfl ?_; clear F a; intro a F
   refine wl_skip rfl rfl rfl rfl (ne_tf hc3) F rfl rfl ?_; clear F a; intro a F
   refine wl_skip rfl rfl rfl rfl (ne_tf hc3) F rfl rfl ?_; clear F a; intro a F
   refine wl_skip rfl rfl rfl rfl (ne_tf hc3) F rfl rfl ?_; clear F a; intro a F
   refine wl_skip rfl rfl rfl rfl (ne_tf hc3) F rfl rfl ?_; clear F a; intro a F
   refine wl_ev (wn rfl) (ev_pickF rfl hc3 rfl) F S rfl rfl ?_; clear F a; intro a F
   obtain rfl := sinj hm
   refine wpList_nil (then_n ?_); exact ⟨g, F.sub ⟨rfl, trivial⟩, (Le.refl _), S⟩
 clear F S; rintro a w ⟨g1, F, l1, S⟩
 refine wl_ev (wn rfl) (ev_assign rfl) F S rfl rfl ?_; clear F a; intro a F
 refine wpList_nil ?_
 replace F := F.sub (e' := [(6, .bool x3)]) ⟨rfl, trivial⟩
 refine then_n ?_
 refine wp_ret ?_
 obtain rfl := sinj hm
 refine post_r (fn := Try.f38) (rs := [.tmp 6]) [.bool x3] F rfl (ar_cons (resT rfl) ar_nil) ?_
 exact ⟨_, rfl, g1, l1, S, rfl⟩

theorem textpatch_Raw_ok {g : Gh} {fr : Hl} {w : World} {r : (List ByteArray)} (hunks : (List Hunk)) (vhunks1 : Value) (hhunks1 : RepSl g hunks vhunks1) (text : (List ByteArray)) (vtext1 : Value) (htext1 : RepSl g text vtext1) (low : Int) (high : Int) (S : St g [] fr w) (hm : textpatch_Raw hunks text low high = some r) :
  Calls Try.prog 39 [vhunks1, vtext1, .int .i64 low, .int .i64 high].toArray w (fun en w' => ∃ v, en = .returned v ∧ ∃ (g' : Gh) (v1 : Value) (c1 : Hl), Le g g' ∧ St g' [c1] fr w' ∧ OwnS g' r v1 c1 ∧ v1 = v) := by
 unfold textpatch_Raw at hm
 refine calls_enter (fn := Try.f39) Try.func39 rfl Try.ntmps39 (lb rfl) ?_
 intro a F
 replace F : Fr 37 a [(0, vhunks1), (1, vtext1), (2, .int .i64 low), (3, .int .i64 high)] := F
 refine wp_seq ?_
 refine wp_region_lit ?_
 refine wl_ev (wn rfl) (ev_assign rfl) F S rfl rfl ?_; clear F a; intro a F
 refine wpList_nil ?_
 replace F := F.sub (e' := [(0, vhunks1), (1, vtext1), (2, .int .i64 low), (3, .int .i64 high)]) ⟨rfl, rfl, rfl, rfl, trivial⟩
 refine then_n ?_
 refine wp_seq ?_
 refine wp_region_lit ?_
 refine wl_ev (wn rfl) (ev_assign rfl) F S rfl rfl ?_; clear F a; intro a F
 refine wpList_nil ?_
 refine then_n ?_
 refine wp_cut (fun a w => ∃ (x1 : List ByteArray) (x2 : Int) (v1 : Value) (c1 : Hl) (g1 : Gh), Fr 37 a [(9, v1), (1, vtext1), (2, .int .i64 x2), (3, .int .i64 high)] ∧ Le g g1 ∧ St g1 [c1] fr w ∧ OwnS g1 x1 v1 c1 ∧ textpatch_Raw.j1 text high x1 x2 = some r) ?_ ?_
 ·refine wp_seq ?_
  refine wp_region_lit ?_
  refine wl_ev (wn rfl) (ev_move rfl) F S rfl rfl ?_; clear F a; intro a F
  refine wl_ev (wn rfl) (ev_lenSh hhunks1 rfl tu36) F S rfl rfl ?_; clear F a; intro a F
  refine wl_ev (wn rfl) (ev_move rfl) F S rfl rfl ?_; clear F a; intro a F
  refine wpList_nil ?_
  replace F := F.sub (e' := [(14, .int .i64 0), (13, .int .i64 (hunks.length : Int)), (12, vhunks1), (9, nilS), (1, vtext1), (2, .int .i64 low), (3, .int .i64 high)]) ⟨rfl, rfl, rfl, rfl, rfl, rfl, rfl, trivial⟩
  refine then_n ?_
  refine wp_block ?_
  obtain ⟨r1, hr2, hm⟩ := bind_some hm
  have hmo1 := hm; clear hm
  refine wp_iter (σ := Int × (List ByteArray) × Int) (ρ := (List ByteArray) × Int) (m := fun s => textpatch_Raw.l1 hunks text s.1 s.2.1 s.2.2) (I := fun s a w => match s with | (x3, x4, x5) => ∃ (v4 : Value) (c3 : Hl) (g2 : Gh), Fr 37 a [(14, .int .i64 x3), (13, .int .i64 (hunks.length : Int)), (12, vhunks1), (9, v4), (1, vtext1), (2, .int .i64 x5), (3, .int .i64 high)] ∧ Le g g2 ∧ St g2 [c3] fr w ∧ OwnS g2 x4 v4 c3) hr2 ?_ ?_
  ·dsimp only
   replace S : St g [[]] fr w := S
   exact ⟨(nilS), [], g, F.sub ⟨rfl, rfl, rfl, rfl, rfl, rfl, rfl, trivial⟩, (Le.refl _), S, (OwnS.nil _)⟩
  ·clear F S; rintro ⟨x3, x4, x5⟩ a w x6 ⟨v4, c3, g2, F, l2, S, h4⟩ hx1 hfin1
   have hm : textpatch_Raw.l1 hunks text x3 x4 x5 = some x6 := hx1; clear hx1
   unfold textpatch_Raw.l1 at hm
   refine wp_seq ?_
   refine wp_region_lit ?_
   refine wl_ev (wn rfl) (ev_int rfl rfl (bo_lss _ _ _ _)) F S rfl rfl ?_; clear F a; intro a F
   refine wpList_nil ?_
   refine then_n ?_
   refine wp_seq ?_
   obtain ⟨hc1, hm⟩ | ⟨hc1, hm⟩ := ite_or hm
   ·refine wp_condT F rfl hc1 ?_
    refine wp_skip ?_
    refine then_n ?_
    refine wp_seq ?_
    refine wp_block ?_
    refine wp_seq ?_
    refine wp_region_lit ?_
    obtain ⟨y3, hy3, hm⟩ := bind_some hm
    obtain ⟨cs2, hr3, hp1⟩ := elemS (hhunks1.mono l2) hy3
    obtain ⟨v5, v6, rfl, h5, h6⟩ := rep_Hunk hr3
    refine wl_ev (wn rfl) (ev_idxS (hhunks1.mono l2) hy3 tu36 ts60 rfl rfl) F S rfl rfl ?_; clear F a; intro a F
    refine wl_ev (wn rfl) (ev_loadA tu60 rfl (cs := [.int .i64 y3.At, v5, v6]) ts60 rfl (ptr_mono (cks := [c3]) (fr := fr) hp1 (Le.refl _))) F S rfl rfl ?_; clear F a; intro a F
    refine wl_alloc (wn rfl) rfl tz60 (cs := [.int .i64 0, nilS, nilS]) rfl F S rfl rfl ?_; clear F a S; rintro b1 a w F S
    refine wl_storeC (wn rfl) rfl F S rfl rfl (vs := [.int .i64 y3.At, v5, v6]) rfl ts60 (one_cons rfl (one_cons h5.one (one_cons h6.one one_nil))) (k := 0) rfl (lb rfl) (c' := #[.int .i64 y3.At, v5, v6]) rfl rfl ?_; clear S; intro w S
    replace S : St g2 [[(b1, .cells #[.int .i64 y3.At, v5, v6] 60 (0, 0))], c3] fr w := S
    refine wpList_nil ?_
    replace F := F.sub (e' := [(11, bp b1 0), (14, .int .i64 x3), (13, .int .i64 (hunks.length : Int)), (12, vhunks1), (9, v4), (1, vtext1), (2, .int .i64 x5), (3, .int .i64 high)]) ⟨rfl, rfl, rfl, rfl, rfl, rfl, rfl, rfl, trivial⟩
    refine then_n ?_
    refine wp_seq ?_
    obtain ⟨y4, hy4, hm⟩ := bind_some hm
    obtain ⟨y5, hy5, hm⟩ := bind_some hm
    obtain ⟨y6, hy6, hm⟩ := bind_some hm
    refine wp_drawL ⟨2, [[18], [19], [20], [21], [22], [23], [24], [25], [26], [27], [9, 27]], [[], [], [], [], [], [], [12], [], [], [6], []], [[], [], [], [], [11], [], [], [], [11], [], []], [[9], [1], [2], [11], [], [], [], [11], [], [], []], [[], [], [], [], [3], [1, 2, 4], [0, 5], [], [7], [6, 8], [9]], [11, 14, 13, 12, 1, 3], [0, 1, 2, 3, 4, 5, 7, 8, 9, 10, 11]⟩
     [([18], fun us g c => us = [v4]),
      ([19], fun us g c => us = [vtext1]),
      ([20], fun us g c => us = [.int .i64 x5]),
      ([21], fun us g c => us = [bp b1 0]),
      ([22], fun us g c => us = [.int .i64 y3.At]),
      ([23], fun us g c => ∃ v7 : Value, us = [v7] ∧ RepSl g y4 v7),
      ([24], fun us g c => ∃ v8 : Value, us = [v8] ∧ OwnS g y5 v8 c),
      ([25], fun us g c => us = [bp b1 2]),
      ([26], fun us g c => us = [v6]),
      ([27], fun us g c => ∃ v9 : Value, us = [v9] ∧ OwnS g y6 v9 c),
      ([9, 27], fun us g c => ∃ v9 : Value, us = [v9, v9])]
     mo (by kernel_rfl) rfl rfl ⟨fun _ _ _ _ _ h => h, fun _ _ _ _ _ h => h, fun _ _ _ _ _ h => h, fun _ _ _ _ _ h => h, fun _ _ _ _ _ h => h, fun _ _ _ _ l ⟨x0, e0, h0⟩ => ⟨x0, e0, h0.mono l⟩, fun _ _ _ _ l ⟨x0, e0, h0⟩ => ⟨x0, e0, h0.mono l⟩, fun _ _ _ _ _ h => h, fun _ _ _ _ _ h => h, fun _ _ _ _ l ⟨x0, e0, h0⟩ => ⟨x0, e0, h0.mono l⟩, fun _ _ _ _ _ h => h, trivial⟩ F S ⟨?_, ?_, ?_, ?_, ?_, ?_, ?_, ?_, ?_, ?_, ?_, trivial⟩ ?_
    ·intro a w gd1 c fr hsz hdf hK ld1 hN hI S
     have F : Fr 37 a [(9, v4)] := Fr.of hsz hdf ⟨hK 9 (by decide) _ rfl, trivial⟩
     replace S : St gd1 [] fr w := S.of_eq (flat2 _ _ _ _)
     refine wl_ev (wn rfl) (ev_move rfl) F S rfl rfl ?_; clear F; intro a F
     refine wpList_nil ⟨rfl, F.sz, F.df, _, [], (Le.refl _), ?_, (lst1 (F.get 18 _ rfl))⟩
     refine St0.of_eq ?_ (flat3 c [] [] fr).symm
     show St0 _ (fl ([] ++ []) fr) _
     exact S
    ·intro a w gd1 c fr hsz hdf hK ld1 hN hI S
     have F : Fr 37 a [(1, vtext1)] := Fr.of hsz hdf ⟨hK 1 (by decide) _ rfl, trivial⟩
     replace S : St gd1 [] fr w := S.of_eq (flat2 _ _ _ _)
     refine wl_ev (wn rfl) (ev_move rfl) F S rfl rfl ?_; clear F; intro a F
     refine wpList_nil ⟨rfl, F.sz, F.df, _, [], (Le.refl _), ?_, (lst1 (F.get 19 _ rfl))⟩
     refine St0.of_eq ?_ (flat3 c [] [] fr).symm
     show St0 _ (fl ([] ++ []) fr) _
     exact S
    ·intro a w gd1 c fr hsz hdf hK ld1 hN hI S
     have F : Fr 37 a [(2, .int .i64 x5)] := Fr.of hsz hdf ⟨hK 2 (by decide) _ rfl, trivial⟩
     replace S : St gd1 [] fr w := S.of_eq (flat2 _ _ _ _)
     refine wl_ev (wn rfl) (ev_move rfl) F S rfl rfl ?_; clear F; intro a F
     refine wpList_nil ⟨rfl, F.sz, F.df, _, [], (Le.refl _), ?_, (lst1 (F.get 20 _ rfl))⟩
     refine St0.of_eq ?_ (flat3 c [] [] fr).symm
     show St0 _ (fl ([] ++ []) fr) _
     exact S
    ·intro a w gd1 c fr hsz hdf hK ld1 hN hI S
     have F : Fr 37 a [(11, bp b1 0)] := Fr.of hsz hdf ⟨hK 11 (by decide) _ rfl, trivial⟩
     replace S : St gd1 [] fr w := S.of_eq (flat2 _ _ _ _)
     refine wl_ev (wn rfl) (ev_fieldAddr' tu60 tf60_0 (z := 0) ts3 rfl ⟨_, rfl⟩ rfl) F S rfl rfl ?_; clear F; intro a F
     refine wpList_nil ⟨rfl, F.sz, F.df, _, [], (Le.refl _), ?_, (lst1 (F.get 21 _ rfl))⟩
     refine St0.of_eq ?_ (flat3 c [] [] fr).symm
     show St0 _ (fl ([] ++ []) fr) _
     exact S
    ·intro a w gd1 c fr hsz hdf hK ld1 hN hI S
     have e3 := hN 3 (by decide)
     have e21x : val a 21 = bp b1 0 := nth e3 0
     have F : Fr 37 a [(21, bp b1 0)] := Fr.of hsz hdf ⟨e21x, trivial⟩
     replace S : St gd1 [c 11] fr w := S.of_eq (flat2 _ _ _ _)
     have q11 : c 11 = [(b1, .cells #[.int .i64 y3.At, v5, v6] 60 (0, 0))] := hI 0 _ rfl
     rw [q11] at S
     refine wl_ev (wn rfl) (ev_load1 tu3 rfl rfl (box_ptr (cells := [.int .i64 y3.At]) 0 rfl 0 rfl (lb rfl))) F S rfl rfl ?_; clear F; intro a F
     refine wpList_nil ⟨rfl, F.sz, F.df, _, [], (Le.refl _), ?_, (lst1 (F.get 22 _ rfl))⟩
     refine St0.of_eq ?_ (flat3 c [] [11] fr).symm
     show St0 _ (fl ([] ++ [c 11]) fr) _
     rw [q11]
     exact S
    ·intro a w gd1 c fr hsz hdf hK ld1 hN hI S
     have e1 := hN 1 (by decide)
     have e19x : val a 19 = vtext1 := nth e1 0
     have e2 := hN 2 (by decide)
     have e20x : val a 20 = .int .i64 x5 := nth e2 0
     have e4 := hN 4 (by decide)
     have e22x : val a 22 = .int .i64 y3.At := nth e4 0
     have F : Fr 37 a [(19, vtext1), (20, .int .i64 x5), (22, .int .i64 y3.At)] := Fr.of hsz hdf ⟨e19x, e20x, e22x, trivial⟩
     replace S : St gd1 [] fr w := S.of_eq (flat2 _ _ _ _)
     refine wl_cutS (wn rfl) rfl (htext1.mono (l2.trans ld1)) hy4 tu31 ts9 rfl (bndV rfl) (bndV rfl) F rfl rfl ?_; clear F; rintro v7 h7 a F
     refine wpList_nil ⟨rfl, F.sz, F.df, _, [], (Le.refl _), ?_, ⟨v7, (lst1 (F.get 23 _ rfl)), h7⟩⟩
     refine St0.of_eq ?_ (flat3 c [] [] fr).symm
     show St0 _ (fl ([] ++ []) fr) _
     exact S
    ·intro a w gd1 c fr hsz hdf hK ld1 hN hI S
     have e0 := hN 0 (by decide)
     have e18x : val a 18 = v4 := nth e0 0
     obtain ⟨v7, e5, lh1⟩ := hN 5 (by decide)
     have e23x : val a 23 = v7 := nth e5 0
     have F : Fr 37 a [(18, v4), (23, v7)] := Fr.of hsz hdf ⟨e18x, e23x, trivial⟩
     replace S : St gd1 [c 12] fr w := S.of_eq (flat2 _ _ _ _)
     have q12 : c 12 = c3 := hI 1 _ rfl
     rw [q12] at S
     obtain ⟨cs3, hk2, hr4⟩ := RepSl.reads lh1
     refine wl_append (wn rfl) rfl tu31 tu31 te9 (by decide) (by decide) F S rfl rfl (k := 0) rfl (h4.mono ld1) hk2 rfl (hr4 _ _ S) hy5 rfl rfl ?_; clear F S
     rintro v8 c4 a w h8 S F; replace S : St gd1 [c4] fr w := S
     refine wpList_nil ⟨rfl, F.sz, F.df, _, c4, (Le.refl _), ?_, ⟨v8, (lst1 (F.get 24 _ rfl)), h8⟩⟩
     refine St0.of_eq ?_ (flat3s c (c4) [] fr).symm
     show St0 _ (fl ([c4] ++ []) fr) _
     exact S
    ·intro a w gd1 c fr hsz hdf hK ld1 hN hI S
     have F : Fr 37 a [(11, bp b1 0)] := Fr.of hsz hdf ⟨hK 11 (by decide) _ rfl, trivial⟩
     replace S : St gd1 [] fr w := S.of_eq (flat2 _ _ _ _)
     refine wl_ev (wn rfl) (ev_fieldAddr' tu60 tf60_2 (z := 0) ts31 rfl ⟨_, rfl⟩ rfl) F S rfl rfl ?_; clear F; intro a F
     refine wpList_nil ⟨rfl, F.sz, F.df, _, [], (Le.refl _), ?_, (lst1 (F.get 25 _ rfl))⟩
     refine St0.of_eq ?_ (flat3 c [] [] fr).symm
     show St0 _ (fl ([] ++ []) fr) _
     exact S
    ·intro a w gd1 c fr hsz hdf hK ld1 hN hI S
     have e7 := hN 7 (by decide)
     have e25x : val a 25 = bp b1 2 := nth e7 0
     have F : Fr 37 a [(25, bp b1 2)] := Fr.of hsz hdf ⟨e25x, trivial⟩
     replace S : St gd1 [c 11] fr w := S.of_eq (flat2 _ _ _ _)
     have q11 : c 11 = [(b1, .cells #[.int .i64 y3.At, v5, v6] 60 (0, 0))] := hI 0 _ rfl
     rw [q11] at S
     refine wl_ev (wn rfl) (ev_load1 tu31 rfl rfl (box_ptr (cells := [v6]) 0 rfl 2 rfl (lb rfl))) F S rfl rfl ?_; clear F; intro a F
     refine wpList_nil ⟨rfl, F.sz, F.df, _, [], (Le.refl _), ?_, (lst1 (F.get 26 _ rfl))⟩
     refine St0.of_eq ?_ (flat3 c [] [11] fr).symm
     show St0 _ (fl ([] ++ [c 11]) fr) _
     rw [q11]
     exact S
    ·intro a w gd1 c fr hsz hdf hK ld1 hN hI S
     obtain ⟨v8, e6, lh1⟩ := hN 6 (by decide)
     have e24x : val a 24 = v8 := nth e6 0
     have e8 := hN 8 (by decide)
     have e26x : val a 26 = v6 := nth e8 0
     have F : Fr 37 a [(24, v8), (26, v6)] := Fr.of hsz hdf ⟨e24x, e26x, trivial⟩
     replace S : St gd1 [c 6] fr w := S.of_eq (flat2 _ _ _ _)
     obtain ⟨cs4, hk3, hr5⟩ := RepSl.reads (h6.mono ld1)
     refine wl_append (wn rfl) rfl tu31 tu31 te9 (by decide) (by decide) F S rfl rfl (k := 0) rfl lh1 hk3 rfl (hr5 _ _ S) hy6 rfl rfl ?_; clear F S
     rintro v9 c5 a w h9 S F; replace S : St gd1 [c5] fr w := S
     refine wpList_nil ⟨rfl, F.sz, F.df, _, c5, (Le.refl _), ?_, ⟨v9, (lst1 (F.get 27 _ rfl)), h9⟩⟩
     refine St0.of_eq ?_ (flat3s c (c5) [] fr).symm
     show St0 _ (fl ([c5] ++ []) fr) _
     exact S
    ·intro a w gd1 c fr hsz hdf hK ld1 hN hI S
     obtain ⟨v9, e9, lh1⟩ := hN 9 (by decide)
     have e27x : val a 27 = v9 := nth e9 0
     have F : Fr 37 a [(27, v9)] := Fr.of hsz hdf ⟨e27x, trivial⟩
     replace S : St gd1 [] fr w := S.of_eq (flat2 _ _ _ _)
     refine wl_ev (wn rfl) (ev_assign rfl) F S rfl rfl ?_; clear F; intro a F
     refine wpList_nil ⟨rfl, F.sz, F.df, _, [], (Le.refl _), ?_, ⟨v9, (lst2 (F.get 9 _ rfl) (F.get 27 _ rfl))⟩⟩
     refine St0.of_eq ?_ (flat3 c [] [] fr).symm
     show St0 _ (fl ([] ++ []) fr) _
     exact S
    clear F S; intro a w gd1 c hsz hdf hK ld1 hI S hN
    obtain ⟨v9, e9, lh1⟩ := hN 9 (by decide)
    have e27x : val a 27 = v9 := nth e9 0
    obtain ⟨dup1, e10⟩ := hN 10 (by decide)
    obtain rfl : v9 = dup1 := by have hq := e27x.symm.trans (nth e10 1); simp at hq; first | exact hq | exact hq.1 | exact hq.2 | exact hq.2.1 | exact hq.2.2
    have e9x : val a 9 = v9 := nth e10 0
    have F : Fr 37 a [(11, bp b1 0), (14, .int .i64 x3), (13, .int .i64 (hunks.length : Int)), (12, vhunks1), (1, vtext1), (3, .int .i64 high), (9, v9)] := Fr.of hsz hdf ⟨hK 11 (by decide) _ rfl, hK 14 (by decide) _ rfl, hK 13 (by decide) _ rfl, hK 12 (by decide) _ rfl, hK 1 (by decide) _ rfl, hK 3 (by decide) _ rfl, e9x, trivial⟩
    replace S : St gd1 [c 0, c 1, c 2, c 3, c 4, c 5, c 7, c 8, c 9, c 10, c 11] fr w := S.of_eq (flat_fl _ _ _)
    generalize c 9 = c5 at *
    have q11 : c 11 = [(b1, .cells #[.int .i64 y3.At, v5, v6] 60 (0, 0))] := hI 0 _ rfl
    rw [q11] at S
    replace S : St gd1 [c5, [(b1, .cells #[.int .i64 y3.At, v5, v6] 60 (0, 0))]] fr w := St.tail [c5, [(b1, .cells #[.int .i64 y3.At, v5, v6] 60 (0, 0))]] _ ((S.frontC 10 rfl).frontC 9 rfl)
    clear hK hI hN hsz hdf e9 e10 e27x e9x
    refine then_n ?_
    refine wp_region_lit ?_
    refine wl_ev (wn rfl) (ev_loadA tu60 rfl (cs := [.int .i64 y3.At, v5, v6]) ts60 rfl (box_ptr (cells := [.int .i64 y3.At, v5, v6]) 1 rfl 0 rfl (lb rfl))) F S rfl rfl ?_; clear F a; intro a F
    obtain ⟨y7, hy7, hm⟩ := bind_some hm
    refine wl_call (wn rfl) rfl (xs := [.tmp 28]) (vs := [.agg #[.int .i64 y3.At, v5, v6]]) (cap := []) F rfl rfl tc51 (textpatch_End_ok (g := gd1) (fr := (fl [c5, [(b1, .cells #[.int .i64 y3.At, v5, v6] 60 (0, 0))]] fr)) (w := w) y3 v5 (h5.mono ld1) v6 (h6.mono ld1) S hy7) rfl rfl ?_; clear F a S
    rintro _ a w ⟨g3, l3, S, rfl⟩ F; replace S : St g3 [c5, [(b1, .cells #[.int .i64 y3.At, v5, v6] 60 (0, 0))]] fr w := S
    refine wl_ev (wn rfl) (ev_assign rfl) F S rfl rfl ?_; clear F a; intro a F
    refine wpList_nil ?_
    replace F := F.sub (e' := [(2, .int .i64 y7), (14, .int .i64 x3), (13, .int .i64 (hunks.length : Int)), (12, vhunks1), (1, vtext1), (3, .int .i64 high), (9, v9)]) ⟨rfl, rfl, rfl, rfl, rfl, rfl, rfl, trivial⟩
    refine inb_n ?_
    refine then_n ?_
    refine wp_region_lit ?_
    obtain ⟨z1, hz1, hm⟩ := bind_some hm
    refine wl_ev (wn rfl) (ev_int rfl rfl (bo_add hz1)) F S rfl rfl ?_; clear F a; intro a F
    refine wl_ev (wn rfl) (ev_move rfl) F S rfl rfl ?_; clear F a; intro a F
    refine wpList_nil ?_
    replace F := F.sub (e' := [(14, .int .i64 z1), (2, .int .i64 y7), (13, .int .i64 (hunks.length : Int)), (12, vhunks1), (1, vtext1), (3, .int .i64 high), (9, v9)]) ⟨rfl, rfl, rfl, rfl, rfl, rfl, rfl, trivial⟩
    refine then_n ?_
    obtain rfl := sinj hm
    refine ⟨_, rfl, ?_⟩
    dsimp only
    replace S : St g3 [c5] fr w := St.tail [c5] _ (S.frontC 0 rfl)
    exact ⟨v9, c5, g3, F.sub ⟨rfl, rfl, rfl, rfl, rfl, rfl, rfl, trivial⟩, ((l2.trans ld1).trans l3), S, (lh1.mono l3)⟩
   ·refine wp_condF F rfl hc1 ?_
    refine wp_exit ?_
    refine then_e ?_
    refine then_e ?_
    refine inb_x ?_
    refine then_n ?_
    obtain rfl := sinj hm
    obtain rfl := hfin1 _ rfl
    clear hm
    have hm : (textpatch_Raw.j1 text high x4 x5 : Option (List ByteArray)) = some _ := hmo1
    exact ⟨x4, x5, v4, c3, g2, F.sub ⟨rfl, rfl, rfl, rfl, trivial⟩, l2, S, h4, hm⟩
 ·clear F S hm; rintro a w ⟨x1, x2, v1, c1, g1, F, l1, S, h1, hm⟩
  refine wp_seq ?_
  refine wp_region_lit ?_
  refine wl_ev (wn rfl) (ev_move rfl) F S rfl rfl ?_; clear F a; intro a F
  refine wl_ev (wn rfl) (ev_move rfl) F S rfl rfl ?_; clear F a; intro a F
  refine wl_ev (wn rfl) (ev_move rfl) F S rfl rfl ?_; clear F a; intro a F
  refine wl_ev (wn rfl) (ev_move rfl) F S rfl rfl ?_; clear F a; intro a F
  obtain ⟨y1, hy1, hm⟩ := bind_some hm
  refine wl_cutS (wn rfl) rfl (htext1.mono l1) hy1 tu31 ts9 rfl (bndV rfl) (bndV rfl) F rfl rfl ?_; clear F a; rintro v2 h2 a F
  obtain ⟨cs1, hk1, hr1⟩ := RepSl.reads h2
  obtain ⟨y2, hy2, hm⟩ := bind_some hm
  refine wl_append (wn rfl) rfl tu31 tu31 te9 (by decide) (by decide) F S rfl rfl (k := 0) rfl h1 hk1 rfl (hr1 _ _ S) hy2 rfl rfl ?_; clear F a S
  rintro v3 c2 a w h3 S F; replace S : St g1 [c2] fr w := S
  refine wl_ev (wn rfl) (ev_assign rfl) F S rfl rfl ?_; clear F a; intro a F
  refine wpList_nil ?_
  replace F := F.sub (e' := [(8, v3)]) ⟨rfl, trivial⟩
  refine then_n ?_
  refine wp_ret ?_
  obtain rfl := sinj hm
  refine post_r (fn := Try.f39) (rs := [.tmp 8]) [v3] F rfl (ar_cons (resT rfl) ar_nil) ?_
  exact ⟨_, rfl, g1, v3, c2, l1, S, h3, rfl⟩

theorem textpatch_Apply_ok {g : Gh} {fr : Hl} {w : World} {r : (List ByteArray) × Fault} (p_ : Patch) (vp_1 : Value) (hp_1 : RepSl g p_.Hunks vp_1) (text : (List ByteArray)) (vtext1 : Value) (htext1 : RepSl g text vtext1) (S : St g [] fr w) (hm : textpatch_Apply p_ text = some r) :
  Calls Try.prog 19 [.agg #[vp_1], vtext1].toArray w (fun en w' => ∃ v, en = .returned v ∧ ∃ (g' : Gh) (v1 : Value) (c1 : Hl), Le g g' ∧ St g' [c1] fr w' ∧ OwnS g' r.1 v1 c1 ∧ .tuple #[v1, .agg #[.int .i64 r.2.Code, .int .i64 r.2.Index]] = v) := by
 unfold textpatch_Apply at hm
 refine calls_enter (fn := Try.f19) Try.func19 rfl Try.ntmps19 (lb rfl) ?_
 intro a F
 replace F : Fr 53 a [(0, .agg #[vp_1]), (1, vtext1)] := F
 refine wp_seq ?_
 refine wp_region_lit ?_
 refine wl_boxC (wn rfl) rfl rfl rfl F S rfl rfl ?_; clear F a S; rintro b1 a w F S
 refine wl_ev (wn rfl) (ev_assign rfl) F S rfl rfl ?_; clear F a; intro a F
 refine wl_alloc (wn rfl) rfl tz24 (cs := [.int .i64 0, .int .i64 0]) rfl F S rfl rfl ?_; clear F a S; rintro b2 a w F S
 refine wpList_nil ?_
 replace F := F.sub (e' := [(5, bp b2 0), (2, bp b1 0), (1, vtext1)]) ⟨rfl, rfl, rfl, trivial⟩
 refine then_n ?_
 refine wp_seq ?_
 refine wp_seq ?_
 refine wp_region_lit ?_
 refine wl_ev (wn rfl) (ev_loadA tu38 rfl (cs := [vp_1]) ts38 rfl (box_ptr (cells := [vp_1]) 1 rfl 0 rfl (lb rfl))) F S rfl rfl ?_; clear F a; intro a F
 obtain ⟨y1, hy1, hm⟩ := bind_some hm
 refine wl_call (wn rfl) rfl (xs := [.tmp 11]) (vs := [.agg #[vp_1]]) (cap := []) F rfl rfl tc37 (textpatch_Validate_ok (g := g) (fr := (fl [[(b2, .cells #[.int .i64 0, .int .i64 0] 24 (0, 0))], [(b1, .cells #[vp_1] 38 (0, 0))]] fr)) (w := w) p_ vp_1 hp_1 S hy1) rfl rfl ?_; clear F a S
 rintro _ a w ⟨g1, l1, S, rfl⟩ F; replace S : St g1 [[(b2, .cells #[.int .i64 0, .int .i64 0] 24 (0, 0))], [(b1, .cells #[vp_1] 38 (0, 0))]] fr w := S
 refine wl_alloc (wn rfl) rfl tz24 (cs := [.int .i64 0, .int .i64 0]) rfl F S rfl rfl ?_; clear F a S; rintro b3 a w F S
 refine wl_storeC (wn rfl) rfl F S rfl rfl (vs := [.int .i64 y1.Code, .int .i64 y1.Index]) rfl ts24 (one_cons rfl (one_cons rfl one_nil)) (k := 0) rfl (lb rfl) (c' := #[.int .i64 y1.Code, .int .i64 y1.Index]) rfl rfl ?_; clear S; intro w S
 replace S : St g1 [[(b3, .cells #[.int .i64 y1.Code, .int .i64 y1.Index] 24 (0, 0))], [(b2, .cells #[.int .i64 0, .int .i64 0] 24 (0, 0))], [(b1, .cells #[vp_1] 38 (0, 0))]] fr w := S
 refine wpList_nil ?_
 replace F := F.sub (e' := [(6, bp b3 0), (5, bp b2 0), (2, bp b1 0), (1, vtext1)]) ⟨rfl, rfl, rfl, rfl, trivial⟩
 refine then_n ?_
 refine wp_seq ?_
 refine wp_region_lit ?_
 refine wl_ev (wn rfl) (ev_loadA tu24 rfl (cs := [.int .i64 y1.Code, .int .i64 y1.Index]) ts24 rfl (box_ptr (cells := [.int .i64 y1.Code, .int .i64 y1.Index]) 0 rfl 0 rfl (lb rfl))) F S rfl rfl ?_; clear F a; intro a F
 refine wl_ev (wn rfl) (ev_build (parts := []) (vs := []) rfl (fun w => tb24_  w)) F S rfl rfl ?_; clear F a; intro a F
 refine wl_ev (wn rfl) (ev_neS tu24 tqa24 tqb24 tqc24 (xs := [.int .i64 y1.Code, .int .i64 y1.Index]) (ys := [.int .i64 0, .int .i64 0]) rfl rfl ⟨_, _, rfl, by decide, ⟨_, _, rfl, rfl, leaf_int tu3⟩, ⟨_, _, rfl, by decide, ⟨_, _, rfl, rfl, leaf_int tu3⟩, rfl⟩⟩) F S rfl rfl ?_; clear F a; intro a F
 refine wpList_nil ?_
 replace F := F.sub (e' := [(15, .bool (!(decide (y1.Code = 0) && decide (y1.Index = 0)))), (6, bp b3 0), (5, bp b2 0), (2, bp b1 0), (1, vtext1)]) ⟨rfl, rfl, rfl, rfl, rfl, trivial⟩
 refine then_n ?_
 obtain ⟨hc1, hm⟩ | ⟨hc1, hm⟩ := ite_or hm
 ·refine wp_condT F rfl hc1 ?_
  refine wp_seq ?_
  refine wp_drawL ⟨3, [[16], [4], []], [[], [], [4]], [[3], [], []], [[6], [], [5]], [[], [], [0]], [5], [0, 1, 2, 3, 5]⟩
   [([16], fun us g c => us = [.agg #[.int .i64 y1.Code, .int .i64 y1.Index]]),
    ([4], fun us g c => us = [nilS]),
    ([], fun us g c => us = [] ∧ c = [(b2, .cells #[.int .i64 y1.Code, .int .i64 y1.Index] 24 (0, 0))])]
   mo (by kernel_rfl) rfl rfl ⟨fun _ _ _ _ _ h => h, fun _ _ _ _ _ h => h, fun _ _ _ _ _ h => h, trivial⟩ F S ⟨?_, ?_, ?_, trivial⟩ ?_
  ·intro a w gd1 c fr hsz hdf hK ld1 hN hI S
   have F : Fr 53 a [(6, bp b3 0)] := Fr.of hsz hdf ⟨hK 6 (by decide) _ rfl, trivial⟩
   replace S : St gd1 [c 3] fr w := S.of_eq (flat2 _ _ _ _)
   have q3 : c 3 = [(b3, .cells #[.int .i64 y1.Code, .int .i64 y1.Index] 24 (0, 0))] := hI 0 _ rfl
   rw [q3] at S
   refine wl_ev (wn rfl) (ev_loadA tu24 rfl (cs := [.int .i64 y1.Code, .int .i64 y1.Index]) ts24 rfl (box_ptr (cells := [.int .i64 y1.Code, .int .i64 y1.Index]) 0 rfl 0 rfl (lb rfl))) F S rfl rfl ?_; clear F; intro a F
   refine wpList_nil ⟨rfl, F.sz, F.df, _, [], (Le.refl _), ?_, (lst1 (F.get 16 _ rfl))⟩
   refine St0.of_eq ?_ (flat3 c [] [3] fr).symm
   show St0 _ (fl ([] ++ [c 3]) fr) _
   rw [q3]
   exact S
  ·intro a w gd1 c fr hsz hdf hK ld1 hN hI S
   have F : Fr 53 a [] := Fr.of hsz hdf trivial
   replace S : St gd1 [] fr w := S.of_eq (flat2 _ _ _ _)
   refine wl_ev (wn rfl) (ev_assign rfl) F S rfl rfl ?_; clear F; intro a F
   refine wpList_nil ⟨rfl, F.sz, F.df, _, [], (Le.refl _), ?_, (lst1 (F.get 4 _ rfl))⟩
   refine St0.of_eq ?_ (flat3 c [] [] fr).symm
   show St0 _ (fl ([] ++ []) fr) _
   exact S
  ·intro a w gd1 c fr hsz hdf hK ld1 hN hI S
   have e0 := hN 0 (by decide)
   have e16x : val a 16 = .agg #[.int .i64 y1.Code, .int .i64 y1.Index] := nth e0 0
   have F : Fr 53 a [(5, bp b2 0), (16, .agg #[.int .i64 y1.Code, .int .i64 y1.Index])] := Fr.of hsz hdf ⟨hK 5 (by decide) _ rfl, e16x, trivial⟩
   replace S : St gd1 [c 4] fr w := S.of_eq (flat2 _ _ _ _)
   have q4 : c 4 = [(b2, .cells #[.int .i64 0, .int .i64 0] 24 (0, 0))] := hI 1 _ rfl
   rw [q4] at S
   refine wl_storeC (wn rfl) rfl F S rfl rfl (vs := [.int .i64 y1.Code, .int .i64 y1.Index]) rfl ts24 (one_cons rfl (one_cons rfl one_nil)) (k := 0) rfl (lb rfl) (c' := #[.int .i64 y1.Code, .int .i64 y1.Index]) rfl rfl ?_; clear S; intro w S
   replace S : St gd1 [[(b2, .cells #[.int .i64 y1.Code, .int .i64 y1.Index] 24 (0, 0))]] fr w := S
   refine wpList_nil ⟨rfl, F.sz, F.df, _, [(b2, .cells #[.int .i64 y1.Code, .int .i64 y1.Index] 24 (0, 0))], (Le.refl _), ?_, ⟨rfl, rfl⟩⟩
   refine St0.of_eq ?_ (flat3s c ([(b2, .cells #[.int .i64 y1.Code, .int .i64 y1.Index] 24 (0, 0))]) [] fr).symm
   show St0 _ (fl ([[(b2, .cells #[.int .i64 y1.Code, .int .i64 y1.Index] 24 (0, 0))]] ++ []) fr) _
   exact S
  clear F S; intro a w gd1 c hsz hdf hK ld1 hI S hN
  have e1 := hN 1 (by decide)
  have e4x : val a 4 = nilS := nth e1 0
  obtain ⟨e2, q2⟩ := hN 2 (by decide)
  have F : Fr 53 a [(5, bp b2 0), (4, nilS)] := Fr.of hsz hdf ⟨hK 5 (by decide) _ rfl, e4x, trivial⟩
  replace S : St gd1 [c 0, c 1, c 2, c 3, c 5] fr w := S.of_eq (flat_fl _ _ _)
  rw [q2] at S
  have q3 : c 3 = [(b3, .cells #[.int .i64 y1.Code, .int .i64 y1.Index] 24 (0, 0))] := hI 0 _ rfl
  rw [q3] at S
  have q5 : c 5 = [(b1, .cells #[vp_1] 38 (0, 0))] := hI 2 _ rfl
  rw [q5] at S
  replace S : St gd1 [[(b2, .cells #[.int .i64 y1.Code, .int .i64 y1.Index] 24 (0, 0))]] fr w := St.tail [[(b2, .cells #[.int .i64 y1.Code, .int .i64 y1.Index] 24 (0, 0))]] _ (S.frontC 2 rfl)
  clear hK hI hN hsz hdf e1 e2 e4x
  refine then_n ?_
  refine wp_ret ?_
  refine then_r ?_
  obtain rfl := sinj hm
  replace S : St gd1 [[], [(b2, .cells #[.int .i64 y1.Code, .int .i64 y1.Index] 24 (0, 0))]] fr w := S
  refine post_r (fn := Try.f19) (rs := [.tmp 4, .cell 5 24]) [nilS, .agg #[.int .i64 y1.Code, .int .i64 y1.Index]] F rfl (ar_cons (resT rfl) (ar_cons (resA rfl tu24 rfl ts24 (box_ptr (cells := [.int .i64 y1.Code, .int .i64 y1.Index]) 1 rfl 0 rfl (lb rfl) w S)) ar_nil)) ?_
  replace S : St gd1 [[]] fr w := St.tail [[]] _ (S.frontC 0 rfl)
  exact ⟨_, rfl, gd1, (nilS), [], (l1.trans ld1), S, (OwnS.nil _), rfl⟩
 ·refine wp_condF F rfl hc1 ?_
  refine wp_skip ?_
  refine then_n ?_
  refine wp_seq ?_
  refine wp_seq ?_
  refine wp_region_lit ?_
  refine wl_ev (wn rfl) (ev_move rfl) F S rfl rfl ?_; clear F a; intro a F
  obtain ⟨y2, hy2, hm⟩ := bind_some hm
  refine wl_call (wn rfl) rfl (xs := [.tmp 17, .const (.int .i64 (-2))]) (vs := [vtext1, .int .i64 (-2)]) (cap := []) F rfl rfl tc30 (lines_Second_ok (g := g1) (fr := (fl [[(b3, .cells #[.int .i64 y1.Code, .int .i64 y1.Index] 24 (0, 0))], [(b2, .cells #[.int .i64 0, .int .i64 0] 24 (0, 0))], [(b1, .cells #[vp_1] 38 (0, 0))]] fr)) (w := w) text vtext1 (htext1.mono l1) (-2) S hy2) rfl rfl ?_; clear F a S
  rintro _ a w ⟨g2, l2, S, rfl⟩ F; replace S : St g2 [[(b3, .cells #[.int .i64 y1.Code, .int .i64 y1.Index] 24 (0, 0))], [(b2, .cells #[.int .i64 0, .int .i64 0] 24 (0, 0))], [(b1, .cells #[vp_1] 38 (0, 0))]] fr w := S
  refine wl_alloc (wn rfl) rfl tz24 (cs := [.int .i64 0, .int .i64 0]) rfl F S rfl rfl ?_; clear F a S; rintro b4 a w F S
  refine wl_storeC (wn rfl) rfl F S rfl rfl (vs := [.int .i64 y2.Code, .int .i64 y2.Index]) rfl ts24 (one_cons rfl (one_cons rfl one_nil)) (k := 0) rfl (lb rfl) (c' := #[.int .i64 y2.Code, .int .i64 y2.Index]) rfl rfl ?_; clear S; intro w S
  replace S : St g2 [[(b4, .cells #[.int .i64 y2.Code, .int .i64 y2.Index] 24 (0, 0))], [(b3, .cells #[.int .i64 y1.Code, .int .i64 y1.Index] 24 (0, 0))], [(b2, .cells #[.int .i64 0, .int .i64 0] 24 (0, 0))], [(b1, .cells #[vp_1] 38 (0, 0))]] fr w := S
  refine wpList_nil ?_
  replace F := F.sub (e' := [(7, bp b4 0), (5, bp b2 0), (2, bp b1 0), (1, vtext1)]) ⟨rfl, rfl, rfl, rfl, trivial⟩
  refine then_n ?_
  refine wp_seq ?_
  refine wp_region_lit ?_
  refine wl_ev (wn rfl) (ev_loadA tu24 rfl (cs := [.int .i64 y2.Code, .int .i64 y2.Index]) ts24 rfl (box_ptr (cells := [.int .i64 y2.Code, .int .i64 y2.Index]) 0 rfl 0 rfl (lb rfl))) F S rfl rfl ?_; clear F a; intro a F
  refine wl_ev (wn rfl) (ev_build (parts := []) (vs := []) rfl (fun w => tb24_  w)) F S rfl rfl ?_; clear F a; intro a F
  refine wl_ev (wn rfl) (ev_neS tu24 tqa24 tqb24 tqc24 (xs := [.int .i64 y2.Code, .int .i64 y2.Index]) (ys := [.int .i64 0, .int .i64 0]) rfl rfl ⟨_, _, rfl, by decide, ⟨_, _, rfl, rfl, leaf_int tu3⟩, ⟨_, _, rfl, by decide, ⟨_, _, rfl, rfl, leaf_int tu3⟩, rfl⟩⟩) F S rfl rfl ?_; clear F a; intro a F
  refine wpList_nil ?_
  replace F := F.sub (e' := [(21, .bool (!(decide (y2.Code = 0) && decide (y2.Index = 0)))), (7, bp b4 0), (5, bp b2 0), (2, bp b1 0), (1, vtext1)]) ⟨rfl, rfl, rfl, rfl, rfl, trivial⟩
  refine then_n ?_
  obtain ⟨hc2, hm⟩ | ⟨hc2, hm⟩ := ite_or hm
  ·refine wp_condT F rfl hc2 ?_
   refine wp_seq ?_
   refine wp_drawL ⟨4, [[22], [4], []], [[], [], [5]], [[3], [], []], [[7], [], [5]], [[], [], [0]], [5], [0, 1, 2, 3, 4, 6]⟩
    [([22], fun us g c => us = [.agg #[.int .i64 y2.Code, .int .i64 y2.Index]]),
     ([4], fun us g c => us = [nilS]),
     ([], fun us g c => us = [] ∧ c = [(b2, .cells #[.int .i64 y2.Code, .int .i64 y2.Index] 24 (0, 0))])]
    mo (by kernel_rfl) rfl rfl ⟨fun _ _ _ _ _ h => h, fun _ _ _ _ _ h => h, fun _ _ _ _ _ h => h, trivial⟩ F S ⟨?_, ?_, ?_, trivial⟩ ?_
   ·intro a w gd6 c fr hsz hdf hK ld6 hN hI S
    have F : Fr 53 a [(7, bp b4 0)] := Fr.of hsz hdf ⟨hK 7 (by decide) _ rfl, trivial⟩
    replace S : St gd6 [c 3] fr w := S.of_eq (flat2 _ _ _ _)
    have q3 : c 3 = [(b4, .cells #[.int .i64 y2.Code, .int .i64 y2.Index] 24 (0, 0))] := hI 0 _ rfl
    rw [q3] at S
    refine wl_ev (wn rfl) (ev_loadA tu24 rfl (cs := [.int .i64 y2.Code, .int .i64 y2.Index]) ts24 rfl (box_ptr (cells := [.int .i64 y2.Code, .int .i64 y2.Index]) 0 rfl 0 rfl (lb rfl))) F S rfl rfl ?_; clear F; intro a F
    refine wpList_nil ⟨rfl, F.sz, F.df, _, [], (Le.refl _), ?_, (lst1 (F.get 22 _ rfl))⟩
    refine St0.of_eq ?_ (flat3 c [] [3] fr).symm
    show St0 _ (fl ([] ++ [c 3]) fr) _
    rw [q3]
    exact S
   ·intro a w gd6 c fr hsz hdf hK ld6 hN hI S
    have F : Fr 53 a [] := Fr.of hsz hdf trivial
    replace S : St gd6 [] fr w := S.of_eq (flat2 _ _ _ _)
    refine wl_ev (wn rfl) (ev_assign rfl) F S rfl rfl ?_; clear F; intro a F
    refine wpList_nil ⟨rfl, F.sz, F.df, _, [], (Le.refl _), ?_, (lst1 (F.get 4 _ rfl))⟩
    refine St0.of_eq ?_ (flat3 c [] [] fr).symm
    show St0 _ (fl ([] ++ []) fr) _
    exact S
   ·intro a w gd6 c fr hsz hdf hK ld6 hN hI S
    have e0 := hN 0 (by decide)
    have e22x : val a 22 = .agg #[.int .i64 y2.Code, .int .i64 y2.Index] := nth e0 0
    have F : Fr 53 a [(5, bp b2 0), (22, .agg #[.int .i64 y2.Code, .int .i64 y2.Index])] := Fr.of hsz hdf ⟨hK 5 (by decide) _ rfl, e22x, trivial⟩
    replace S : St gd6 [c 5] fr w := S.of_eq (flat2 _ _ _ _)
    have q5 : c 5 = [(b2, .cells #[.int .i64 0, .int .i64 0] 24 (0, 0))] := hI 2 _ rfl
    rw [q5] at S
    refine wl_storeC (wn rfl) rfl F S rfl rfl (vs := [.int .i64 y2.Code, .int .i64 y2.Index]) rfl ts24 (one_cons rfl (one_cons rfl one_nil)) (k := 0) rfl (lb rfl) (c' := #[.int .i64 y2.Code, .int .i64 y2.Index]) rfl rfl ?_; clear S; intro w S
    replace S : St gd6 [[(b2, .cells #[.int .i64 y2.Code, .int .i64 y2.Index] 24 (0, 0))]] fr w := S
    refine wpList_nil ⟨rfl, F.sz, F.df, _, [(b2, .cells #[.int .i64 y2.Code, .int .i64 y2.Index] 24 (0, 0))], (Le.refl _), ?_, ⟨rfl, rfl⟩⟩
    refine St0.of_eq ?_ (flat3s c ([(b2, .cells #[.int .i64 y2.Code, .int .i64 y2.Index] 24 (0, 0))]) [] fr).symm
    show St0 _ (fl ([[(b2, .cells #[.int .i64 y2.Code, .int .i64 y2.Index] 24 (0, 0))]] ++ []) fr) _
    exact S
   clear F S; intro a w gd6 c hsz hdf hK ld6 hI S hN
   have e1 := hN 1 (by decide)
   have e4x : val a 4 = nilS := nth e1 0
   obtain ⟨e2, q2⟩ := hN 2 (by decide)
   have F : Fr 53 a [(5, bp b2 0), (4, nilS)] := Fr.of hsz hdf ⟨hK 5 (by decide) _ rfl, e4x, trivial⟩
   replace S : St gd6 [c 0, c 1, c 2, c 3, c 4, c 6] fr w := S.of_eq (flat_fl _ _ _)
   rw [q2] at S
   have q3 : c 3 = [(b4, .cells #[.int .i64 y2.Code, .int .i64 y2.Index] 24 (0, 0))] := hI 0 _ rfl
   rw [q3] at S
   have q4 : c 4 = [(b3, .cells #[.int .i64 y1.Code, .int .i64 y1.Index] 24 (0, 0))] := hI 1 _ rfl
   rw [q4] at S
   have q6 : c 6 = [(b1, .cells #[vp_1] 38 (0, 0))] := hI 3 _ rfl
   rw [q6] at S
   replace S : St gd6 [[(b2, .cells #[.int .i64 y2.Code, .int .i64 y2.Index] 24 (0, 0))]] fr w := St.tail [[(b2, .cells #[.int .i64 y2.Code, .int .i64 y2.Index] 24 (0, 0))]] _ (S.frontC 2 rfl)
   clear hK hI hN hsz hdf e1 e2 e4x
   refine then_n ?_
   refine wp_ret ?_
   refine then_r ?_
   obtain rfl := sinj hm
   replace S : St gd6 [[], [(b2, .cells #[.int .i64 y2.Code, .int .i64 y2.Index] 24 (0, 0))]] fr w := S
   refine post_r (fn := Try.f19) (rs := [.tmp 4, .cell 5 24]) [nilS, .agg #[.int .i64 y2.Code, .int .i64 y2.Index]] F rfl (ar_cons (resT rfl) (ar_cons (resA rfl tu24 rfl ts24 (box_ptr (cells := [.int .i64 y2.Code, .int .i64 y2.Index]) 1 rfl 0 rfl (lb rfl) w S)) ar_nil)) ?_
   replace S : St gd6 [[]] fr w := St.tail [[]] _ (S.frontC 0 rfl)
   exact ⟨_, rfl, gd6, (nilS), [], ((l1.trans l2).trans ld6), S, (OwnS.nil _), rfl⟩
  ·refine wp_condF F rfl hc2 ?_
   refine wp_skip ?_
   refine then_n ?_
   refine wp_cut (fun a w => ∃ (g3 : Gh), Fr 53 a [(5, bp b2 0), (2, bp b1 0), (1, vtext1)] ∧ Le g2 g3 ∧ St g3 [[(b2, .cells #[.int .i64 0, .int .i64 0] 24 (0, 0))], [(b1, .cells #[vp_1] 38 (0, 0))]] fr w ∧ textpatch_Apply.j1 p_ text = some r) ?_ ?_
   ·refine wp_seq ?_
    refine wp_region_lit ?_
    refine wl_ev (wn rfl) (ev_fieldAddr' tu38 tf38_0 (z := 0) ts36 rfl ⟨_, rfl⟩ rfl) F S rfl rfl ?_; clear F a; intro a F
    refine wl_ev (wn rfl) (ev_load1 tu36 rfl rfl (box_ptr (cells := [vp_1]) 3 rfl 0 rfl (lb rfl))) F S rfl rfl ?_; clear F a; intro a F
    refine wl_ev (wn rfl) (ev_lenSh hp_1 rfl tu36) F S rfl rfl ?_; clear F a; intro a F
    refine wl_ev (wn rfl) (ev_move rfl) F S rfl rfl ?_; clear F a; intro a F
    refine wpList_nil ?_
    replace F := F.sub (e' := [(26, .int .i64 0), (25, .int .i64 (p_.Hunks.length : Int)), (24, vp_1), (5, bp b2 0), (2, bp b1 0), (1, vtext1)]) ⟨rfl, rfl, rfl, rfl, rfl, rfl, trivial⟩
    refine then_n ?_
    refine wp_block ?_
    obtain ⟨r1, hr1, hm⟩ := bind_some hm
    have hmo1 := hm; clear hm
    refine wp_iter (σ := Int) (ρ := ((List ByteArray) × Fault) ⊕ Unit) (m := fun s => textpatch_Apply.l1 p_ text s) (I := fun x1 a w => ∃ (g5 : Gh), Fr 53 a [(26, .int .i64 x1), (25, .int .i64 (p_.Hunks.length : Int)), (24, vp_1), (5, bp b2 0), (2, bp b1 0), (1, vtext1)] ∧ Le g2 g5 ∧ St g5 [[(b2, .cells #[.int .i64 0, .int .i64 0] 24 (0, 0))], [(b1, .cells #[vp_1] 38 (0, 0))]] fr w) hr1 ?_ ?_
    ·replace S : St g2 [[(b2, .cells #[.int .i64 0, .int .i64 0] 24 (0, 0))], [(b1, .cells #[vp_1] 38 (0, 0))]] fr w := St.tail [[(b2, .cells #[.int .i64 0, .int .i64 0] 24 (0, 0))], [(b1, .cells #[vp_1] 38 (0, 0))]] _ ((S.frontC 3 rfl).frontC 3 rfl)
     exact ⟨g2, F.sub ⟨rfl, rfl, rfl, rfl, rfl, rfl, trivial⟩, (Le.refl _), S⟩
    ·clear F S; rintro x1 a w x2 ⟨g5, F, l5, S⟩ hx1 hfin1
     have hm : textpatch_Apply.l1 p_ text x1 = some x2 := hx1; clear hx1
     unfold textpatch_Apply.l1 at hm
     refine wp_seq ?_
     refine wp_region_lit ?_
     refine wl_ev (wn rfl) (ev_int rfl rfl (bo_lss _ _ _ _)) F S rfl rfl ?_; clear F a; intro a F
     refine wpList_nil ?_
     refine then_n ?_
     refine wp_seq ?_
     obtain ⟨hc4, hm⟩ | ⟨hc4, hm⟩ := ite_or hm
     ·refine wp_condT F rfl hc4 ?_
      refine wp_skip ?_
      refine then_n ?_
      refine wp_seq ?_
      refine wp_block ?_
      refine wp_seq ?_
      refine wp_region_lit ?_
      refine wl_ev (wn rfl) (ev_move rfl) F S rfl rfl ?_; clear F a; intro a F
      obtain ⟨y4, hy4, hm⟩ := bind_some hm
      obtain ⟨cs1, hr2, hp1⟩ := elemS (hp_1.mono ((l1.trans l2).trans l5)) hy4
      obtain ⟨v2, v3, rfl, h2, h3⟩ := rep_Hunk hr2
      refine wl_ev (wn rfl) (ev_idxS (hp_1.mono ((l1.trans l2).trans l5)) hy4 tu36 ts60 rfl rfl) F S rfl rfl ?_; clear F a; intro a F
      refine wl_ev (wn rfl) (ev_loadA tu60 rfl (cs := [.int .i64 y4.At, v2, v3]) ts60 rfl (ptr_mono (cks := [[(b2, .cells #[.int .i64 0, .int .i64 0] 24 (0, 0))], [(b1, .cells #[vp_1] 38 (0, 0))]]) (fr := fr) hp1 (Le.refl _))) F S rfl rfl ?_; clear F a; intro a F
      refine wl_alloc (wn rfl) rfl tz60 (cs := [.int .i64 0, nilS, nilS]) rfl F S rfl rfl ?_; clear F a S; rintro b5 a w F S
      refine wl_ev (wn rfl) (ev_assign rfl) F S rfl rfl ?_; clear F a; intro a F
      refine wl_storeC (wn rfl) rfl F S rfl rfl (vs := [.int .i64 y4.At, v2, v3]) rfl ts60 (one_cons rfl (one_cons h2.one (one_cons h3.one one_nil))) (k := 0) rfl (lb rfl) (c' := #[.int .i64 y4.At, v2, v3]) rfl rfl ?_; clear S; intro w S
      replace S : St g5 [[(b5, .cells #[.int .i64 y4.At, v2, v3] 60 (0, 0))], [(b2, .cells #[.int .i64 0, .int .i64 0] 24 (0, 0))], [(b1, .cells #[vp_1] 38 (0, 0))]] fr w := S
      refine wpList_nil ?_
      replace F := F.sub (e' := [(8, .int .i64 x1), (9, bp b5 0), (26, .int .i64 x1), (25, .int .i64 (p_.Hunks.length : Int)), (24, vp_1), (5, bp b2 0), (2, bp b1 0), (1, vtext1)]) ⟨rfl, rfl, rfl, rfl, rfl, rfl, rfl, rfl, trivial⟩
      refine then_n ?_
      refine wp_seq ?_
      refine wp_region_lit ?_
      refine wl_ev (wn rfl) (ev_move rfl) F S rfl rfl ?_; clear F a; intro a F
      refine wl_ev (wn rfl) (ev_fieldAddr' tu60 tf60_1 (z := 0) ts31 rfl ⟨_, rfl⟩ rfl) F S rfl rfl ?_; clear F a; intro a F
      refine wl_ev (wn rfl) (ev_load1 tu31 rfl rfl (box_ptr (cells := [v2]) 0 rfl 1 rfl (lb rfl))) F S rfl rfl ?_; clear F a; intro a F
      refine wl_ev (wn rfl) (ev_fieldAddr' tu60 tf60_0 (z := 0) ts3 rfl ⟨_, rfl⟩ rfl) F S rfl rfl ?_; clear F a; intro a F
      refine wl_ev (wn rfl) (ev_load1 tu3 rfl rfl (box_ptr (cells := [.int .i64 y4.At]) 0 rfl 0 rfl (lb rfl))) F S rfl rfl ?_; clear F a; intro a F
      obtain ⟨y5, hy5, hm⟩ := bind_some hm
      refine wl_call (wn rfl) rfl (xs := [.tmp 31, .tmp 33, .tmp 35]) (vs := [vtext1, v2, .int .i64 y4.At]) (cap := []) F rfl rfl tc38 (lines_Occurs_ok (g := g5) (fr := (fl [[(b5, .cells #[.int .i64 y4.At, v2, v3] 60 (0, 0))], [(b2, .cells #[.int .i64 0, .int .i64 0] 24 (0, 0))], [(b1, .cells #[vp_1] 38 (0, 0))]] fr)) (w := w) text vtext1 (htext1.mono ((l1.trans l2).trans l5)) y4.Old v2 h2 y4.At S hy5) rfl rfl ?_; clear F a S
      rintro _ a w ⟨g6, l6, S, rfl⟩ F; replace S : St g6 [[(b5, .cells #[.int .i64 y4.At, v2, v3] 60 (0, 0))], [(b2, .cells #[.int .i64 0, .int .i64 0] 24 (0, 0))], [(b1, .cells #[vp_1] 38 (0, 0))]] fr w := S
      refine wl_ev (wn rfl) (ev_not rfl) F S rfl rfl ?_; clear F a; intro a F
      refine wpList_nil ?_
      replace F := F.sub (e' := [(37, .bool !y5), (8, .int .i64 x1), (26, .int .i64 x1), (25, .int .i64 (p_.Hunks.length : Int)), (24, vp_1), (5, bp b2 0), (2, bp b1 0), (1, vtext1)]) ⟨rfl, rfl, rfl, rfl, rfl, rfl, rfl, rfl, trivial⟩
      refine then_n ?_
      obtain ⟨hc5, hm⟩ | ⟨hc5, hm⟩ := ite_or hm
      ·refine wp_condT F rfl hc5 ?_
       refine wp_seq ?_
       refine wp_region_lit ?_
       refine wl_ev (wn rfl) (ev_move rfl) F S rfl rfl ?_; clear F a; intro a F
       refine wl_ev (wn rfl) (ev_build (parts := [(0, .const (.int .i64 19)), (1, .tmp 38)]) (vs := [(0, .int .i64 19), (1, .int .i64 x1)]) rfl (fun w => tb24_0_1 19 x1 w)) F S rfl rfl ?_; clear F a; intro a F
       refine wl_ev (wn rfl) (ev_assign rfl) F S rfl rfl ?_; clear F a; intro a F
       refine wl_storeC (wn rfl) rfl F S rfl rfl (vs := [.int .i64 19, .int .i64 x1]) rfl ts24 (one_cons rfl (one_cons rfl one_nil)) (k := 1) rfl (lb rfl) (c' := #[.int .i64 19, .int .i64 x1]) rfl rfl ?_; clear S; intro w S
       replace S : St g6 [[(b5, .cells #[.int .i64 y4.At, v2, v3] 60 (0, 0))], [(b2, .cells #[.int .i64 19, .int .i64 x1] 24 (0, 0))], [(b1, .cells #[vp_1] 38 (0, 0))]] fr w := S
       refine wpList_nil ?_
       replace F := F.sub (e' := [(4, nilS), (5, bp b2 0)]) ⟨rfl, rfl, trivial⟩
       refine then_n ?_
       refine wp_ret ?_
       refine inb_r ?_
       refine then_r ?_
       refine then_r ?_
       refine inb_r ?_
       refine then_r ?_
       obtain rfl := sinj hm
       obtain rfl := hfin1 _ rfl
       clear hm
       have hm : (some ([], ({ Code := 19, Index := x1 } : Fault)) : Option ((List ByteArray) × Fault)) = some _ := hmo1
       obtain rfl := sinj hm
       replace S : St g6 [[], [(b5, .cells #[.int .i64 y4.At, v2, v3] 60 (0, 0))], [(b2, .cells #[.int .i64 19, .int .i64 x1] 24 (0, 0))], [(b1, .cells #[vp_1] 38 (0, 0))]] fr w := S
       refine post_r (fn := Try.f19) (rs := [.tmp 4, .cell 5 24]) [nilS, .agg #[.int .i64 19, .int .i64 x1]] F rfl (ar_cons (resT rfl) (ar_cons (resA rfl tu24 rfl ts24 (box_ptr (cells := [.int .i64 19, .int .i64 x1]) 2 rfl 0 rfl (lb rfl) w S)) ar_nil)) ?_
       replace S : St g6 [[]] fr w := St.tail [[]] _ (S.frontC 0 rfl)
       exact ⟨_, rfl, g6, (nilS), [], (((l1.trans l2).trans l5).trans l6), S, (OwnS.nil _), rfl⟩
      ·refine wp_condF F rfl hc5 ?_
       refine wp_skip ?_
       refine inb_n ?_
       refine then_n ?_
       refine wp_region_lit ?_
       obtain ⟨z1, hz1, hm⟩ := bind_some hm
       refine wl_ev (wn rfl) (ev_int rfl rfl (bo_add hz1)) F S rfl rfl ?_; clear F a; intro a F
       refine wl_ev (wn rfl) (ev_move rfl) F S rfl rfl ?_; clear F a; intro a F
       refine wpList_nil ?_
       replace F := F.sub (e' := [(26, .int .i64 z1), (25, .int .i64 (p_.Hunks.length : Int)), (24, vp_1), (5, bp b2 0), (2, bp b1 0), (1, vtext1)]) ⟨rfl, rfl, rfl, rfl, rfl, rfl, trivial⟩
       refine then_n ?_
       obtain rfl := sinj hm
       refine ⟨_, rfl, ?_⟩
       replace S : St g6 [[(b2, .cells #[.int .i64 0, .int .i64 0] 24 (0, 0))], [(b1, .cells #[vp_1] 38 (0, 0))]] fr w := St.tail [[(b2, .cells #[.int .i64 0, .int .i64 0] 24 (0, 0))], [(b1, .cells #[vp_1] 38 (0, 0))]] _ ((S.frontC 2 rfl).frontC 2 rfl)
       exact ⟨g6, F.sub ⟨rfl, rfl, rfl, rfl, rfl, rfl, trivial⟩, (l5.trans l6), S⟩
     ·refine wp_condF F rfl hc4 ?_
      refine wp_exit ?_
      refine then_e ?_
      refine then_e ?_
      refine inb_x ?_
      refine then_n ?_
      obtain rfl := sinj hm
      obtain rfl := hfin1 _ rfl
      clear hm
      have hm : (textpatch_Apply.j1 p_ text : Option ((List ByteArray) × Fault)) = some _ := hmo1
      exact ⟨g5, F.sub ⟨rfl, rfl, rfl, trivial⟩, l5, S, hm⟩
   ·clear F S hm; rintro a w ⟨g3, F, l3, S, hm⟩
    refine wp_seq ?_
    refine wp_region_lit ?_
    refine wl_ev (wn rfl) (ev_fieldAddr' tu38 tf38_0 (z := 0) ts36 rfl ⟨_, rfl⟩ rfl) F S rfl rfl ?_; clear F a; intro a F
    refine wl_ev (wn rfl) (ev_load1 tu36 rfl rfl (box_ptr (cells := [vp_1]) 1 rfl 0 rfl (lb rfl))) F S rfl rfl ?_; clear F a; intro a F
    refine wl_ev (wn rfl) (ev_move rfl) F S rfl rfl ?_; clear F a; intro a F
    refine wl_ev (wn rfl) (ev_move rfl) F S rfl rfl ?_; clear F a; intro a F
    refine wl_ev (wn rfl) (ev_lenSh htext1 rfl tu31) F S rfl rfl ?_; clear F a; intro a F
    obtain ⟨y3, hy3, hm⟩ := bind_some hm
    refine wl_call (wn rfl) rfl (xs := [.tmp 42, .tmp 43, .const (.int .i64 0), .tmp 45]) (vs := [vp_1, vtext1, .int .i64 0, .int .i64 (text.length : Int)]) (cap := []) F rfl rfl tc39 (textpatch_Raw_ok (g := g3) (fr := (fl [[(b2, .cells #[.int .i64 0, .int .i64 0] 24 (0, 0))], [(b1, .cells #[vp_1] 38 (0, 0))]] fr)) (w := w) p_.Hunks vp_1 (hp_1.mono ((l1.trans l2).trans l3)) text vtext1 (htext1.mono ((l1.trans l2).trans l3)) 0 (text.length : Int) S hy3) rfl rfl ?_; clear F a S
    rintro _ a w ⟨g4, v1, c1, l4, S, h1, rfl⟩ F; replace S : St g4 [c1, [(b2, .cells #[.int .i64 0, .int .i64 0] 24 (0, 0))], [(b1, .cells #[vp_1] 38 (0, 0))]] fr w := S
    refine wl_ev (wn rfl) (ev_assign rfl) F S rfl rfl ?_; clear F a; intro a F
    refine wpList_nil ?_
    replace F := F.sub (e' := [(10, v1), (5, bp b2 0)]) ⟨rfl, rfl, trivial⟩
    refine then_n ?_
    refine wp_seq ?_
    refine wp_seq ?_
    refine wp_region_lit ?_
    refine wl_ev (wn rfl) (ev_move rfl) F S rfl rfl ?_; clear F a; intro a F
    refine wl_ev (wn rfl) (ev_lenOw h1 rfl tu31) F S rfl rfl ?_; clear F a; intro a F
    refine wl_ev (wn rfl) (ev_int rfl rfl (bo_gtr _ _ _ _)) F S rfl rfl ?_; clear F a; intro a F
    refine wpList_nil ?_
    replace F := F.sub (e' := [(49, .bool (decide ((y3.length : Int) > 120))), (10, v1), (5, bp b2 0)]) ⟨rfl, rfl, rfl, trivial⟩
    refine then_n ?_
    obtain ⟨hc3, hm⟩ | ⟨hc3, hm⟩ := ite_or hm
    ·refine wp_condT F rfl hc3 ?_
     refine wp_seq ?_
     refine wp_region_lit ?_
     refine wl_ev (wn rfl) (ev_build (parts := [(0, .const (.int .i64 10)), (1, .const (.int .i64 (-1)))]) (vs := [(0, .int .i64 10), (1, .int .i64 (-1))]) rfl (fun w => tb24_0_1 10 (-1) w)) F S rfl rfl ?_; clear F a; intro a F
     refine wl_ev (wn rfl) (ev_assign rfl) F S rfl rfl ?_; clear F a; intro a F
     refine wl_storeC (wn rfl) rfl F S rfl rfl (vs := [.int .i64 10, .int .i64 (-1)]) rfl ts24 (one_cons rfl (one_cons rfl one_nil)) (k := 1) rfl (lb rfl) (c' := #[.int .i64 10, .int .i64 (-1)]) rfl rfl ?_; clear S; intro w S
     replace S : St g4 [c1, [(b2, .cells #[.int .i64 10, .int .i64 (-1)] 24 (0, 0))], [(b1, .cells #[vp_1] 38 (0, 0))]] fr w := S
     refine wpList_nil ?_
     replace F := F.sub (e' := [(4, nilS), (5, bp b2 0)]) ⟨rfl, rfl, trivial⟩
     refine then_n ?_
     refine wp_ret ?_
     refine then_r ?_
     obtain rfl := sinj hm
     replace S : St g4 [[], c1, [(b2, .cells #[.int .i64 10, .int .i64 (-1)] 24 (0, 0))], [(b1, .cells #[vp_1] 38 (0, 0))]] fr w := S
     refine post_r (fn := Try.f19) (rs := [.tmp 4, .cell 5 24]) [nilS, .agg #[.int .i64 10, .int .i64 (-1)]] F rfl (ar_cons (resT rfl) (ar_cons (resA rfl tu24 rfl ts24 (box_ptr (cells := [.int .i64 10, .int .i64 (-1)]) 2 rfl 0 rfl (lb rfl) w S)) ar_nil)) ?_
     replace S : St g4 [[]] fr w := St.tail [[]] _ (S.frontC 0 rfl)
     exact ⟨_, rfl, g4, (nilS), [], (((l1.trans l2).trans l3).trans l4), S, (OwnS.nil _), rfl⟩
    ·refine wp_condF F rfl hc3 ?_
     refine wp_skip ?_
     refine then_n ?_
     refine wp_seq ?_
     refine wp_region_lit ?_
     refine wl_ev (wn rfl) (ev_move rfl) F S rfl rfl ?_; clear F a; intro a F
     refine wl_ev (wn rfl) (ev_build (parts := []) (vs := []) rfl (fun w => tb24_  w)) F S rfl rfl ?_; clear F a; intro a F
     refine wl_ev (wn rfl) (ev_assign rfl) F S rfl rfl ?_; clear F a; intro a F
     refine wl_storeC (wn rfl) rfl F S rfl rfl (vs := [.int .i64 0, .int .i64 0]) rfl ts24 (one_cons rfl (one_cons rfl one_nil)) (k := 1) rfl (lb rfl) (c' := #[.int .i64 0, .int .i64 0]) rfl rfl ?_; clear S; intro w S
     replace S : St g4 [c1, [(b2, .cells #[.int .i64 0, .int .i64 0] 24 (0, 0))], [(b1, .cells #[vp_1] 38 (0, 0))]] fr w := S
     refine wpList_nil ?_
     replace F := F.sub (e' := [(4, v1), (5, bp b2 0)]) ⟨rfl, rfl, trivial⟩
     refine then_n ?_
     refine wp_ret ?_
     obtain rfl := sinj hm
     refine post_r (fn := Try.f19) (rs := [.tmp 4, .cell 5 24]) [v1, .agg #[.int .i64 0, .int .i64 0]] F rfl (ar_cons (resT rfl) (ar_cons (resA rfl tu24 rfl ts24 (box_ptr (cells := [.int .i64 0, .int .i64 0]) 1 rfl 0 rfl (lb rfl) w S)) ar_nil)) ?_
     replace S : St g4 [c1] fr w := St.tail [c1] _ (S.frontC 0 rfl)
     exact ⟨_, rfl, g4, v1, c1, (((l1.trans l2).trans l3).trans l4), S, h1, rfl⟩

theorem stack_Apply_ok {g : Gh} {fr : Hl} {w : World} {r : (List ByteArray) × Fault} (base : (List ByteArray)) (vbase1 : Value) (hbase1 : RepSl g base vbase1) (patches : (List Patch)) (vpatches1 : Value) (hpatches1 : RepSl g patches vpatches1) (S : St g [] fr w) (hm : stack_Apply base patches = some r) :
  Calls Try.prog 16 [vbase1, vpatches1].toArray w (fun en w' => ∃ v, en = .returned v ∧ ∃ (g' : Gh) (v1 : Value) (c1 : Hl), Le g g' ∧ St g' [c1] fr w' ∧ OwnS g' r.1 v1 c1 ∧ .tuple #[v1, .agg #[.int .i64 r.2.Code, .int .i64 r.2.Index]] = v) := by
 unfold stack_Apply at hm
 refine calls_enter (fn := Try.f16) Try.func16 rfl Try.ntmps16 (lb rfl) ?_
 intro a F
 replace F : Fr 51 a [(0, vbase1), (1, vpatches1)] := F
 refine wp_seq ?_
 refine wp_region_lit ?_
 refine wl_ev (wn rfl) (ev_assign rfl) F S rfl rfl ?_; clear F a; intro a F
 refine wl_alloc (wn rfl) rfl tz24 (cs := [.int .i64 0, .int .i64 0]) rfl F S rfl rfl ?_; clear F a S; rintro b1 a w F S
 refine wpList_nil ?_
 replace F := F.sub (e' := [(5, bp b1 0), (0, vbase1), (1, vpatches1)]) ⟨rfl, rfl, rfl, trivial⟩
 refine then_n ?_
 refine wp_seq ?_
 refine wp_seq ?_
 refine wp_region_lit ?_
 refine wl_ev (wn rfl) (ev_move rfl) F S rfl rfl ?_; clear F a; intro a F
 obtain ⟨y1, hy1, hm⟩ := bind_some hm
 refine wl_call (wn rfl) rfl (xs := [.tmp 13]) (vs := [vpatches1]) (cap := []) F rfl rfl tc23 (stack_check_ok (g := g) (fr := (fl [[(b1, .cells #[.int .i64 0, .int .i64 0] 24 (0, 0))]] fr)) (w := w) patches vpatches1 hpatches1 S hy1) rfl rfl ?_; clear F a S
 rintro _ a w ⟨g1, l1, S, rfl⟩ F; replace S : St g1 [[(b1, .cells #[.int .i64 0, .int .i64 0] 24 (0, 0))]] fr w := S
 refine wl_alloc (wn rfl) rfl tz24 (cs := [.int .i64 0, .int .i64 0]) rfl F S rfl rfl ?_; clear F a S; rintro b2 a w F S
 refine wl_storeC (wn rfl) rfl F S rfl rfl (vs := [.int .i64 y1.Code, .int .i64 y1.Index]) rfl ts24 (one_cons rfl (one_cons rfl one_nil)) (k := 0) rfl (lb rfl) (c' := #[.int .i64 y1.Code, .int .i64 y1.Index]) rfl rfl ?_; clear S; intro w S
 replace S : St g1 [[(b2, .cells #[.int .i64 y1.Code, .int .i64 y1.Index] 24 (0, 0))], [(b1, .cells #[.int .i64 0, .int .i64 0] 24 (0, 0))]] fr w := S
 refine wpList_nil ?_
 replace F := F.sub (e' := [(6, bp b2 0), (5, bp b1 0), (0, vbase1), (1, vpatches1)]) ⟨rfl, rfl, rfl, rfl, trivial⟩
 refine then_n ?_
 refine wp_seq ?_
 refine wp_region_lit ?_
 refine wl_ev (wn rfl) (ev_loadA tu24 rfl (cs := [.int .i64 y1.Code, .int .i64 y1.Index]) ts24 rfl (box_ptr (cells := [.int .i64 y1.Code, .int .i64 y1.Index]) 0 rfl 0 rfl (lb rfl))) F S rfl rfl ?_; clear F a; intro a F
 refine wl_ev (wn rfl) (ev_build (parts := []) (vs := []) rfl (fun w => tb24_  w)) F S rfl rfl ?_; clear F a; intro a F
 refine wl_ev (wn rfl) (ev_neS tu24 tqa24 tqb24 tqc24 (xs := [.int .i64 y1.Code, .int .i64 y1.Index]) (ys := [.int .i64 0, .int .i64 0]) rfl rfl ⟨_, _, rfl, by decide, ⟨_, _, rfl, rfl, leaf_int tu3⟩, ⟨_, _, rfl, by decide, ⟨_, _, rfl, rfl, leaf_int tu3⟩, rfl⟩⟩) F S rfl rfl ?_; clear F a; intro a F
 refine wpList_nil ?_
 replace F := F.sub (e' := [(17, .bool (!(decide (y1.Code = 0) && decide (y1.Index = 0)))), (6, bp b2 0), (5, bp b1 0), (0, vbase1), (1, vpatches1)]) ⟨rfl, rfl, rfl, rfl, rfl, trivial⟩
 refine then_n ?_
 obtain ⟨hc1, hm⟩ | ⟨hc1, hm⟩ := ite_or hm
 ·refine wp_condT F rfl hc1 ?_
  refine wp_seq ?_
  refine wp_drawL ⟨2, [[18], [4], []], [[], [], [4]], [[3], [], []], [[6], [], [5]], [[], [], [0]], [5], [0, 1, 2, 3]⟩
   [([18], fun us g c => us = [.agg #[.int .i64 y1.Code, .int .i64 y1.Index]]),
    ([4], fun us g c => us = [nilS]),
    ([], fun us g c => us = [] ∧ c = [(b1, .cells #[.int .i64 y1.Code, .int .i64 y1.Index] 24 (0, 0))])]
   mo (by kernel_rfl) rfl rfl ⟨fun _ _ _ _ _ h => h, fun _ _ _ _ _ h => h, fun _ _ _ _ _ h => h, trivial⟩ F S ⟨?_, ?_, ?_, trivial⟩ ?_
  ·intro a w gd1 c fr hsz hdf hK ld1 hN hI S
   have F : Fr 51 a [(6, bp b2 0)] := Fr.of hsz hdf ⟨hK 6 (by decide) _ rfl, trivial⟩
   replace S : St gd1 [c 3] fr w := S.of_eq (flat2 _ _ _ _)
   have q3 : c 3 = [(b2, .cells #[.int .i64 y1.Code, .int .i64 y1.Index] 24 (0, 0))] := hI 0 _ rfl
   rw [q3] at S
   refine wl_ev (wn rfl) (ev_loadA tu24 rfl (cs := [.int .i64 y1.Code, .int .i64 y1.Index]) ts24 rfl (box_ptr (cells := [.int .i64 y1.Code, .int .i64 y1.Index]) 0 rfl 0 rfl (lb rfl))) F S rfl rfl ?_; clear F; intro a F
   refine wpList_nil ⟨rfl, F.sz, F.df, _, [], (Le.refl _), ?_, (lst1 (F.get 18 _ rfl))⟩
   refine St0.of_eq ?_ (flat3 c [] [3] fr).symm
   show St0 _ (fl ([] ++ [c 3]) fr) _
   rw [q3]
   exact S
  ·intro a w gd1 c fr hsz hdf hK ld1 hN hI S
   have F : Fr 51 a [] := Fr.of hsz hdf trivial
   replace S : St gd1 [] fr w := S.of_eq (flat2 _ _ _ _)
   refine wl_ev (wn rfl) (ev_assign rfl) F S rfl rfl ?_; clear F; intro a F
   refine wpList_nil ⟨rfl, F.sz, F.df, _, [], (Le.refl _), ?_, (lst1 (F.get 4 _ rfl))⟩
   refine St0.of_eq ?_ (flat3 c [] [] fr).symm
   show St0 _ (fl ([] ++ []) fr) _
   exact S
  ·intro a w gd1 c fr hsz hdf hK ld1 hN hI S
   have e0 := hN 0 (by decide)
   have e18x : val a 18 = .agg #[.int .i64 y1.Code, .int .i64 y1.Index] := nth e0 0
   have F : Fr 51 a [(5, bp b1 0), (18, .agg #[.int .i64 y1.Code, .int .i64 y1.Index])] := Fr.of hsz hdf ⟨hK 5 (by decide) _ rfl, e18x, trivial⟩
   replace S : St gd1 [c 4] fr w := S.of_eq (flat2 _ _ _ _)
   have q4 : c 4 = [(b1, .cells #[.int .i64 0, .int .i64 0] 24 (0, 0))] := hI 1 _ rfl
   rw [q4] at S
   refine wl_storeC (wn rfl) rfl F S rfl rfl (vs := [.int .i64 y1.Code, .int .i64 y1.Index]) rfl ts24 (one_cons rfl (one_cons rfl one_nil)) (k := 0) rfl (lb rfl) (c' := #[.int .i64 y1.Code, .int .i64 y1.Index]) rfl rfl ?_; clear S; intro w S
   replace S : St gd1 [[(b1, .cells #[.int .i64 y1.Code, .int .i64 y1.Index] 24 (0, 0))]] fr w := S
   refine wpList_nil ⟨rfl, F.sz, F.df, _, [(b1, .cells #[.int .i64 y1.Code, .int .i64 y1.Index] 24 (0, 0))], (Le.refl _), ?_, ⟨rfl, rfl⟩⟩
   refine St0.of_eq ?_ (flat3s c ([(b1, .cells #[.int .i64 y1.Code, .int .i64 y1.Index] 24 (0, 0))]) [] fr).symm
   show St0 _ (fl ([[(b1, .cells #[.int .i64 y1.Code, .int .i64 y1.Index] 24 (0, 0))]] ++ []) fr) _
   exact S
  clear F S; intro a w gd1 c hsz hdf hK ld1 hI S hN
  have e1 := hN 1 (by decide)
  have e4x : val a 4 = nilS := nth e1 0
  obtain ⟨e2, q2⟩ := hN 2 (by decide)
  have F : Fr 51 a [(5, bp b1 0), (4, nilS)] := Fr.of hsz hdf ⟨hK 5 (by decide) _ rfl, e4x, trivial⟩
  replace S : St gd1 [c 0, c 1, c 2, c 3] fr w := S.of_eq (flat_fl _ _ _)
  rw [q2] at S
  have q3 : c 3 = [(b2, .cells #[.int .i64 y1.Code, .int .i64 y1.Index] 24 (0, 0))] := hI 0 _ rfl
  rw [q3] at S
  replace S : St gd1 [[(b1, .cells #[.int .i64 y1.Code, .int .i64 y1.Index] 24 (0, 0))]] fr w := St.tail [[(b1, .cells #[.int .i64 y1.Code, .int .i64 y1.Index] 24 (0, 0))]] _ (S.frontC 2 rfl)
  clear hK hI hN hsz hdf e1 e2 e4x
  refine then_n ?_
  refine wp_ret ?_
  refine then_r ?_
  obtain rfl := sinj hm
  replace S : St gd1 [[], [(b1, .cells #[.int .i64 y1.Code, .int .i64 y1.Index] 24 (0, 0))]] fr w := S
  refine post_r (fn := Try.f16) (rs := [.tmp 4, .cell 5 24]) [nilS, .agg #[.int .i64 y1.Code, .int .i64 y1.Index]] F rfl (ar_cons (resT rfl) (ar_cons (resA rfl tu24 rfl ts24 (box_ptr (cells := [.int .i64 y1.Code, .int .i64 y1.Index]) 1 rfl 0 rfl (lb rfl) w S)) ar_nil)) ?_
  replace S : St gd1 [[]] fr w := St.tail [[]] _ (S.frontC 0 rfl)
  exact ⟨_, rfl, gd1, (nilS), [], (l1.trans ld1), S, (OwnS.nil _), rfl⟩
 ·refine wp_condF F rfl hc1 ?_
  refine wp_skip ?_
  refine then_n ?_
  refine wp_seq ?_
  refine wp_seq ?_
  refine wp_region_lit ?_
  refine wl_ev (wn rfl) (ev_move rfl) F S rfl rfl ?_; clear F a; intro a F
  obtain ⟨y2, hy2, hm⟩ := bind_some hm
  refine wl_call (wn rfl) rfl (xs := [.tmp 19, .const (.int .i64 (-2))]) (vs := [vbase1, .int .i64 (-2)]) (cap := []) F rfl rfl tc30 (lines_Second_ok (g := g1) (fr := (fl [[(b2, .cells #[.int .i64 y1.Code, .int .i64 y1.Index] 24 (0, 0))], [(b1, .cells #[.int .i64 0, .int .i64 0] 24 (0, 0))]] fr)) (w := w) base vbase1 (hbase1.mono l1) (-2) S hy2) rfl rfl ?_; clear F a S
  rintro _ a w ⟨g2, l2, S, rfl⟩ F; replace S : St g2 [[(b2, .cells #[.int .i64 y1.Code, .int .i64 y1.Index] 24 (0, 0))], [(b1, .cells #[.int .i64 0, .int .i64 0] 24 (0, 0))]] fr w := S
  refine wl_alloc (wn rfl) rfl tz24 (cs := [.int .i64 0, .int .i64 0]) rfl F S rfl rfl ?_; clear F a S; rintro b3 a w F S
  refine wl_storeC (wn rfl) rfl F S rfl rfl (vs := [.int .i64 y2.Code, .int .i64 y2.Index]) rfl ts24 (one_cons rfl (one_cons rfl one_nil)) (k := 0) rfl (lb rfl) (c' := #[.int .i64 y2.Code, .int .i64 y2.Index]) rfl rfl ?_; clear S; intro w S
  replace S : St g2 [[(b3, .cells #[.int .i64 y2.Code, .int .i64 y2.Index] 24 (0, 0))], [(b2, .cells #[.int .i64 y1.Code, .int .i64 y1.Index] 24 (0, 0))], [(b1, .cells #[.int .i64 0, .int .i64 0] 24 (0, 0))]] fr w := S
  refine wpList_nil ?_
  replace F := F.sub (e' := [(7, bp b3 0), (5, bp b1 0), (0, vbase1), (1, vpatches1)]) ⟨rfl, rfl, rfl, rfl, trivial⟩
  refine then_n ?_
  refine wp_seq ?_
  refine wp_region_lit ?_
  refine wl_ev (wn rfl) (ev_loadA tu24 rfl (cs := [.int .i64 y2.Code, .int .i64 y2.Index]) ts24 rfl (box_ptr (cells := [.int .i64 y2.Code, .int .i64 y2.Index]) 0 rfl 0 rfl (lb rfl))) F S rfl rfl ?_; clear F a; intro a F
  refine wl_ev (wn rfl) (ev_build (parts := []) (vs := []) rfl (fun w => tb24_  w)) F S rfl rfl ?_; clear F a; intro a F
  refine wl_ev (wn rfl) (ev_neS tu24 tqa24 tqb24 tqc24 (xs := [.int .i64 y2.Code, .int .i64 y2.Index]) (ys := [.int .i64 0, .int .i64 0]) rfl rfl ⟨_, _, rfl, by decide, ⟨_, _, rfl, rfl, leaf_int tu3⟩, ⟨_, _, rfl, by decide, ⟨_, _, rfl, rfl, leaf_int tu3⟩, rfl⟩⟩) F S rfl rfl ?_; clear F a; intro a F
  refine wpList_nil ?_
  replace F := F.sub (e' := [(23, .bool (!(decide (y2.Code = 0) && decide (y2.Index = 0)))), (7, bp b3 0), (5, bp b1 0), (0, vbase1), (1, vpatches1)]) ⟨rfl, rfl, rfl, rfl, rfl, trivial⟩
  refine then_n ?_
  obtain ⟨hc2, hm⟩ | ⟨hc2, hm⟩ := ite_or hm
  ·refine wp_condT F rfl hc2 ?_
   refine wp_seq ?_
   refine wp_drawL ⟨3, [[24], [4], []], [[], [], [5]], [[3], [], []], [[7], [], [5]], [[], [], [0]], [5], [0, 1, 2, 3, 4]⟩
    [([24], fun us g c => us = [.agg #[.int .i64 y2.Code, .int .i64 y2.Index]]),
     ([4], fun us g c => us = [nilS]),
     ([], fun us g c => us = [] ∧ c = [(b1, .cells #[.int .i64 y2.Code, .int .i64 y2.Index] 24 (0, 0))])]
    mo (by kernel_rfl) rfl rfl ⟨fun _ _ _ _ _ h => h, fun _ _ _ _ _ h => h, fun _ _ _ _ _ h => h, trivial⟩ F S ⟨?_, ?_, ?_, trivial⟩ ?_
   ·intro a w gd6 c fr hsz hdf hK ld6 hN hI S
    have F : Fr 51 a [(7, bp b3 0)] := Fr.of hsz hdf ⟨hK 7 (by decide) _ rfl, trivial⟩
    replace S : St gd6 [c 3] fr w := S.of_eq (flat2 _ _ _ _)
    have q3 : c 3 = [(b3, .cells #[.int .i64 y2.Code, .int .i64 y2.Index] 24 (0, 0))] := hI 0 _ rfl
    rw [q3] at S
    refine wl_ev (wn rfl) (ev_loadA tu24 rfl (cs := [.int .i64 y2.Code, .int .i64 y2.Index]) ts24 rfl (box_ptr (cells := [.int .i64 y2.Code, .int .i64 y2.Index]) 0 rfl 0 rfl (lb rfl))) F S rfl rfl ?_; clear F; intro a F
    refine wpList_nil ⟨rfl, F.sz, F.df, _, [], (Le.refl _), ?_, (lst1 (F.get 24 _ rfl))⟩
    refine St0.of_eq ?_ (flat3 c [] [3] fr).symm
    show St0 _ (fl ([] ++ [c 3]) fr) _
    rw [q3]
    exact S
   ·intro a w gd6 c fr hsz hdf hK ld6 hN hI S
    have F : Fr 51 a [] := Fr.of hsz hdf trivial
    replace S : St gd6 [] fr w := S.of_eq (flat2 _ _ _ _)
    refine wl_ev (wn rfl) (ev_assign rfl) F S rfl rfl ?_; clear F; intro a F
    refine wpList_nil ⟨rfl, F.sz, F.df, _, [], (Le.refl _), ?_, (lst1 (F.get 4 _ rfl))⟩
    refine St0.of_eq ?_ (flat3 c [] [] fr).symm
    show St0 _ (fl ([] ++ []) fr) _
    exact S
   ·intro a w gd6 c fr hsz hdf hK ld6 hN hI S
    have e0 := hN 0 (by decide)
    have e24x : val a 24 = .agg #[.int .i64 y2.Code, .int .i64 y2.Index] := nth e0 0
    have F : Fr 51 a [(5, bp b1 0), (24, .agg #[.int .i64 y2.Code, .int .i64 y2.Index])] := Fr.of hsz hdf ⟨hK 5 (by decide) _ rfl, e24x, trivial⟩
    replace S : St gd6 [c 5] fr w := S.of_eq (flat2 _ _ _ _)
    have q5 : c 5 = [(b1, .cells #[.int .i64 0, .int .i64 0] 24 (0, 0))] := hI 2 _ rfl
    rw [q5] at S
    refine wl_storeC (wn rfl) rfl F S rfl rfl (vs := [.int .i64 y2.Code, .int .i64 y2.Index]) rfl ts24 (one_cons rfl (one_cons rfl one_nil)) (k := 0) rfl (lb rfl) (c' := #[.int .i64 y2.Code, .int .i64 y2.Index]) rfl rfl ?_; clear S; intro w S
    replace S : St gd6 [[(b1, .cells #[.int .i64 y2.Code, .int .i64 y2.Index] 24 (0, 0))]] fr w := S
    refine wpList_nil ⟨rfl, F.sz, F.df, _, [(b1, .cells #[.int .i64 y2.Code, .int .i64 y2.Index] 24 (0, 0))], (Le.refl _), ?_, ⟨rfl, rfl⟩⟩
    refine St0.of_eq ?_ (flat3s c ([(b1, .cells #[.int .i64 y2.Code, .int .i64 y2.Index] 24 (0, 0))]) [] fr).symm
    show St0 _ (fl ([[(b1, .cells #[.int .i64 y2.Code, .int .i64 y2.Index] 24 (0, 0))]] ++ []) fr) _
    exact S
   clear F S; intro a w gd6 c hsz hdf hK ld6 hI S hN
   have e1 := hN 1 (by decide)
   have e4x : val a 4 = nilS := nth e1 0
   obtain ⟨e2, q2⟩ := hN 2 (by decide)
   have F : Fr 51 a [(5, bp b1 0), (4, nilS)] := Fr.of hsz hdf ⟨hK 5 (by decide) _ rfl, e4x, trivial⟩
   replace S : St gd6 [c 0, c 1, c 2, c 3, c 4] fr w := S.of_eq (flat_fl _ _ _)
   rw [q2] at S
   have q3 : c 3 = [(b3, .cells #[.int .i64 y2.Code, .int .i64 y2.Index] 24 (0, 0))] := hI 0 _ rfl
   rw [q3] at S
   have q4 : c 4 = [(b2, .cells #[.int .i64 y1.Code, .int .i64 y1.Index] 24 (0, 0))] := hI 1 _ rfl
   rw [q4] at S
   replace S : St gd6 [[(b1, .cells #[.int .i64 y2.Code, .int .i64 y2.Index] 24 (0, 0))]] fr w := St.tail [[(b1, .cells #[.int .i64 y2.Code, .int .i64 y2.Index] 24 (0, 0))]] _ (S.frontC 2 rfl)
   clear hK hI hN hsz hdf e1 e2 e4x
   refine then_n ?_
   refine wp_ret ?_
   refine then_r ?_
   obtain rfl := sinj hm
   replace S : St gd6 [[], [(b1, .cells #[.int .i64 y2.Code, .int .i64 y2.Index] 24 (0, 0))]] fr w := S
   refine post_r (fn := Try.f16) (rs := [.tmp 4, .cell 5 24]) [nilS, .agg #[.int .i64 y2.Code, .int .i64 y2.Index]] F rfl (ar_cons (resT rfl) (ar_cons (resA rfl tu24 rfl ts24 (box_ptr (cells := [.int .i64 y2.Code, .int .i64 y2.Index]) 1 rfl 0 rfl (lb rfl) w S)) ar_nil)) ?_
   replace S : St gd6 [[]] fr w := St.tail [[]] _ (S.frontC 0 rfl)
   exact ⟨_, rfl, gd6, (nilS), [], ((l1.trans l2).trans ld6), S, (OwnS.nil _), rfl⟩
  ·refine wp_condF F rfl hc2 ?_
   refine wp_skip ?_
   refine then_n ?_
   refine wp_seq ?_
   refine wp_region_lit ?_
   refine wl_ev (wn rfl) (ev_move rfl) F S rfl rfl ?_; clear F a; intro a F
   replace S : St g2 [[], [(b3, .cells #[.int .i64 y2.Code, .int .i64 y2.Index] 24 (0, 0))], [(b2, .cells #[.int .i64 y1.Code, .int .i64 y1.Index] 24 (0, 0))], [(b1, .cells #[.int .i64 0, .int .i64 0] 24 (0, 0))]] fr w := S
   obtain ⟨cs1, hk1, hr1⟩ := RepSl.reads (hbase1.mono (l1.trans l2))
   obtain ⟨y3, hy3, hm⟩ := bind_some hm
   refine wl_append (wn rfl) rfl tu31 tu31 te9 (by decide) (by decide) F S rfl rfl (k := 0) rfl (OwnS.nil _) hk1 rfl (hr1 _ _ S) hy3 rfl rfl ?_; clear F a S
   rintro v1 c1 a w h1 S F; replace S : St g2 [c1, [(b3, .cells #[.int .i64 y2.Code, .int .i64 y2.Index] 24 (0, 0))], [(b2, .cells #[.int .i64 y1.Code, .int .i64 y1.Index] 24 (0, 0))], [(b1, .cells #[.int .i64 0, .int .i64 0] 24 (0, 0))]] fr w := S
   refine wl_ev (wn rfl) (ev_assign rfl) F S rfl rfl ?_; clear F a; intro a F
   refine wpList_nil ?_
   replace F := F.sub (e' := [(8, v1), (5, bp b1 0), (1, vpatches1)]) ⟨rfl, rfl, rfl, trivial⟩
   refine then_n ?_
   refine wp_cut (fun a w => ∃ (x1 : List ByteArray) (v2 : Value) (c2 : Hl) (g3 : Gh), Fr 51 a [(8, v2), (5, bp b1 0)] ∧ Le g2 g3 ∧ St g3 [c2, [(b1, .cells #[.int .i64 0, .int .i64 0] 24 (0, 0))]] fr w ∧ OwnS g3 x1 v2 c2 ∧ stack_Apply.j1 x1 = some r) ?_ ?_
   ·refine wp_seq ?_
    refine wp_region_lit ?_
    refine wl_ev (wn rfl) (ev_move rfl) F S rfl rfl ?_; clear F a; intro a F
    refine wl_ev (wn rfl) (ev_lenSh hpatches1 rfl tu22) F S rfl rfl ?_; clear F a; intro a F
    refine wl_ev (wn rfl) (ev_move rfl) F S rfl rfl ?_; clear F a; intro a F
    refine wpList_nil ?_
    replace F := F.sub (e' := [(29, .int .i64 0), (28, .int .i64 (patches.length : Int)), (27, vpatches1), (8, v1), (5, bp b1 0)]) ⟨rfl, rfl, rfl, rfl, rfl, trivial⟩
    refine then_n ?_
    refine wp_block ?_
    obtain ⟨r1, hr2, hm⟩ := bind_some hm
    have hmo1 := hm; clear hm
    refine wp_iter (σ := Int × (List ByteArray)) (ρ := ((List ByteArray) × Fault) ⊕ (List ByteArray)) (m := fun s => stack_Apply.l1 patches s.1 s.2) (I := fun s a w => match s with | (x2, x3) => ∃ (v3 : Value) (c3 : Hl) (g4 : Gh), Fr 51 a [(29, .int .i64 x2), (28, .int .i64 (patches.length : Int)), (27, vpatches1), (8, v3), (5, bp b1 0)] ∧ Le g2 g4 ∧ St g4 [c3, [(b1, .cells #[.int .i64 0, .int .i64 0] 24 (0, 0))]] fr w ∧ OwnS g4 x3 v3 c3) hr2 ?_ ?_
    ·dsimp only
     replace S : St g2 [c1, [(b1, .cells #[.int .i64 0, .int .i64 0] 24 (0, 0))]] fr w := St.tail [c1, [(b1, .cells #[.int .i64 0, .int .i64 0] 24 (0, 0))]] _ ((S.frontC 3 rfl).frontC 1 rfl)
     exact ⟨v1, c1, g2, F.sub ⟨rfl, rfl, rfl, rfl, rfl, trivial⟩, (Le.refl _), S, h1⟩
    ·clear F S; rintro ⟨x2, x3⟩ a w x4 ⟨v3, c3, g4, F, l4, S, h3⟩ hx1 hfin1
     have hm : stack_Apply.l1 patches x2 x3 = some x4 := hx1; clear hx1
     unfold stack_Apply.l1 at hm
     refine wp_seq ?_
     refine wp_region_lit ?_
     refine wl_ev (wn rfl) (ev_int rfl rfl (bo_lss _ _ _ _)) F S rfl rfl ?_; clear F a; intro a F
     refine wpList_nil ?_
     refine then_n ?_
     refine wp_seq ?_
     obtain ⟨hc3, hm⟩ | ⟨hc3, hm⟩ := ite_or hm
     ·refine wp_condT F rfl hc3 ?_
      refine wp_skip ?_
      refine then_n ?_
      refine wp_seq ?_
      refine wp_block ?_
      refine wp_seq ?_
      refine wp_region_lit ?_
      refine wl_ev (wn rfl) (ev_move rfl) F S rfl rfl ?_; clear F a; intro a F
      obtain ⟨y4, hy4, hm⟩ := bind_some hm
      obtain ⟨cs2, hr3, hp1⟩ := elemS (hpatches1.mono ((l1.trans l2).trans l4)) hy4
      obtain ⟨v4, rfl, h4⟩ := rep_Patch hr3
      refine wl_ev (wn rfl) (ev_idxS (hpatches1.mono ((l1.trans l2).trans l4)) hy4 tu22 ts38 rfl rfl) F S rfl rfl ?_; clear F a; intro a F
      refine wl_ev (wn rfl) (ev_loadA tu38 rfl (cs := [v4]) ts38 rfl (ptr_mono (cks := [c3, [(b1, .cells #[.int .i64 0, .int .i64 0] 24 (0, 0))]]) (fr := fr) hp1 (Le.refl _))) F S rfl rfl ?_; clear F a; intro a F
      refine wl_alloc (wn rfl) rfl tz38 (cs := [nilS]) rfl F S rfl rfl ?_; clear F a S; rintro b4 a w F S
      refine wl_ev (wn rfl) (ev_assign rfl) F S rfl rfl ?_; clear F a; intro a F
      refine wl_storeC (wn rfl) rfl F S rfl rfl (vs := [v4]) rfl ts38 (one_cons h4.one one_nil) (k := 0) rfl (lb rfl) (c' := #[v4]) rfl rfl ?_; clear S; intro w S
      replace S : St g4 [[(b4, .cells #[v4] 38 (0, 0))], c3, [(b1, .cells #[.int .i64 0, .int .i64 0] 24 (0, 0))]] fr w := S
      refine wpList_nil ?_
      replace F := F.sub (e' := [(9, .int .i64 x2), (10, bp b4 0), (29, .int .i64 x2), (28, .int .i64 (patches.length : Int)), (27, vpatches1), (8, v3), (5, bp b1 0)]) ⟨rfl, rfl, rfl, rfl, rfl, rfl, rfl, trivial⟩
      refine then_n ?_
      refine wp_seq ?_
      refine wp_region_lit ?_
      refine wl_ev (wn rfl) (ev_loadA tu38 rfl (cs := [v4]) ts38 rfl (box_ptr (cells := [v4]) 0 rfl 0 rfl (lb rfl))) F S rfl rfl ?_; clear F a; intro a F
      refine wl_ev (wn rfl) (ev_move rfl) F S rfl rfl ?_; clear F a; intro a F
      obtain ⟨g5, l5, S, h5⟩ : ∃ gz, Le g4 gz ∧ St gz [[(b4, .cells #[v4] 38 (0, 0))], [(b1, .cells #[.int .i64 0, .int .i64 0] 24 (0, 0))]] fr w ∧ RepSl gz x3 v3 := ⟨_, Le.add _ _, S.freeze 1 rfl, OwnS.freeze (S.front 1 rfl) h3⟩
      obtain ⟨y5, hy5, hm⟩ := bind_some hm
      refine wl_call (wn rfl) rfl (xs := [.tmp 35, .tmp 36]) (vs := [.agg #[v4], v3]) (cap := []) F rfl rfl tc19 (textpatch_Apply_ok (g := g5) (fr := (fl [[(b4, .cells #[v4] 38 (0, 0))], [(b1, .cells #[.int .i64 0, .int .i64 0] 24 (0, 0))]] fr)) (w := w) y4 v4 (h4.mono l5) x3 v3 h5 S hy5) rfl rfl ?_; clear F a S
      rintro _ a w ⟨g6, v5, c4, l6, S, h6, rfl⟩ F; replace S : St g6 [c4, [(b4, .cells #[v4] 38 (0, 0))], [(b1, .cells #[.int .i64 0, .int .i64 0] 24 (0, 0))]] fr w := S
      refine wl_ev (wn rfl) (ev_move rfl) F S rfl rfl ?_; clear F a; intro a F
      refine wl_ev (wn rfl) (ev_extract (vs := [v5, .agg #[.int .i64 y5.2.Code, .int .i64 y5.2.Index]]) rfl rfl) F S rfl rfl ?_; clear F a; intro a F
      refine wl_ev (wn rfl) (ev_extract (vs := [v5, .agg #[.int .i64 y5.2.Code, .int .i64 y5.2.Index]]) rfl rfl) F S rfl rfl ?_; clear F a; intro a F
      refine wl_alloc (wn rfl) rfl tz24 (cs := [.int .i64 0, .int .i64 0]) rfl F S rfl rfl ?_; clear F a S; rintro b5 a w F S
      refine wl_ev (wn rfl) (ev_assign rfl) F S rfl rfl ?_; clear F a; intro a F
      refine wl_storeC (wn rfl) rfl F S rfl rfl (vs := [.int .i64 y5.2.Code, .int .i64 y5.2.Index]) rfl ts24 (one_cons rfl (one_cons rfl one_nil)) (k := 0) rfl (lb rfl) (c' := #[.int .i64 y5.2.Code, .int .i64 y5.2.Index]) rfl rfl ?_; clear S; intro w S
      replace S : St g6 [[(b5, .cells #[.int .i64 y5.2.Code, .int .i64 y5.2.Index] 24 (0, 0))], c4, [(b4, .cells #[v4] 38 (0, 0))], [(b1, .cells #[.int .i64 0, .int .i64 0] 24 (0, 0))]] fr w := S
      refine wpList_nil ?_
      replace F := F.sub (e' := [(11, v5), (12, bp b5 0), (9, .int .i64 x2), (29, .int .i64 x2), (28, .int .i64 (patches.length : Int)), (27, vpatches1), (5, bp b1 0)]) ⟨rfl, rfl, rfl, rfl, rfl, rfl, rfl, trivial⟩
      refine then_n ?_
      refine wp_seq ?_
      refine wp_seq ?_
      refine wp_region_lit ?_
      refine wl_ev (wn rfl) (ev_loadA tu24 rfl (cs := [.int .i64 y5.2.Code, .int .i64 y5.2.Index]) ts24 rfl (box_ptr (cells := [.int .i64 y5.2.Code, .int .i64 y5.2.Index]) 0 rfl 0 rfl (lb rfl))) F S rfl rfl ?_; clear F a; intro a F
      refine wl_ev (wn rfl) (ev_build (parts := []) (vs := []) rfl (fun w => tb24_  w)) F S rfl rfl ?_; clear F a; intro a F
      refine wl_ev (wn rfl) (ev_neS tu24 tqa24 tqb24 tqc24 (xs := [.int .i64 y5.2.Code, .int .i64 y5.2.Index]) (ys := [.int .i64 0, .int .i64 0]) rfl rfl ⟨_, _, rfl, by decide, ⟨_, _, rfl, rfl, leaf_int tu3⟩, ⟨_, _, rfl, by decide, ⟨_, _, rfl, rfl, leaf_int tu3⟩, rfl⟩⟩) F S rfl rfl ?_; clear F a; intro a F
      refine wpList_nil ?_
      replace F := F.sub (e' := [(42, .bool (!(decide (y5.2.Code = 0) && decide (y5.2.Index = 0)))), (11, v5), (12, bp b5 0), (9, .int .i64 x2), (29, .int .i64 x2), (28, .int .i64 (patches.length : Int)), (27, vpatches1), (5, bp b1 0)]) ⟨rfl, rfl, rfl, rfl, rfl, rfl, rfl, rfl, trivial⟩
      refine then_n ?_
      obtain ⟨hc4, hm⟩ | ⟨hc4, hm⟩ := ite_or hm
      ·refine wp_condT F rfl hc4 ?_
       refine wp_seq ?_
       refine wp_drawL ⟨4, [[43], [44], [45], [46], [4], []], [[], [], [], [], [], [9]], [[], [6], [], [], [], []], [[12], [], [9], [], [], [5]], [[], [0], [], [1, 2], [], [3]], [5], [0, 1, 2, 3, 4, 5, 6, 7, 8]⟩
        [([43], fun us g c => us = [bp b5 0]),
         ([44], fun us g c => us = [.int .i64 y5.2.Code]),
         ([45], fun us g c => us = [.int .i64 x2]),
         ([46], fun us g c => us = [.agg #[.int .i64 y5.2.Code, .int .i64 x2]]),
         ([4], fun us g c => us = [nilS]),
         ([], fun us g c => us = [] ∧ c = [(b1, .cells #[.int .i64 y5.2.Code, .int .i64 x2] 24 (0, 0))])]
        mo (by kernel_rfl) rfl rfl ⟨fun _ _ _ _ _ h => h, fun _ _ _ _ _ h => h, fun _ _ _ _ _ h => h, fun _ _ _ _ _ h => h, fun _ _ _ _ _ h => h, fun _ _ _ _ _ h => h, trivial⟩ F S ⟨?_, ?_, ?_, ?_, ?_, ?_, trivial⟩ ?_
       ·intro a w gd11 c fr hsz hdf hK ld11 hN hI S
        have F : Fr 51 a [(12, bp b5 0)] := Fr.of hsz hdf ⟨hK 12 (by decide) _ rfl, trivial⟩
        replace S : St gd11 [] fr w := S.of_eq (flat2 _ _ _ _)
        refine wl_ev (wn rfl) (ev_fieldAddr' tu24 tf24_0 (z := 0) ts3 rfl ⟨_, rfl⟩ rfl) F S rfl rfl ?_; clear F; intro a F
        refine wpList_nil ⟨rfl, F.sz, F.df, _, [], (Le.refl _), ?_, (lst1 (F.get 43 _ rfl))⟩
        refine St0.of_eq ?_ (flat3 c [] [] fr).symm
        show St0 _ (fl ([] ++ []) fr) _
        exact S
       ·intro a w gd11 c fr hsz hdf hK ld11 hN hI S
        have e0 := hN 0 (by decide)
        have e43x : val a 43 = bp b5 0 := nth e0 0
        have F : Fr 51 a [(43, bp b5 0)] := Fr.of hsz hdf ⟨e43x, trivial⟩
        replace S : St gd11 [c 6] fr w := S.of_eq (flat2 _ _ _ _)
        have q6 : c 6 = [(b5, .cells #[.int .i64 y5.2.Code, .int .i64 y5.2.Index] 24 (0, 0))] := hI 0 _ rfl
        rw [q6] at S
        refine wl_ev (wn rfl) (ev_load1 tu3 rfl rfl (box_ptr (cells := [.int .i64 y5.2.Code]) 0 rfl 0 rfl (lb rfl))) F S rfl rfl ?_; clear F; intro a F
        refine wpList_nil ⟨rfl, F.sz, F.df, _, [], (Le.refl _), ?_, (lst1 (F.get 44 _ rfl))⟩
        refine St0.of_eq ?_ (flat3 c [] [6] fr).symm
        show St0 _ (fl ([] ++ [c 6]) fr) _
        rw [q6]
        exact S
       ·intro a w gd11 c fr hsz hdf hK ld11 hN hI S
        have F : Fr 51 a [(9, .int .i64 x2)] := Fr.of hsz hdf ⟨hK 9 (by decide) _ rfl, trivial⟩
        replace S : St gd11 [] fr w := S.of_eq (flat2 _ _ _ _)
        refine wl_ev (wn rfl) (ev_move rfl) F S rfl rfl ?_; clear F; intro a F
        refine wpList_nil ⟨rfl, F.sz, F.df, _, [], (Le.refl _), ?_, (lst1 (F.get 45 _ rfl))⟩
        refine St0.of_eq ?_ (flat3 c [] [] fr).symm
        show St0 _ (fl ([] ++ []) fr) _
        exact S
       ·intro a w gd11 c fr hsz hdf hK ld11 hN hI S
        have e1 := hN 1 (by decide)
        have e44x : val a 44 = .int .i64 y5.2.Code := nth e1 0
        have e2 := hN 2 (by decide)
        have e45x : val a 45 = .int .i64 x2 := nth e2 0
        have F : Fr 51 a [(44, .int .i64 y5.2.Code), (45, .int .i64 x2)] := Fr.of hsz hdf ⟨e44x, e45x, trivial⟩
        replace S : St gd11 [] fr w := S.of_eq (flat2 _ _ _ _)
        refine wl_ev (wn rfl) (ev_build (parts := [(0, .tmp 44), (1, .tmp 45)]) (vs := [(0, .int .i64 y5.2.Code), (1, .int .i64 x2)]) rfl (fun w => tb24_0_1 y5.2.Code x2 w)) F S rfl rfl ?_; clear F; intro a F
        refine wpList_nil ⟨rfl, F.sz, F.df, _, [], (Le.refl _), ?_, (lst1 (F.get 46 _ rfl))⟩
        refine St0.of_eq ?_ (flat3 c [] [] fr).symm
        show St0 _ (fl ([] ++ []) fr) _
        exact S
       ·intro a w gd11 c fr hsz hdf hK ld11 hN hI S
        have F : Fr 51 a [] := Fr.of hsz hdf trivial
        replace S : St gd11 [] fr w := S.of_eq (flat2 _ _ _ _)
        refine wl_ev (wn rfl) (ev_assign rfl) F S rfl rfl ?_; clear F; intro a F
        refine wpList_nil ⟨rfl, F.sz, F.df, _, [], (Le.refl _), ?_, (lst1 (F.get 4 _ rfl))⟩
        refine St0.of_eq ?_ (flat3 c [] [] fr).symm
        show St0 _ (fl ([] ++ []) fr) _
        exact S
       ·intro a w gd11 c fr hsz hdf hK ld11 hN hI S
        have e3 := hN 3 (by decide)
        have e46x : val a 46 = .agg #[.int .i64 y5.2.Code, .int .i64 x2] := nth e3 0
        have F : Fr 51 a [(5, bp b1 0), (46, .agg #[.int .i64 y5.2.Code, .int .i64 x2])] := Fr.of hsz hdf ⟨hK 5 (by decide) _ rfl, e46x, trivial⟩
        replace S : St gd11 [c 9] fr w := S.of_eq (flat2 _ _ _ _)
        have q9 : c 9 = [(b1, .cells #[.int .i64 0, .int .i64 0] 24 (0, 0))] := hI 3 _ rfl
        rw [q9] at S
        refine wl_storeC (wn rfl) rfl F S rfl rfl (vs := [.int .i64 y5.2.Code, .int .i64 x2]) rfl ts24 (one_cons rfl (one_cons rfl one_nil)) (k := 0) rfl (lb rfl) (c' := #[.int .i64 y5.2.Code, .int .i64 x2]) rfl rfl ?_; clear S; intro w S
        replace S : St gd11 [[(b1, .cells #[.int .i64 y5.2.Code, .int .i64 x2] 24 (0, 0))]] fr w := S
        refine wpList_nil ⟨rfl, F.sz, F.df, _, [(b1, .cells #[.int .i64 y5.2.Code, .int .i64 x2] 24 (0, 0))], (Le.refl _), ?_, ⟨rfl, rfl⟩⟩
        refine St0.of_eq ?_ (flat3s c ([(b1, .cells #[.int .i64 y5.2.Code, .int .i64 x2] 24 (0, 0))]) [] fr).symm
        show St0 _ (fl ([[(b1, .cells #[.int .i64 y5.2.Code, .int .i64 x2] 24 (0, 0))]] ++ []) fr) _
        exact S
       clear F S; intro a w gd11 c hsz hdf hK ld11 hI S hN
       have e4 := hN 4 (by decide)
       have e4x : val a 4 = nilS := nth e4 0
       obtain ⟨e5, q5⟩ := hN 5 (by decide)
       have F : Fr 51 a [(5, bp b1 0), (4, nilS)] := Fr.of hsz hdf ⟨hK 5 (by decide) _ rfl, e4x, trivial⟩
       replace S : St gd11 [c 0, c 1, c 2, c 3, c 4, c 5, c 6, c 7, c 8] fr w := S.of_eq (flat_fl _ _ _)
       rw [q5] at S
       have q6 : c 6 = [(b5, .cells #[.int .i64 y5.2.Code, .int .i64 y5.2.Index] 24 (0, 0))] := hI 0 _ rfl
       rw [q6] at S
       have q7 : c 7 = c4 := hI 1 _ rfl
       rw [q7] at S
       have q8 : c 8 = [(b4, .cells #[v4] 38 (0, 0))] := hI 2 _ rfl
       rw [q8] at S
       replace S : St gd11 [[(b1, .cells #[.int .i64 y5.2.Code, .int .i64 x2] 24 (0, 0))]] fr w := St.tail [[(b1, .cells #[.int .i64 y5.2.Code, .int .i64 x2] 24 (0, 0))]] _ (S.frontC 5 rfl)
       clear hK hI hN hsz hdf e4 e5 e4x
       refine then_n ?_
       refine wp_ret ?_
       refine then_r ?_
       refine inb_r ?_
       refine then_r ?_
       refine then_r ?_
       refine inb_r ?_
       refine then_r ?_
       obtain rfl := sinj hm
       obtain rfl := hfin1 _ rfl
       clear hm
       have hm : (some ([], ({ Code := y5.2.Code, Index := x2 } : Fault)) : Option ((List ByteArray) × Fault)) = some _ := hmo1
       obtain rfl := sinj hm
       replace S : St gd11 [[], [(b1, .cells #[.int .i64 y5.2.Code, .int .i64 x2] 24 (0, 0))]] fr w := S
       refine post_r (fn := Try.f16) (rs := [.tmp 4, .cell 5 24]) [nilS, .agg #[.int .i64 y5.2.Code, .int .i64 x2]] F rfl (ar_cons (resT rfl) (ar_cons (resA rfl tu24 rfl ts24 (box_ptr (cells := [.int .i64 y5.2.Code, .int .i64 x2]) 1 rfl 0 rfl (lb rfl) w S)) ar_nil)) ?_
       replace S : St gd11 [[]] fr w := St.tail [[]] _ (S.frontC 0 rfl)
       exact ⟨_, rfl, gd11, (nilS), [], (((((l1.trans l2).trans l4).trans l5).trans l6).trans ld11), S, (OwnS.nil _), rfl⟩
      ·refine wp_condF F rfl hc4 ?_
       refine wp_skip ?_
       refine then_n ?_
       refine wp_region_lit ?_
       refine wl_ev (wn rfl) (ev_move rfl) F S rfl rfl ?_; clear F a; intro a F
       refine wl_ev (wn rfl) (ev_assign rfl) F S rfl rfl ?_; clear F a; intro a F
       refine wpList_nil ?_
       replace F := F.sub (e' := [(8, v5), (29, .int .i64 x2), (28, .int .i64 (patches.length : Int)), (27, vpatches1), (5, bp b1 0)]) ⟨rfl, rfl, rfl, rfl, rfl, trivial⟩
       refine inb_n ?_
       refine then_n ?_
       refine wp_region_lit ?_
       obtain ⟨z1, hz1, hm⟩ := bind_some hm
       refine wl_ev (wn rfl) (ev_int rfl rfl (bo_add hz1)) F S rfl rfl ?_; clear F a; intro a F
       refine wl_ev (wn rfl) (ev_move rfl) F S rfl rfl ?_; clear F a; intro a F
       refine wpList_nil ?_
       replace F := F.sub (e' := [(29, .int .i64 z1), (8, v5), (28, .int .i64 (patches.length : Int)), (27, vpatches1), (5, bp b1 0)]) ⟨rfl, rfl, rfl, rfl, rfl, trivial⟩
       refine then_n ?_
       obtain rfl := sinj hm
       refine ⟨_, rfl, ?_⟩
       dsimp only
       replace S : St g6 [c4, [(b1, .cells #[.int .i64 0, .int .i64 0] 24 (0, 0))]] fr w := St.tail [c4, [(b1, .cells #[.int .i64 0, .int .i64 0] 24 (0, 0))]] _ ((S.frontC 3 rfl).frontC 2 rfl)
       exact ⟨v5, c4, g6, F.sub ⟨rfl, rfl, rfl, rfl, rfl, trivial⟩, ((l4.trans l5).trans l6), S, h6⟩
     ·refine wp_condF F rfl hc3 ?_
      refine wp_exit ?_
      refine then_e ?_
      refine then_e ?_
      refine inb_x ?_
      refine then_n ?_
      obtain rfl := sinj hm
      obtain rfl := hfin1 _ rfl
      clear hm
      have hm : (stack_Apply.j1 x3 : Option ((List ByteArray) × Fault)) = some _ := hmo1
      exact ⟨x3, v3, c3, g4, F.sub ⟨rfl, rfl, trivial⟩, l4, S, h3, hm⟩
   ·clear F S hm; rintro a w ⟨x1, v2, c2, g3, F, l3, S, h2, hm⟩
    refine wp_seq ?_
    refine wp_region_lit ?_
    refine wl_ev (wn rfl) (ev_move rfl) F S rfl rfl ?_; clear F a; intro a F
    refine wl_ev (wn rfl) (ev_build (parts := []) (vs := []) rfl (fun w => tb24_  w)) F S rfl rfl ?_; clear F a; intro a F
    refine wl_ev (wn rfl) (ev_assign rfl) F S rfl rfl ?_; clear F a; intro a F
    refine wl_storeC (wn rfl) rfl F S rfl rfl (vs := [.int .i64 0, .int .i64 0]) rfl ts24 (one_cons rfl (one_cons rfl one_nil)) (k := 1) rfl (lb rfl) (c' := #[.int .i64 0, .int .i64 0]) rfl rfl ?_; clear S; intro w S
    replace S : St g3 [c2, [(b1, .cells #[.int .i64 0, .int .i64 0] 24 (0, 0))]] fr w := S
    refine wpList_nil ?_
    replace F := F.sub (e' := [(4, v2), (5, bp b1 0)]) ⟨rfl, rfl, trivial⟩
    refine then_n ?_
    refine wp_ret ?_
    obtain rfl := sinj hm
    refine post_r (fn := Try.f16) (rs := [.tmp 4, .cell 5 24]) [v2, .agg #[.int .i64 0, .int .i64 0]] F rfl (ar_cons (resT rfl) (ar_cons (resA rfl tu24 rfl ts24 (box_ptr (cells := [.int .i64 0, .int .i64 0]) 1 rfl 0 rfl (lb rfl) w S)) ar_nil)) ?_
    replace S : St g3 [c2] fr w := St.tail [c2] _ (S.frontC 0 rfl)
    exact ⟨_, rfl, g3, v2, c2, ((l1.trans l2).trans l3), S, h2, rfl⟩
end Go.Dc
