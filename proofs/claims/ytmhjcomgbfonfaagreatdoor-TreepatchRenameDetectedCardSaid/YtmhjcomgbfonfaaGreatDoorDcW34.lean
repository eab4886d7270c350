/- Walks: each function comes to what its model says. -/
import Derived.Test.YtmhjcomgbfonfaaGreatDoorDcTab
import Derived.Test.YtmhjcomgbfonfaaGreatDoorDcM
import Derived.Test.YtmhjcomgbfonfaaGreatDoorDcW28
import Derived.Test.YtmhjcomgbfonfaaGreatDoorDcW32
import Derived.Test.YtmhjcomgbfonfaaGreatDoorDcW4
import Derived.Test.YtmhjcomgbfonfaaGreatDoorDcW5
namespace Go.Dc
open Go Go.Proofs
set_option maxRecDepth 100000
set_option maxHeartbeats 4000000
set_option linter.unusedVariables false
theorem changeforgeequal_StringPairs_ok {g : Gh} {fr : Hl} {w : World} {r : Bool} (a_ : (List Arr2_ByteArray)) (va_1 : Value) (ha_1 : RepSl g a_ va_1) (b_ : (List Arr2_ByteArray)) (vb_1 : Value) (hb_1 : RepSl g b_ vb_1) (S : St g [] fr w) (hm : changeforgeequal_StringPairs a_ b_ = some r) :
  Calls Tryz.prog 29 [va_1, vb_1].toArray w (fun en w' => ∃ v, en = .returned v ∧ ∃ (g' : Gh), Le g g' ∧ St g' [] fr w' ∧ .bool r = v) := by
 unfold changeforgeequal_StringPairs at hm
 refine calls_enter (fn := Tryz.f29) Tryz.func29 rfl Tryz.ntmps29 (lb rfl) ?_
 intro a F
 replace F : Fr 26 a [(0, va_1), (1, vb_1)] := F
 refine wp_seq ?_
 refine wp_region_lit ?_
 refine wE (ev_assign rfl) F S rfl fun a F=>?_
 refine wpList_nil ?_
 refine then_n ?_
 refine wp_seq ?_
 refine wp_seq ?_
 refine wp_region_lit ?_
 refine wE (ev_move rfl) F S rfl fun a F=>?_
 refine wE (ev_lenSh ha_1 rfl tu63) F S rfl fun a F=>?_
 refine wE (ev_move rfl) F S rfl fun a F=>?_
 refine wE (ev_lenSh hb_1 rfl tu63) F S rfl fun a F=>?_
 refine wE (ev_int rfl rfl (bo_neq _ _ _ _)) F S rfl fun a F=>?_
 refine wpList_nil ?_
 refine then_n ?_
 obtain ⟨hc1, hm⟩ | ⟨hc1, hm⟩ := ite_or hm
 ·refine wp_condT F rfl hc1 ?_
  refine wp_seq ?_
  refine wp_region_lit ?_
  refine wE (ev_assign rfl) F S rfl fun a F=>?_
  refine wpList_nil ?_
  refine then_n ?_
  refine wp_ret ?_
  refine then_r ?_
  obtain rfl := sinj hm
  refine post_r _ F rfl (ar_cons (resT rfl) ar_nil) ?_
  exact ⟨_, rfl, g, (Le.refl _), S, rfl⟩
 ·refine wp_condF F rfl hc1 ?_
  refine wp_skip ?_
  refine then_n ?_
  refine wp_cut (fun a w => ∃ (g1 : Gh), Fr 26 a [] ∧ Le g g1 ∧ St g1 [] fr w ∧ changeforgeequal_StringPairs.j1 = some r) ?_ ?_
  ·refine wp_seq ?_
   refine wp_region_lit ?_
   refine wE (ev_assign rfl) F S rfl fun a F=>?_
   refine wpList_nil ?_
   refine then_n ?_
   refine wp_block ?_
   obtain ⟨r1, hr1, hm⟩ := bind_some hm
   have hmo1 := hm; clear hm
   refine wp_iter (σ := Int) (ρ := Bool ⊕ Unit) (m := fun s => changeforgeequal_StringPairs.l1 a_ b_ s) (I := fun x1 a w => ∃ (g2 : Gh), Fr 26 a [(5, .i6 x1), (0, va_1), (1, vb_1)] ∧ Le g g2 ∧ St g2 [] fr w) hr1 ?_ ?_
   ·exact ⟨g, F.sub ⟨rfl, rfl, rfl, trivial⟩, (Le.refl _), S⟩
   ·clear F S; rintro x1 a w x2 ⟨g2, F, l2, S⟩ hx1 hfin1
    have hm : changeforgeequal_StringPairs.l1 a_ b_ x1 = some x2 := hx1; clear hx1
    unfold changeforgeequal_StringPairs.l1 at hm
    refine wp_seq ?_
    refine wp_seq ?_
    refine wp_region_lit ?_
    refine wE (ev_move rfl) F S rfl fun a F=>?_
    refine wE (ev_move rfl) F S rfl fun a F=>?_
    refine wE (ev_lenSh ha_1 rfl tu63) F S rfl fun a F=>?_
    refine wE (ev_int rfl rfl (bo_lss _ _ _ _)) F S rfl fun a F=>?_
    refine wpList_nil ?_
    refine then_n ?_
    obtain ⟨hc2, hm⟩ | ⟨hc2, hm⟩ := ite_or hm
    ·refine wp_condT F rfl hc2 ?_
     refine wp_skip ?_
     refine then_n ?_
     refine wp_seq ?_
     refine wp_block ?_
     refine wp_seq ?_
     refine wp_quiet mo (by kernel_rfl) S ?_
     refine wq_ev (wn rfl) (ev_move rfl) F rfl rfl ?_; clear F a; intro a F
     refine wq_ev (wn rfl) (ev_move rfl) F rfl rfl ?_; clear F a; intro a F
     obtain ⟨y1, hy1, hm⟩ := bind_some hm
     obtain ⟨cs1, hr2, hp1⟩ := elemS (ha_1.mono l2) hy1
     obtain rfl := rep_Arr2_ByteArray hr2
     refine wq_ev (wn rfl) (ev_idxS (ha_1.mono l2) hy1 tu63 ts67 rfl rfl) F rfl rfl ?_; clear F a; intro a F
     refine wq_ev (wn rfl) (ev_loadA tu67 rfl (cs := [.string y1.e0, .string y1.e1]) ts67 rfl (ptr_mono (cks := []) (fr := fr) hp1 (Le.refl _))) F rfl rfl ?_; clear F a; intro a F
     refine wq_ev (wn rfl) (ev_move rfl) F rfl rfl ?_; clear F a; intro a F
     refine wq_ev (wn rfl) (ev_move rfl) F rfl rfl ?_; clear F a; intro a F
     obtain ⟨y2, hy2, hm⟩ := bind_some hm
     obtain ⟨cs2, hr3, hp2⟩ := elemS (hb_1.mono l2) hy2
     obtain rfl := rep_Arr2_ByteArray hr3
     refine wq_ev (wn rfl) (ev_idxS (hb_1.mono l2) hy2 tu63 ts67 rfl rfl) F rfl rfl ?_; clear F a; intro a F
     refine wq_ev (wn rfl) (ev_loadA tu67 rfl (cs := [.string y2.e0, .string y2.e1]) ts67 rfl (ptr_mono (cks := []) (fr := fr) hp2 (Le.refl _))) F rfl rfl ?_; clear F a; intro a F
     refine wq_ev (wn rfl) (ev_neA tu67 ts9 tqb67 (is := [0, 1]) rfl (xs := [.string y1.e0, .string y1.e1]) (ys := [.string y2.e0, .string y2.e1]) rfl rfl ⟨_, _, rfl, ⟨_, _, rfl, rfl, leaf_str tu9⟩, ⟨_, _, rfl, ⟨_, _, rfl, rfl, leaf_str tu9⟩, rfl⟩⟩) F rfl rfl ?_; clear F a; intro a F
     refine wq_nil ?_; clear S; intro w S
     refine then_n ?_
     obtain ⟨hc3, hm⟩ | ⟨hc3, hm⟩ := ite_or hm
     ·refine wp_condT F rfl hc3 ?_
      refine wp_seq ?_
      refine wp_region_lit ?_
      refine wE (ev_assign rfl) F S rfl fun a F=>?_
      refine wpList_nil ?_
      refine then_n ?_
      refine wp_ret ?_
      refine inb_r ?_
      refine then_r ?_
      refine then_r ?_
      refine inb_r ?_
      refine then_r ?_
      obtain rfl := sinj hm
      obtain rfl := hfin1 _ rfl
      clear hm
      have hm : (some false : Option Bool) = some _ := hmo1
      obtain rfl := sinj hm
      refine post_r _ F rfl (ar_cons (resT rfl) ar_nil) ?_
      exact ⟨_, rfl, g2, l2, S, rfl⟩
     ·refine wp_condF F rfl hc3 ?_
      refine wp_skip ?_
      refine inb_n ?_
      refine then_n ?_
      refine wp_region_lit ?_
      refine wE (ev_move rfl) F S rfl fun a F=>?_
      obtain ⟨z1, hz1, hm⟩ := bind_some hm
      refine wE (ev_int rfl rfl (bo_add hz1)) F S rfl fun a F=>?_
      refine wE (ev_assign rfl) F S rfl fun a F=>?_
      refine wpList_nil ?_
      refine then_n ?_
      obtain rfl := sinj hm
      refine ⟨_, rfl, ?_⟩
      exact ⟨g2, F.sub ⟨rfl, rfl, rfl, trivial⟩, l2, S⟩
    ·refine wp_condF F rfl hc2 ?_
     refine wp_exit ?_
     refine then_e ?_
     refine then_e ?_
     refine inb_x ?_
     refine then_n ?_
     obtain rfl := sinj hm
     obtain rfl := hfin1 _ rfl
     clear hm
     have hm : (changeforgeequal_StringPairs.j1 : Option Bool) = some _ := hmo1
     exact ⟨g2, F.sub trivial, l2, S, hm⟩
  ·clear F S hm; rintro a w ⟨g1, F, l1, S, hm⟩
   refine wp_seq ?_
   refine wp_region_lit ?_
   refine wE (ev_assign rfl) F S rfl fun a F=>?_
   refine wpList_nil ?_
   refine then_n ?_
   refine wp_ret ?_
   obtain rfl := sinj hm
   refine post_r _ F rfl (ar_cons (resT rfl) ar_nil) ?_
   exact ⟨_, rfl, g1, l1, S, rfl⟩

theorem changeforgelaw2_TreepatchRenameDetected_ok {g : Gh} {fr : Hl} {w : World} {r : Bool} (path : ByteArray) (to : ByteArray) (l_ : (List ByteArray)) (vl_1 : Value) (hl_1 : RepSl g l_ vl_1) (percent : Int) (S : St g [] fr w) (hm : changeforgelaw2_TreepatchRenameDetected path to l_ percent = some r) :
  Calls Tryz.prog 9 [.string path, .string to, vl_1, .i6 percent].toArray w (fun en w' => ∃ v, en = .returned v ∧ ∃ (g' : Gh), Le g g' ∧ St g' [] fr w' ∧ .bool r = v) := by
 unfold changeforgelaw2_TreepatchRenameDetected at hm
 refine calls_enter (fn := Tryz.f9) Tryz.func9 rfl Tryz.ntmps9 (lb rfl) ?_
 intro a F
 replace F : Fr 51 a [(0, .string path), (1, .string to), (2, vl_1), (3, .i6 percent)] := F
 refine wp_seq ?_
 refine wp_region_lit ?_
 refine wE (ev_assign rfl) F S rfl fun a F=>?_
 refine wpList_nil ?_
 refine then_n ?_
 refine wp_seq ?_
 refine wp_region_lit ?_
 refine wE (ev_move rfl) F S rfl fun a F=>?_
 refine wE (ev_move rfl) F S rfl fun a F=>?_
 obtain ⟨y1, hy1, hm⟩ := bind_some hm
 refine wl_call0 (wn rfl) rfl F rfl (changeforgelaw2_one_ok path l_ vl_1 hl_1 S hy1) rfl tc18 rfl rfl ?_; clear F a S
 rintro _ a w ⟨g1, v1, c1, l1, S, h1, rfl⟩ F; replace S : St g1 [c1] fr w := S
 refine wl_alloc (wn rfl) rfl tz24 (cs := [nilS]) rfl F S rfl rfl ?_; clear F a S; rintro b1 a w F S
 refine wl_storeC (wn rfl) rfl F S rfl rfl (vs := [v1]) rfl ts24 (one_cons (OwnS.one h1) one_nil) (k := 0) rfl (lb rfl) (c' := #[v1]) rfl rfl ?_; clear S; intro w S
 refine wpList_nil ?_
 refine then_n ?_
 refine wp_seq ?_
 refine wp_dv [] mo S ?_; clear S; intro ok1 w S
 refine dv_et ok1 0 rfl (ev_move rfl) F rfl fun a F=>?_
 refine dv_et ok1 1 rfl (ev_move rfl) F rfl fun a F=>?_
 refine dv_et ok1 2 rfl (ev_build (parts := [(0, .const (.i6 3)), (1, .tmp 18), (2, .tmp 19)]) (vs := [(0, .i6 3), (1, .string path), (2, .string to)]) rfl (fun w => tb51_0_1_2 3 path to w)) F rfl fun a F=>?_
 refine dv_ev ok1 4 rfl (ev_loadA tu24 rfl (cs := [v1]) ts24 rfl (box_ptr (cells := [v1]) 0 rfl 0 rfl (lb rfl))) F S rfl fun a F=>?_
 obtain ⟨y2, hy2, hm⟩ := bind_some hm
 obtain ⟨y3, hy3, hm⟩ := bind_some hm
 refine dv_cut [0, 1, 2, 4, 3, 5, 6, 7, 8, 9, 10] [] (fun a w => ∃ (v4 v5 : Value) (b4 b5 : Nat) (c4 : Hl) (g6 : Gh), Fr 51 a [(11, bp b4 0), (10, bp b5 0), (25, .agg #[.i6 y3.2.Code, .i6 y3.2.Index]), (24, .agg #[v4]), (9, bp b1 0), (0, .string path), (1, .string to), (3, .i6 percent)] ∧ Le g1 g6 ∧ St g6 [[bx b4 #[.i6 0, .i6 0] 30], [bx b5 #[nilS] 24], c4, [bx b1 #[v5] 24]] fr w ∧ OwnS g6 y3.1.Files v4 c4 ∧ RepSl g6 y1.Files v5 ∧ changeforgelaw2_TreepatchRenameDetected.j1 path to percent y1 y3 = some r) ?_ ?_
 ·intro HJ
  refine dv_fork ok1 3 [9, 10] (fk 3 rfl [(4, .agg #[v1])] ?_ (fk 9 rfl [(4, .agg #[v1])] ?_ (fk 10 rfl [(4, .agg #[v1])] ?_ trivial)))
  ·refine wl_call0 (wn rfl) rfl F rfl (changeforgelaw2_change_ok (fr := (fl [[bx b1 #[v1] 24], c1] fr)) ({ Kind := 3, Path := path, To := to, Lines := [], Patch := ({ Hunks := [] } : Patch) } : TreeChange) (nilS) (RepSl.nil _) (nilS) (RepSl.nil _) S hy2) rfl tc19 rfl rfl ?_; clear F a S
   rintro _ a w ⟨g2, v2, c2, l2, S, h2, rfl⟩ F; replace S : St g2 [c2, [bx b1 #[v1] 24], c1] fr w := S
   refine dv_nx ⟨yl_ev rfl rfl (ev_loadA tu24 rfl (cs := [v1]) ts24 rfl (box_ptr (cells := [v1]) 1 rfl 0 rfl (lb rfl))) F S, trivial⟩ ?_
   refine dv_fork ok1 5 [9, 10] (fk 5 rfl [] ?_ (fk 9 rfl [(4, .agg #[v1])] ?_ (fk 10 rfl [(4, .agg #[v1])] ?_ trivial)))
   ·obtain ⟨g3, l3, S, h3⟩ : ∃ gz, Le g2 gz ∧ St gz [[bx b1 #[v1] 24], c1] fr w ∧ RepSl gz y2.Changes v2 := ⟨_, Le.add _ _, S.freeze 0 rfl, OwnS.freeze (S.front 0 rfl) h2⟩
    obtain ⟨g4, l4, S, h4⟩ : ∃ gz, Le g3 gz ∧ St gz [[bx b1 #[v1] 24]] fr w ∧ RepSl gz y1.Files v1 := ⟨_, Le.add _ _, S.freeze 1 rfl, OwnS.freeze (S.front 1 rfl) (h1.mono (l2.trans l3))⟩
    refine wl_call0 (wn rfl) rfl F rfl (treepatch_Apply_ok (fr := (fl [[bx b1 #[v1] 24]] fr)) y2 v2 (h3.mono l4) y1 v1 h4 S hy3) rfl tc15 rfl rfl ?_; clear F a S
    rintro _ a w ⟨g5, v3, c3, l5, S, h5, rfl⟩ F; replace S : St g5 [c3, [bx b1 #[v1] 24]] fr w := S
    refine dv_nx trivial ?_
    refine dv_et ok1 6 rfl (ev_move rfl) F rfl fun a F=>?_
    refine dv_et ok1 7 rfl (ev_extract rfl rfl) F rfl fun a F=>?_
    refine dv_et ok1 8 rfl (ev_extract rfl rfl) F rfl fun a F=>?_
    refine dv_fork ok1 9 [10] (fk 9 rfl [] ?_ (fk 10 rfl [] ?_ trivial))
    ·refine wl_alloc (wn rfl) rfl tz24 (cs := [nilS]) rfl F S rfl rfl ?_; clear F a S; rintro b2 a w F S
     refine dv_nx trivial ?_
     refine dv_op ok1 10 rfl [] ?_
     refine wl_alloc (wn rfl) rfl tz30 (cs := [.i6 0, .i6 0]) rfl F S rfl rfl ?_; clear F a S; rintro b3 a w F S
     refine dv_nx trivial ?_
     refine dv_join (HJ _ _ ?_)
     exact ⟨v3, v1, b3, b2, c3, g5, F.sub ⟨rfl, rfl, rfl, rfl, rfl, rfl, rfl, rfl, trivial⟩, (((l2.trans l3).trans l4).trans l5), S, h5, (h4.mono l5), hm⟩
    ·refine wl_alloc (wn rfl) rfl tz30 (cs := [.i6 0, .i6 0]) rfl F S rfl rfl ?_; clear F a S; rintro b3 a w F S
     refine dv_nx trivial ?_
     refine dv_op ok1 9 rfl [] ?_
     refine wl_alloc (wn rfl) rfl tz24 (cs := [nilS]) rfl F S rfl rfl ?_; clear F a S; rintro b2 a w F S
     refine dv_nx trivial ?_
     refine dv_join (HJ _ _ ?_)
     replace S : St g5 [[bx b3 #[.i6 0, .i6 0] 30], [bx b2 #[nilS] 24], c3, [bx b1 #[v1] 24]] fr w := St.tail [[bx b3 #[.i6 0, .i6 0] 30], [bx b2 #[nilS] 24], c3, [bx b1 #[v1] 24]] _ ((((S.frontC 3 rfl).frontC 3 rfl).frontC 2 rfl).frontC 4 rfl)
     exact ⟨v3, v1, b3, b2, c3, g5, F.sub ⟨rfl, rfl, rfl, rfl, rfl, rfl, rfl, rfl, trivial⟩, (((l2.trans l3).trans l4).trans l5), S, h5, (h4.mono l5), hm⟩
   ·refine wl_alloc (wn rfl) rfl tz24 (cs := [nilS]) rfl F S rfl rfl ?_; clear F a S; rintro b2 a w F S
    refine dv_nx ⟨yl_ev rfl rfl (ev_loadA tu24 rfl (cs := [v1]) ts24 rfl (box_ptr (cells := [v1]) 2 rfl 0 rfl (lb rfl))) F S, trivial⟩ ?_
    refine dv_fork ok1 5 [10] (fk 5 rfl [] ?_ (fk 10 rfl [(4, .agg #[v1])] ?_ trivial))
    ·obtain ⟨g3, l3, S, h3⟩ : ∃ gz, Le g2 gz ∧ St gz [[bx b2 #[nilS] 24], [bx b1 #[v1] 24], c1] fr w ∧ RepSl gz y2.Changes v2 := ⟨_, Le.add _ _, S.freeze 1 rfl, OwnS.freeze (S.front 1 rfl) h2⟩
     obtain ⟨g4, l4, S, h4⟩ : ∃ gz, Le g3 gz ∧ St gz [[bx b2 #[nilS] 24], [bx b1 #[v1] 24]] fr w ∧ RepSl gz y1.Files v1 := ⟨_, Le.add _ _, S.freeze 2 rfl, OwnS.freeze (S.front 2 rfl) (h1.mono (l2.trans l3))⟩
     refine wl_call0 (wn rfl) rfl F rfl (treepatch_Apply_ok (fr := (fl [[bx b2 #[nilS] 24], [bx b1 #[v1] 24]] fr)) y2 v2 (h3.mono l4) y1 v1 h4 S hy3) rfl tc15 rfl rfl ?_; clear F a S
     rintro _ a w ⟨g5, v3, c3, l5, S, h5, rfl⟩ F; replace S : St g5 [c3, [bx b2 #[nilS] 24], [bx b1 #[v1] 24]] fr w := S
     refine dv_nx trivial ?_
     refine dv_et ok1 6 rfl (ev_move rfl) F rfl fun a F=>?_
     refine dv_et ok1 7 rfl (ev_extract rfl rfl) F rfl fun a F=>?_
     refine dv_et ok1 8 rfl (ev_extract rfl rfl) F rfl fun a F=>?_
     refine dv_op ok1 10 rfl [] ?_
     refine wl_alloc (wn rfl) rfl tz30 (cs := [.i6 0, .i6 0]) rfl F S rfl rfl ?_; clear F a S; rintro b3 a w F S
     refine dv_nx trivial ?_
     refine dv_join (HJ _ _ ?_)
     replace S : St g5 [[bx b3 #[.i6 0, .i6 0] 30], [bx b2 #[nilS] 24], c3, [bx b1 #[v1] 24]] fr w := St.tail [[bx b3 #[.i6 0, .i6 0] 30], [bx b2 #[nilS] 24], c3, [bx b1 #[v1] 24]] _ ((((S.frontC 3 rfl).frontC 2 rfl).frontC 4 rfl).frontC 3 rfl)
     exact ⟨v3, v1, b3, b2, c3, g5, F.sub ⟨rfl, rfl, rfl, rfl, rfl, rfl, rfl, rfl, trivial⟩, (((l2.trans l3).trans l4).trans l5), S, h5, (h4.mono l5), hm⟩
    ·refine wl_alloc (wn rfl) rfl tz30 (cs := [.i6 0, .i6 0]) rfl F S rfl rfl ?_; clear F a S; rintro b3 a w F S
     refine dv_nx ⟨yl_ev rfl rfl (ev_loadA tu24 rfl (cs := [v1]) ts24 rfl (box_ptr (cells := [v1]) 3 rfl 0 rfl (lb rfl))) F S, trivial⟩ ?_
     refine dv_op ok1 5 rfl [] ?_
     obtain ⟨g3, l3, S, h3⟩ : ∃ gz, Le g2 gz ∧ St gz [[bx b3 #[.i6 0, .i6 0] 30], [bx b2 #[nilS] 24], [bx b1 #[v1] 24], c1] fr w ∧ RepSl gz y2.Changes v2 := ⟨_, Le.add _ _, S.freeze 2 rfl, OwnS.freeze (S.front 2 rfl) h2⟩
     obtain ⟨g4, l4, S, h4⟩ : ∃ gz, Le g3 gz ∧ St gz [[bx b3 #[.i6 0, .i6 0] 30], [bx b2 #[nilS] 24], [bx b1 #[v1] 24]] fr w ∧ RepSl gz y1.Files v1 := ⟨_, Le.add _ _, S.freeze 3 rfl, OwnS.freeze (S.front 3 rfl) (h1.mono (l2.trans l3))⟩
     refine wl_call0 (wn rfl) rfl F rfl (treepatch_Apply_ok (fr := (fl [[bx b3 #[.i6 0, .i6 0] 30], [bx b2 #[nilS] 24], [bx b1 #[v1] 24]] fr)) y2 v2 (h3.mono l4) y1 v1 h4 S hy3) rfl tc15 rfl rfl ?_; clear F a S
     rintro _ a w ⟨g5, v3, c3, l5, S, h5, rfl⟩ F; replace S : St g5 [c3, [bx b3 #[.i6 0, .i6 0] 30], [bx b2 #[nilS] 24], [bx b1 #[v1] 24]] fr w := S
     refine dv_nx trivial ?_
     refine dv_et ok1 6 rfl (ev_move rfl) F rfl fun a F=>?_
     refine dv_et ok1 7 rfl (ev_extract rfl rfl) F rfl fun a F=>?_
     refine dv_et ok1 8 rfl (ev_extract rfl rfl) F rfl fun a F=>?_
     refine dv_join (HJ _ _ ?_)
     replace S : St g5 [[bx b3 #[.i6 0, .i6 0] 30], [bx b2 #[nilS] 24], c3, [bx b1 #[v1] 24]] fr w := St.tail [[bx b3 #[.i6 0, .i6 0] 30], [bx b2 #[nilS] 24], c3, [bx b1 #[v1] 24]] _ ((((S.frontC 3 rfl).frontC 1 rfl).frontC 4 rfl).frontC 4 rfl)
     exact ⟨v3, v1, b3, b2, c3, g5, F.sub ⟨rfl, rfl, rfl, rfl, rfl, rfl, rfl, rfl, trivial⟩, (((l2.trans l3).trans l4).trans l5), S, h5, (h4.mono l5), hm⟩
   ·refine wl_alloc (wn rfl) rfl tz30 (cs := [.i6 0, .i6 0]) rfl F S rfl rfl ?_; clear F a S; rintro b3 a w F S
    refine dv_nx ⟨yl_ev rfl rfl (ev_loadA tu24 rfl (cs := [v1]) ts24 rfl (box_ptr (cells := [v1]) 2 rfl 0 rfl (lb rfl))) F S, trivial⟩ ?_
    refine dv_fork ok1 5 [9] (fk 5 rfl [] ?_ (fk 9 rfl [(4, .agg #[v1])] ?_ trivial))
    ·obtain ⟨g3, l3, S, h3⟩ : ∃ gz, Le g2 gz ∧ St gz [[bx b3 #[.i6 0, .i6 0] 30], [bx b1 #[v1] 24], c1] fr w ∧ RepSl gz y2.Changes v2 := ⟨_, Le.add _ _, S.freeze 1 rfl, OwnS.freeze (S.front 1 rfl) h2⟩
     obtain ⟨g4, l4, S, h4⟩ : ∃ gz, Le g3 gz ∧ St gz [[bx b3 #[.i6 0, .i6 0] 30], [bx b1 #[v1] 24]] fr w ∧ RepSl gz y1.Files v1 := ⟨_, Le.add _ _, S.freeze 2 rfl, OwnS.freeze (S.front 2 rfl) (h1.mono (l2.trans l3))⟩
     refine wl_call0 (wn rfl) rfl F rfl (treepatch_Apply_ok (fr := (fl [[bx b3 #[.i6 0, .i6 0] 30], [bx b1 #[v1] 24]] fr)) y2 v2 (h3.mono l4) y1 v1 h4 S hy3) rfl tc15 rfl rfl ?_; clear F a S
     rintro _ a w ⟨g5, v3, c3, l5, S, h5, rfl⟩ F; replace S : St g5 [c3, [bx b3 #[.i6 0, .i6 0] 30], [bx b1 #[v1] 24]] fr w := S
     refine dv_nx trivial ?_
     refine dv_et ok1 6 rfl (ev_move rfl) F rfl fun a F=>?_
     refine dv_et ok1 7 rfl (ev_extract rfl rfl) F rfl fun a F=>?_
     refine dv_et ok1 8 rfl (ev_extract rfl rfl) F rfl fun a F=>?_
     refine dv_op ok1 9 rfl [] ?_
     refine wl_alloc (wn rfl) rfl tz24 (cs := [nilS]) rfl F S rfl rfl ?_; clear F a S; rintro b2 a w F S
     refine dv_nx trivial ?_
     refine dv_join (HJ _ _ ?_)
     replace S : St g5 [[bx b3 #[.i6 0, .i6 0] 30], [bx b2 #[nilS] 24], c3, [bx b1 #[v1] 24]] fr w := St.tail [[bx b3 #[.i6 0, .i6 0] 30], [bx b2 #[nilS] 24], c3, [bx b1 #[v1] 24]] _ ((((S.frontC 3 rfl).frontC 2 rfl).frontC 2 rfl).frontC 5 rfl)
     exact ⟨v3, v1, b3, b2, c3, g5, F.sub ⟨rfl, rfl, rfl, rfl, rfl, rfl, rfl, rfl, trivial⟩, (((l2.trans l3).trans l4).trans l5), S, h5, (h4.mono l5), hm⟩
    ·refine wl_alloc (wn rfl) rfl tz24 (cs := [nilS]) rfl F S rfl rfl ?_; clear F a S; rintro b2 a w F S
     refine dv_nx ⟨yl_ev rfl rfl (ev_loadA tu24 rfl (cs := [v1]) ts24 rfl (box_ptr (cells := [v1]) 3 rfl 0 rfl (lb rfl))) F S, trivial⟩ ?_
     refine dv_op ok1 5 rfl [] ?_
     obtain ⟨g3, l3, S, h3⟩ : ∃ gz, Le g2 gz ∧ St gz [[bx b2 #[nilS] 24], [bx b3 #[.i6 0, .i6 0] 30], [bx b1 #[v1] 24], c1] fr w ∧ RepSl gz y2.Changes v2 := ⟨_, Le.add _ _, S.freeze 2 rfl, OwnS.freeze (S.front 2 rfl) h2⟩
     obtain ⟨g4, l4, S, h4⟩ : ∃ gz, Le g3 gz ∧ St gz [[bx b2 #[nilS] 24], [bx b3 #[.i6 0, .i6 0] 30], [bx b1 #[v1] 24]] fr w ∧ RepSl gz y1.Files v1 := ⟨_, Le.add _ _, S.freeze 3 rfl, OwnS.freeze (S.front 3 rfl) (h1.mono (l2.trans l3))⟩
     refine wl_call0 (wn rfl) rfl F rfl (treepatch_Apply_ok (fr := (fl [[bx b2 #[nilS] 24], [bx b3 #[.i6 0, .i6 0] 30], [bx b1 #[v1] 24]] fr)) y2 v2 (h3.mono l4) y1 v1 h4 S hy3) rfl tc15 rfl rfl ?_; clear F a S
     rintro _ a w ⟨g5, v3, c3, l5, S, h5, rfl⟩ F; replace S : St g5 [c3, [bx b2 #[nilS] 24], [bx b3 #[.i6 0, .i6 0] 30], [bx b1 #[v1] 24]] fr w := S
     refine dv_nx trivial ?_
     refine dv_et ok1 6 rfl (ev_move rfl) F rfl fun a F=>?_
     refine dv_et ok1 7 rfl (ev_extract rfl rfl) F rfl fun a F=>?_
     refine dv_et ok1 8 rfl (ev_extract rfl rfl) F rfl fun a F=>?_
     refine dv_join (HJ _ _ ?_)
     replace S : St g5 [[bx b3 #[.i6 0, .i6 0] 30], [bx b2 #[nilS] 24], c3, [bx b1 #[v1] 24]] fr w := St.tail [[bx b3 #[.i6 0, .i6 0] 30], [bx b2 #[nilS] 24], c3, [bx b1 #[v1] 24]] _ ((((S.frontC 3 rfl).frontC 1 rfl).frontC 3 rfl).frontC 5 rfl)
     exact ⟨v3, v1, b3, b2, c3, g5, F.sub ⟨rfl, rfl, rfl, rfl, rfl, rfl, rfl, rfl, trivial⟩, (((l2.trans l3).trans l4).trans l5), S, h5, (h4.mono l5), hm⟩
  ·refine wl_alloc (wn rfl) rfl tz24 (cs := [nilS]) rfl F S rfl rfl ?_; clear F a S; rintro b2 a w F S
   refine dv_nx ⟨yl_ev rfl rfl (ev_loadA tu24 rfl (cs := [v1]) ts24 rfl (box_ptr (cells := [v1]) 1 rfl 0 rfl (lb rfl))) F S, trivial⟩ ?_
   refine dv_fork ok1 3 [10] (fk 3 rfl [(4, .agg #[v1])] ?_ (fk 10 rfl [(4, .agg #[v1])] ?_ trivial))
   ·refine wl_call0 (wn rfl) rfl F rfl (changeforgelaw2_change_ok (fr := (fl [[bx b2 #[nilS] 24], [bx b1 #[v1] 24], c1] fr)) ({ Kind := 3, Path := path, To := to, Lines := [], Patch := ({ Hunks := [] } : Patch) } : TreeChange) (nilS) (RepSl.nil _) (nilS) (RepSl.nil _) S hy2) rfl tc19 rfl rfl ?_; clear F a S
    rintro _ a w ⟨g2, v2, c2, l2, S, h2, rfl⟩ F; replace S : St g2 [c2, [bx b2 #[nilS] 24], [bx b1 #[v1] 24], c1] fr w := S
    refine dv_nx ⟨yl_ev rfl rfl (ev_loadA tu24 rfl (cs := [v1]) ts24 rfl (box_ptr (cells := [v1]) 2 rfl 0 rfl (lb rfl))) F S, trivial⟩ ?_
    refine dv_fork ok1 5 [10] (fk 5 rfl [] ?_ (fk 10 rfl [(4, .agg #[v1])] ?_ trivial))
    ·obtain ⟨g3, l3, S, h3⟩ : ∃ gz, Le g2 gz ∧ St gz [[bx b2 #[nilS] 24], [bx b1 #[v1] 24], c1] fr w ∧ RepSl gz y2.Changes v2 := ⟨_, Le.add _ _, S.freeze 0 rfl, OwnS.freeze (S.front 0 rfl) h2⟩
     obtain ⟨g4, l4, S, h4⟩ : ∃ gz, Le g3 gz ∧ St gz [[bx b2 #[nilS] 24], [bx b1 #[v1] 24]] fr w ∧ RepSl gz y1.Files v1 := ⟨_, Le.add _ _, S.freeze 2 rfl, OwnS.freeze (S.front 2 rfl) (h1.mono (l2.trans l3))⟩
     refine wl_call0 (wn rfl) rfl F rfl (treepatch_Apply_ok (fr := (fl [[bx b2 #[nilS] 24], [bx b1 #[v1] 24]] fr)) y2 v2 (h3.mono l4) y1 v1 h4 S hy3) rfl tc15 rfl rfl ?_; clear F a S
     rintro _ a w ⟨g5, v3, c3, l5, S, h5, rfl⟩ F; replace S : St g5 [c3, [bx b2 #[nilS] 24], [bx b1 #[v1] 24]] fr w := S
     refine dv_nx trivial ?_
     refine dv_et ok1 6 rfl (ev_move rfl) F rfl fun a F=>?_
     refine dv_et ok1 7 rfl (ev_extract rfl rfl) F rfl fun a F=>?_
     refine dv_et ok1 8 rfl (ev_extract rfl rfl) F rfl fun a F=>?_
     refine dv_op ok1 10 rfl [] ?_
     refine wl_alloc (wn rfl) rfl tz30 (cs := [.i6 0, .i6 0]) rfl F S rfl rfl ?_; clear F a S; rintro b3 a w F S
     refine dv_nx trivial ?_
     refine dv_join (HJ _ _ ?_)
     replace S : St g5 [[bx b3 #[.i6 0, .i6 0] 30], [bx b2 #[nilS] 24], c3, [bx b1 #[v1] 24]] fr w := St.tail [[bx b3 #[.i6 0, .i6 0] 30], [bx b2 #[nilS] 24], c3, [bx b1 #[v1] 24]] _ ((((S.frontC 3 rfl).frontC 2 rfl).frontC 4 rfl).frontC 3 rfl)
     exact ⟨v3, v1, b3, b2, c3, g5, F.sub ⟨rfl, rfl, rfl, rfl, rfl, rfl, rfl, rfl, trivial⟩, (((l2.trans l3).trans l4).trans l5), S, h5, (h4.mono l5), hm⟩
    ·refine wl_alloc (wn rfl) rfl tz30 (cs := [.i6 0, .i6 0]) rfl F S rfl rfl ?_; clear F a S; rintro b3 a w F S
     refine dv_nx ⟨yl_ev rfl rfl (ev_loadA tu24 rfl (cs := [v1]) ts24 rfl (box_ptr (cells := [v1]) 3 rfl 0 rfl (lb rfl))) F S, trivial⟩ ?_
     refine dv_op ok1 5 rfl [] ?_
     obtain ⟨g3, l3, S, h3⟩ : ∃ gz, Le g2 gz ∧ St gz [[bx b3 #[.i6 0, .i6 0] 30], [bx b2 #[nilS] 24], [bx b1 #[v1] 24], c1] fr w ∧ RepSl gz y2.Changes v2 := ⟨_, Le.add _ _, S.freeze 1 rfl, OwnS.freeze (S.front 1 rfl) h2⟩
     obtain ⟨g4, l4, S, h4⟩ : ∃ gz, Le g3 gz ∧ St gz [[bx b3 #[.i6 0, .i6 0] 30], [bx b2 #[nilS] 24], [bx b1 #[v1] 24]] fr w ∧ RepSl gz y1.Files v1 := ⟨_, Le.add _ _, S.freeze 3 rfl, OwnS.freeze (S.front 3 rfl) (h1.mono (l2.trans l3))⟩
     refine wl_call0 (wn rfl) rfl F rfl (treepatch_Apply_ok (fr := (fl [[bx b3 #[.i6 0, .i6 0] 30], [bx b2 #[nilS] 24], [bx b1 #[v1] 24]] fr)) y2 v2 (h3.mono l4) y1 v1 h4 S hy3) rfl tc15 rfl rfl ?_; clear F a S
     rintro _ a w ⟨g5, v3, c3, l5, S, h5, rfl⟩ F; replace S : St g5 [c3, [bx b3 #[.i6 0, .i6 0] 30], [bx b2 #[nilS] 24], [bx b1 #[v1] 24]] fr w := S
     refine dv_nx trivial ?_
     refine dv_et ok1 6 rfl (ev_move rfl) F rfl fun a F=>?_
     refine dv_et ok1 7 rfl (ev_extract rfl rfl) F rfl fun a F=>?_
     refine dv_et ok1 8 rfl (ev_extract rfl rfl) F rfl fun a F=>?_
     refine dv_join (HJ _ _ ?_)
     replace S : St g5 [[bx b3 #[.i6 0, .i6 0] 30], [bx b2 #[nilS] 24], c3, [bx b1 #[v1] 24]] fr w := St.tail [[bx b3 #[.i6 0, .i6 0] 30], [bx b2 #[nilS] 24], c3, [bx b1 #[v1] 24]] _ ((((S.frontC 3 rfl).frontC 1 rfl).frontC 4 rfl).frontC 4 rfl)
     exact ⟨v3, v1, b3, b2, c3, g5, F.sub ⟨rfl, rfl, rfl, rfl, rfl, rfl, rfl, rfl, trivial⟩, (((l2.trans l3).trans l4).trans l5), S, h5, (h4.mono l5), hm⟩
   ·refine wl_alloc (wn rfl) rfl tz30 (cs := [.i6 0, .i6 0]) rfl F S rfl rfl ?_; clear F a S; rintro b3 a w F S
    refine dv_nx ⟨yl_ev rfl rfl (ev_loadA tu24 rfl (cs := [v1]) ts24 rfl (box_ptr (cells := [v1]) 2 rfl 0 rfl (lb rfl))) F S, trivial⟩ ?_
    refine dv_op ok1 3 rfl [(4, .agg #[v1])] ?_
    refine wl_call0 (wn rfl) rfl F rfl (changeforgelaw2_change_ok (fr := (fl [[bx b3 #[.i6 0, .i6 0] 30], [bx b2 #[nilS] 24], [bx b1 #[v1] 24], c1] fr)) ({ Kind := 3, Path := path, To := to, Lines := [], Patch := ({ Hunks := [] } : Patch) } : TreeChange) (nilS) (RepSl.nil _) (nilS) (RepSl.nil _) S hy2) rfl tc19 rfl rfl ?_; clear F a S
    rintro _ a w ⟨g2, v2, c2, l2, S, h2, rfl⟩ F; replace S : St g2 [c2, [bx b3 #[.i6 0, .i6 0] 30], [bx b2 #[nilS] 24], [bx b1 #[v1] 24], c1] fr w := S
    refine dv_nx ⟨yl_ev rfl rfl (ev_loadA tu24 rfl (cs := [v1]) ts24 rfl (box_ptr (cells := [v1]) 3 rfl 0 rfl (lb rfl))) F S, trivial⟩ ?_
    refine dv_op ok1 5 rfl [] ?_
    obtain ⟨g3, l3, S, h3⟩ : ∃ gz, Le g2 gz ∧ St gz [[bx b3 #[.i6 0, .i6 0] 30], [bx b2 #[nilS] 24], [bx b1 #[v1] 24], c1] fr w ∧ RepSl gz y2.Changes v2 := ⟨_, Le.add _ _, S.freeze 0 rfl, OwnS.freeze (S.front 0 rfl) h2⟩
    obtain ⟨g4, l4, S, h4⟩ : ∃ gz, Le g3 gz ∧ St gz [[bx b3 #[.i6 0, .i6 0] 30], [bx b2 #[nilS] 24], [bx b1 #[v1] 24]] fr w ∧ RepSl gz y1.Files v1 := ⟨_, Le.add _ _, S.freeze 3 rfl, OwnS.freeze (S.front 3 rfl) (h1.mono (l2.trans l3))⟩
    refine wl_call0 (wn rfl) rfl F rfl (treepatch_Apply_ok (fr := (fl [[bx b3 #[.i6 0, .i6 0] 30], [bx b2 #[nilS] 24], [bx b1 #[v1] 24]] fr)) y2 v2 (h3.mono l4) y1 v1 h4 S hy3) rfl tc15 rfl rfl ?_; clear F a S
    rintro _ a w ⟨g5, v3, c3, l5, S, h5, rfl⟩ F; replace S : St g5 [c3, [bx b3 #[.i6 0, .i6 0] 30], [bx b2 #[nilS] 24], [bx b1 #[v1] 24]] fr w := S
    refine dv_nx trivial ?_
    refine dv_et ok1 6 rfl (ev_move rfl) F rfl fun a F=>?_
    refine dv_et ok1 7 rfl (ev_extract rfl rfl) F rfl fun a F=>?_
    refine dv_et ok1 8 rfl (ev_extract rfl rfl) F rfl fun a F=>?_
    refine dv_join (HJ _ _ ?_)
    replace S : St g5 [[bx b3 #[.i6 0, .i6 0] 30], [bx b2 #[nilS] 24], c3, [bx b1 #[v1] 24]] fr w := St.tail [[bx b3 #[.i6 0, .i6 0] 30], [bx b2 #[nilS] 24], c3, [bx b1 #[v1] 24]] _ ((((S.frontC 3 rfl).frontC 1 rfl).frontC 4 rfl).frontC 4 rfl)
    exact ⟨v3, v1, b3, b2, c3, g5, F.sub ⟨rfl, rfl, rfl, rfl, rfl, rfl, rfl, rfl, trivial⟩, (((l2.trans l3).trans l4).trans l5), S, h5, (h4.mono l5), hm⟩
  ·refine wl_alloc (wn rfl) rfl tz30 (cs := [.i6 0, .i6 0]) rfl F S rfl rfl ?_; clear F a S; rintro b3 a w F S
   refine dv_nx ⟨yl_ev rfl rfl (ev_loadA tu24 rfl (cs := [v1]) ts24 rfl (box_ptr (cells := [v1]) 1 rfl 0 rfl (lb rfl))) F S, trivial⟩ ?_
   refine dv_fork ok1 3 [9] (fk 3 rfl [(4, .agg #[v1])] ?_ (fk 9 rfl [(4, .agg #[v1])] ?_ trivial))
   ·refine wl_call0 (wn rfl) rfl F rfl (changeforgelaw2_change_ok (fr := (fl [[bx b3 #[.i6 0, .i6 0] 30], [bx b1 #[v1] 24], c1] fr)) ({ Kind := 3, Path := path, To := to, Lines := [], Patch := ({ Hunks := [] } : Patch) } : TreeChange) (nilS) (RepSl.nil _) (nilS) (RepSl.nil _) S hy2) rfl tc19 rfl rfl ?_; clear F a S
    rintro _ a w ⟨g2, v2, c2, l2, S, h2, rfl⟩ F; replace S : St g2 [c2, [bx b3 #[.i6 0, .i6 0] 30], [bx b1 #[v1] 24], c1] fr w := S
    refine dv_nx ⟨yl_ev rfl rfl (ev_loadA tu24 rfl (cs := [v1]) ts24 rfl (box_ptr (cells := [v1]) 2 rfl 0 rfl (lb rfl))) F S, trivial⟩ ?_
    refine dv_fork ok1 5 [9] (fk 5 rfl [] ?_ (fk 9 rfl [(4, .agg #[v1])] ?_ trivial))
    ·obtain ⟨g3, l3, S, h3⟩ : ∃ gz, Le g2 gz ∧ St gz [[bx b3 #[.i6 0, .i6 0] 30], [bx b1 #[v1] 24], c1] fr w ∧ RepSl gz y2.Changes v2 := ⟨_, Le.add _ _, S.freeze 0 rfl, OwnS.freeze (S.front 0 rfl) h2⟩
     obtain ⟨g4, l4, S, h4⟩ : ∃ gz, Le g3 gz ∧ St gz [[bx b3 #[.i6 0, .i6 0] 30], [bx b1 #[v1] 24]] fr w ∧ RepSl gz y1.Files v1 := ⟨_, Le.add _ _, S.freeze 2 rfl, OwnS.freeze (S.front 2 rfl) (h1.mono (l2.trans l3))⟩
     refine wl_call0 (wn rfl) rfl F rfl (treepatch_Apply_ok (fr := (fl [[bx b3 #[.i6 0, .i6 0] 30], [bx b1 #[v1] 24]] fr)) y2 v2 (h3.mono l4) y1 v1 h4 S hy3) rfl tc15 rfl rfl ?_; clear F a S
     rintro _ a w ⟨g5, v3, c3, l5, S, h5, rfl⟩ F; replace S : St g5 [c3, [bx b3 #[.i6 0, .i6 0] 30], [bx b1 #[v1] 24]] fr w := S
     refine dv_nx trivial ?_
     refine dv_et ok1 6 rfl (ev_move rfl) F rfl fun a F=>?_
     refine dv_et ok1 7 rfl (ev_extract rfl rfl) F rfl fun a F=>?_
     refine dv_et ok1 8 rfl (ev_extract rfl rfl) F rfl fun a F=>?_
     refine dv_op ok1 9 rfl [] ?_
     refine wl_alloc (wn rfl) rfl tz24 (cs := [nilS]) rfl F S rfl rfl ?_; clear F a S; rintro b2 a w F S
     refine dv_nx trivial ?_
     refine dv_join (HJ _ _ ?_)
     replace S : St g5 [[bx b3 #[.i6 0, .i6 0] 30], [bx b2 #[nilS] 24], c3, [bx b1 #[v1] 24]] fr w := St.tail [[bx b3 #[.i6 0, .i6 0] 30], [bx b2 #[nilS] 24], c3, [bx b1 #[v1] 24]] _ ((((S.frontC 3 rfl).frontC 2 rfl).frontC 2 rfl).frontC 5 rfl)
     exact ⟨v3, v1, b3, b2, c3, g5, F.sub ⟨rfl, rfl, rfl, rfl, rfl, rfl, rfl, rfl, trivial⟩, (((l2.trans l3).trans l4).trans l5), S, h5, (h4.mono l5), hm⟩
    ·refine wl_alloc (wn rfl) rfl tz24 (cs := [nilS]) rfl F S rfl rfl ?_; clear F a S; rintro b2 a w F S
     refine dv_nx ⟨yl_ev rfl rfl (ev_loadA tu24 rfl (cs := [v1]) ts24 rfl (box_ptr (cells := [v1]) 3 rfl 0 rfl (lb rfl))) F S, trivial⟩ ?_
     refine dv_op ok1 5 rfl [] ?_
     obtain ⟨g3, l3, S, h3⟩ : ∃ gz, Le g2 gz ∧ St gz [[bx b2 #[nilS] 24], [bx b3 #[.i6 0, .i6 0] 30], [bx b1 #[v1] 24], c1] fr w ∧ RepSl gz y2.Changes v2 := ⟨_, Le.add _ _, S.freeze 1 rfl, OwnS.freeze (S.front 1 rfl) h2⟩
     obtain ⟨g4, l4, S, h4⟩ : ∃ gz, Le g3 gz ∧ St gz [[bx b2 #[nilS] 24], [bx b3 #[.i6 0, .i6 0] 30], [bx b1 #[v1] 24]] fr w ∧ RepSl gz y1.Files v1 := ⟨_, Le.add _ _, S.freeze 3 rfl, OwnS.freeze (S.front 3 rfl) (h1.mono (l2.trans l3))⟩
     refine wl_call0 (wn rfl) rfl F rfl (treepatch_Apply_ok (fr := (fl [[bx b2 #[nilS] 24], [bx b3 #[.i6 0, .i6 0] 30], [bx b1 #[v1] 24]] fr)) y2 v2 (h3.mono l4) y1 v1 h4 S hy3) rfl tc15 rfl rfl ?_; clear F a S
     rintro _ a w ⟨g5, v3, c3, l5, S, h5, rfl⟩ F; replace S : St g5 [c3, [bx b2 #[nilS] 24], [bx b3 #[.i6 0, .i6 0] 30], [bx b1 #[v1] 24]] fr w := S
     refine dv_nx trivial ?_
     refine dv_et ok1 6 rfl (ev_move rfl) F rfl fun a F=>?_
     refine dv_et ok1 7 rfl (ev_extract rfl rfl) F rfl fun a F=>?_
     refine dv_et ok1 8 rfl (ev_extract rfl rfl) F rfl fun a F=>?_
     refine dv_join (HJ _ _ ?_)
     replace S : St g5 [[bx b3 #[.i6 0, .i6 0] 30], [bx b2 #[nilS] 24], c3, [bx b1 #[v1] 24]] fr w := St.tail [[bx b3 #[.i6 0, .i6 0] 30], [bx b2 #[nilS] 24], c3, [bx b1 #[v1] 24]] _ ((((S.frontC 3 rfl).frontC 1 rfl).frontC 3 rfl).frontC 5 rfl)
     exact ⟨v3, v1, b3, b2, c3, g5, F.sub ⟨rfl, rfl, rfl, rfl, rfl, rfl, rfl, rfl, trivial⟩, (((l2.trans l3).trans l4).trans l5), S, h5, (h4.mono l5), hm⟩
   ·refine wl_alloc (wn rfl) rfl tz24 (cs := [nilS]) rfl F S rfl rfl ?_; clear F a S; rintro b2 a w F S
    refine dv_nx ⟨yl_ev rfl rfl (ev_loadA tu24 rfl (cs := [v1]) ts24 rfl (box_ptr (cells := [v1]) 2 rfl 0 rfl (lb rfl))) F S, trivial⟩ ?_
    refine dv_op ok1 3 rfl [(4, .agg #[v1])] ?_
    refine wl_call0 (wn rfl) rfl F rfl (changeforgelaw2_change_ok (fr := (fl [[bx b2 #[nilS] 24], [bx b3 #[.i6 0, .i6 0] 30], [bx b1 #[v1] 24], c1] fr)) ({ Kind := 3, Path := path, To := to, Lines := [], Patch := ({ Hunks := [] } : Patch) } : TreeChange) (nilS) (RepSl.nil _) (nilS) (RepSl.nil _) S hy2) rfl tc19 rfl rfl ?_; clear F a S
    rintro _ a w ⟨g2, v2, c2, l2, S, h2, rfl⟩ F; replace S : St g2 [c2, [bx b2 #[nilS] 24], [bx b3 #[.i6 0, .i6 0] 30], [bx b1 #[v1] 24], c1] fr w := S
    refine dv_nx ⟨yl_ev rfl rfl (ev_loadA tu24 rfl (cs := [v1]) ts24 rfl (box_ptr (cells := [v1]) 3 rfl 0 rfl (lb rfl))) F S, trivial⟩ ?_
    refine dv_op ok1 5 rfl [] ?_
    obtain ⟨g3, l3, S, h3⟩ : ∃ gz, Le g2 gz ∧ St gz [[bx b2 #[nilS] 24], [bx b3 #[.i6 0, .i6 0] 30], [bx b1 #[v1] 24], c1] fr w ∧ RepSl gz y2.Changes v2 := ⟨_, Le.add _ _, S.freeze 0 rfl, OwnS.freeze (S.front 0 rfl) h2⟩
    obtain ⟨g4, l4, S, h4⟩ : ∃ gz, Le g3 gz ∧ St gz [[bx b2 #[nilS] 24], [bx b3 #[.i6 0, .i6 0] 30], [bx b1 #[v1] 24]] fr w ∧ RepSl gz y1.Files v1 := ⟨_, Le.add _ _, S.freeze 3 rfl, OwnS.freeze (S.front 3 rfl) (h1.mono (l2.trans l3))⟩
    refine wl_call0 (wn rfl) rfl F rfl (treepatch_Apply_ok (fr := (fl [[bx b2 #[nilS] 24], [bx b3 #[.i6 0, .i6 0] 30], [bx b1 #[v1] 24]] fr)) y2 v2 (h3.mono l4) y1 v1 h4 S hy3) rfl tc15 rfl rfl ?_; clear F a S
    rintro _ a w ⟨g5, v3, c3, l5, S, h5, rfl⟩ F; replace S : St g5 [c3, [bx b2 #[nilS] 24], [bx b3 #[.i6 0, .i6 0] 30], [bx b1 #[v1] 24]] fr w := S
    refine dv_nx trivial ?_
    refine dv_et ok1 6 rfl (ev_move rfl) F rfl fun a F=>?_
    refine dv_et ok1 7 rfl (ev_extract rfl rfl) F rfl fun a F=>?_
    refine dv_et ok1 8 rfl (ev_extract rfl rfl) F rfl fun a F=>?_
    refine dv_join (HJ _ _ ?_)
    replace S : St g5 [[bx b3 #[.i6 0, .i6 0] 30], [bx b2 #[nilS] 24], c3, [bx b1 #[v1] 24]] fr w := St.tail [[bx b3 #[.i6 0, .i6 0] 30], [bx b2 #[nilS] 24], c3, [bx b1 #[v1] 24]] _ ((((S.frontC 3 rfl).frontC 1 rfl).frontC 3 rfl).frontC 5 rfl)
    exact ⟨v3, v1, b3, b2, c3, g5, F.sub ⟨rfl, rfl, rfl, rfl, rfl, rfl, rfl, rfl, trivial⟩, (((l2.trans l3).trans l4).trans l5), S, h5, (h4.mono l5), hm⟩
 ·clear F S hm; rintro a w ⟨v4, v5, b4, b5, c4, g6, F, l6, S, h6, h7, hm⟩
  refine dv_op ok1 11 rfl [] ?_
  refine wl_storeC (wn rfl) rfl F S rfl rfl (vs := [v4]) rfl ts24 (one_cons (OwnS.one h6) one_nil) (k := 1) rfl (lb rfl) (c' := #[v4]) rfl rfl ?_; clear S; intro w S
  refine dv_nx trivial ?_
  refine dv_op ok1 12 rfl [] ?_
  refine wl_storeC (wn rfl) rfl F S rfl rfl (vs := [.i6 y3.2.Code, .i6 y3.2.Index]) rfl ts30 (one_cons rfl (one_cons rfl one_nil)) (k := 0) rfl (lb rfl) (c' := #[.i6 y3.2.Code, .i6 y3.2.Index]) rfl rfl ?_; clear S; intro w S
  refine dv_nx trivial ?_
  refine dv_fin ok1 ?_
  refine then_n ?_
  refine wp_seq ?_
  refine wp_region_lit ?_
  refine wE (ev_loadA tu24 rfl (cs := [v5]) ts24 rfl (box_ptr (cells := [v5]) 3 rfl 0 rfl (lb rfl))) F S rfl fun a F=>?_
  refine wE (ev_loadA tu24 rfl (cs := [v4]) ts24 rfl (box_ptr (cells := [v4]) 1 rfl 0 rfl (lb rfl))) F S rfl fun a F=>?_
  refine wE (ev_move rfl) F S rfl fun a F=>?_
  obtain ⟨g7, l7, S, h8⟩ : ∃ gz, Le g6 gz ∧ St gz [[bx b4 #[.i6 y3.2.Code, .i6 y3.2.Index] 30], [bx b5 #[v4] 24], [bx b1 #[v5] 24]] fr w ∧ RepSl gz y3.1.Files v4 := ⟨_, Le.add _ _, S.freeze 2 rfl, OwnS.freeze (S.front 2 rfl) h6⟩
  obtain ⟨y4, hy4, hm⟩ := bind_some hm
  refine wl_call0 (wn rfl) rfl F rfl (rename_Detect_ok (fr := (fl [[bx b4 #[.i6 y3.2.Code, .i6 y3.2.Index] 30], [bx b5 #[v4] 24], [bx b1 #[v5] 24]] fr)) y1 v5 (h7.mono l7) y3.1 v4 h8 percent S hy4) rfl tc28 rfl rfl ?_; clear F a S
  rintro _ a w ⟨g8, v6, c5, l8, S, h9, rfl⟩ F; replace S : St g8 [c5, [bx b4 #[.i6 y3.2.Code, .i6 y3.2.Index] 30], [bx b5 #[v4] 24], [bx b1 #[v5] 24]] fr w := S
  refine wE (ev_move rfl) F S rfl fun a F=>?_
  refine wE (ev_extract rfl rfl) F S rfl fun a F=>?_
  refine wE (ev_extract rfl rfl) F S rfl fun a F=>?_
  refine wl_alloc (wn rfl) rfl tz30 (cs := [.i6 0, .i6 0]) rfl F S rfl rfl ?_; clear F a S; rintro b6 a w F S
  refine wE (ev_assign rfl) F S rfl fun a F=>?_
  refine wl_storeC (wn rfl) rfl F S rfl rfl (vs := [.i6 y4.2.Code, .i6 y4.2.Index]) rfl ts30 (one_cons rfl (one_cons rfl one_nil)) (k := 0) rfl (lb rfl) (c' := #[.i6 y4.2.Code, .i6 y4.2.Index]) rfl rfl ?_; clear S; intro w S
  refine wpList_nil ?_
  refine then_n ?_
  refine wp_seq ?_
  refine wp_seq ?_
  refine wp_region_lit ?_
  refine wE (ev_fieldAddr' tu30 tf30_0 (z := 0) ts3 rfl ⟨_, rfl⟩ rfl) F S rfl fun a F=>?_
  refine wE (ev_load1 tu3 rfl rfl (box_ptr (cells := [.i6 y3.2.Code]) 2 rfl 0 rfl (lb rfl))) F S rfl fun a F=>?_
  refine wE (ev_int rfl rfl (bo_neq _ _ _ _)) F S rfl fun a F=>?_
  refine wE (ev_move rfl) F S rfl fun a F=>?_
  obtain ⟨x3, hx1, hm⟩ := bind_some hm
  refine wl_cut 4 (fun a w' => w = w' ∧ Fr 51 a [(40, .bool x3), (12, v6), (0, .string path), (1, .string to)]) ?_ ?_
  ·clear hm; obtain ⟨hc1, hm⟩ | ⟨hc1, hm⟩ := ite_or hx1
   ·refine wl_skip rfl rfl rfl rfl (ne_ft hc1) F rfl rfl ?_; clear F a; intro a F
    refine wl_skip rfl rfl rfl rfl (ne_ft hc1) F rfl rfl ?_; clear F a; intro a F
    refine wl_skip rfl rfl rfl rfl (ne_ft hc1) F rfl rfl ?_; clear F a; intro a F
    refine wE (ev_pickT rfl hc1 rfl) F S rfl fun a F=>?_
    obtain rfl := sinj hm
    refine wpList_nil (then_n ?_); exact ⟨rfl, F.sub ⟨rfl, rfl, rfl, rfl, trivial⟩⟩
   ·refine wl_ev (wg F rfl rfl rfl rfl hc1) (ev_fieldAddr' tu30 tf30_0 (z := 0) ts3 rfl ⟨_, rfl⟩ rfl) F S rfl rfl ?_; clear F a; intro a F
    refine wl_ev (wg F rfl rfl rfl rfl hc1) (ev_load1 tu3 rfl rfl (box_ptr (cells := [.i6 y4.2.Code]) 0 rfl 0 rfl (lb rfl))) F S rfl rfl ?_; clear F a; intro a F
    refine wl_ev (wg F rfl rfl rfl rfl hc1) (ev_int rfl rfl (bo_neq _ _ _ _)) F S rfl rfl ?_; clear F a; intro a F
    refine wE (ev_pickF rfl hc1 rfl) F S rfl fun a F=>?_
    obtain rfl := sinj hm
    refine wpList_nil (then_n ?_); exact ⟨rfl, F.sub ⟨rfl, rfl, rfl, rfl, trivial⟩⟩
  clear F; rintro a w' ⟨rfl, F⟩
  refine wpList_nil ?_
  refine then_n ?_
  obtain ⟨hc2, hm⟩ | ⟨hc2, hm⟩ := ite_or hm
  ·refine wp_condT F rfl hc2 ?_
   refine wp_seq ?_
   refine wp_region_lit ?_
   obtain ⟨y5, hy5, hm⟩ := bind_some hm
   refine wl_call0 (wn rfl) rfl F rfl (changeforgelaw2_renamed_ok (fr := (fl [[bx b6 #[.i6 y4.2.Code, .i6 y4.2.Index] 30], c5, [bx b4 #[.i6 y3.2.Code, .i6 y3.2.Index] 30], [bx b5 #[v4] 24], [bx b1 #[v5] 24]] fr))  S hy5) rfl tc27 rfl rfl ?_; clear F a S
   rintro _ a w ⟨g9, l9, S, rfl⟩ F; replace S : St g9 [[bx b6 #[.i6 y4.2.Code, .i6 y4.2.Index] 30], c5, [bx b4 #[.i6 y3.2.Code, .i6 y3.2.Index] 30], [bx b5 #[v4] 24], [bx b1 #[v5] 24]] fr w := S
   refine wE (ev_assign rfl) F S rfl fun a F=>?_
   refine wpList_nil ?_
   refine then_n ?_
   refine wp_ret ?_
   refine then_r ?_
   obtain rfl := sinj hm
   refine post_r _ F rfl (ar_cons (resT rfl) ar_nil) ?_
   replace S : St g9 [] fr w := St.tail [] _ S
   exact ⟨_, rfl, g9, ((((l1.trans l6).trans l7).trans l8).trans l9), S, rfl⟩
  ·refine wp_condF F rfl hc2 ?_
   refine wp_skip ?_
   refine then_n ?_
   refine wp_seq ?_
   refine wp_region_lit ?_
   refine wE (ev_move rfl) F S rfl fun a F=>?_
   refine wE (ev_move rfl) F S rfl fun a F=>?_
   refine wE (ev_move rfl) F S rfl fun a F=>?_
   refine wE (ev_build (parts := [(0, .tmp 43), (1, .tmp 44)]) (vs := [(0, .string path), (1, .string to)]) rfl (fun w => tb67_0_1 path to w)) F S rfl fun a F=>?_
   refine wl_lit (l := ([({ e0 := path, e1 := to } : Arr2_ByteArray)] : List Arr2_ByteArray)) (vs := [.agg #[.string path, .string to]]) (parts := [(0, .tmp 45)]) (wn rfl) rfl rfl rfl tu63 te67 (sz_cons rfl sz_nil) rfl (Cat.cons (rep_Arr2_ByteArray_mk (x := ({ e0 := path, e1 := to } : Arr2_ByteArray)) ) (Cat.nil _)) (coa_cons rfl coa_nil) rfl F S rfl rfl ?_; clear F a S
   rintro v7 c6 a w h10 F S
   obtain ⟨g10, l10, S, h11⟩ : ∃ gz, Le g8 gz ∧ St gz [c6, [bx b6 #[.i6 y4.2.Code, .i6 y4.2.Index] 30], [bx b4 #[.i6 y3.2.Code, .i6 y3.2.Index] 30], [bx b5 #[v4] 24], [bx b1 #[v5] 24]] fr w ∧ RepSl gz y4.1 v6 := ⟨_, Le.add _ _, S.freeze 2 rfl, OwnS.freeze (S.front 2 rfl) h9⟩
   obtain ⟨g11, l11, S, h12⟩ : ∃ gz, Le g10 gz ∧ St gz [[bx b6 #[.i6 y4.2.Code, .i6 y4.2.Index] 30], [bx b4 #[.i6 y3.2.Code, .i6 y3.2.Index] 30], [bx b5 #[v4] 24], [bx b1 #[v5] 24]] fr w ∧ RepSl gz ([({ e0 := path, e1 := to } : Arr2_ByteArray)] : List Arr2_ByteArray) v7 := ⟨_, Le.add _ _, S.freeze 0 rfl, OwnS.freeze (S.front 0 rfl) (h10.mono l10)⟩
   obtain ⟨y6, hy6, hm⟩ := bind_some hm
   refine wl_call0 (wn rfl) rfl F rfl (changeforgeequal_StringPairs_ok (fr := (fl [[bx b6 #[.i6 y4.2.Code, .i6 y4.2.Index] 30], [bx b4 #[.i6 y3.2.Code, .i6 y3.2.Index] 30], [bx b5 #[v4] 24], [bx b1 #[v5] 24]] fr)) y4.1 v6 (h11.mono l11) ([({ e0 := path, e1 := to } : Arr2_ByteArray)] : List Arr2_ByteArray) v7 h12 S hy6) rfl tc29 rfl rfl ?_; clear F a S
   rintro _ a w ⟨g12, l12, S, rfl⟩ F; replace S : St g12 [[bx b6 #[.i6 y4.2.Code, .i6 y4.2.Index] 30], [bx b4 #[.i6 y3.2.Code, .i6 y3.2.Index] 30], [bx b5 #[v4] 24], [bx b1 #[v5] 24]] fr w := S
   refine wE (ev_move rfl) F S rfl fun a F=>?_
   obtain ⟨x4, hx2, hm⟩ := bind_some hm
   refine wl_cut 2 (fun a w => ∃ g13, Fr 51 a [(50, .bool x4)] ∧ Le g12 g13 ∧ St g13 [[bx b6 #[.i6 y4.2.Code, .i6 y4.2.Index] 30], [bx b4 #[.i6 y3.2.Code, .i6 y3.2.Index] 30], [bx b5 #[v4] 24], [bx b1 #[v5] 24]] fr w) ?_ ?_
   ·clear hm; obtain ⟨hc3, hm⟩ | ⟨hc3, hm⟩ := ite_or hx2
    ·obtain ⟨y7, hy7, hm⟩ := bind_some hm
     refine wl_call0 (wg F rfl rfl rfl rfl hc3) rfl F rfl (changeforgelaw2_renamed_ok (fr := (fl [[bx b6 #[.i6 y4.2.Code, .i6 y4.2.Index] 30], [bx b4 #[.i6 y3.2.Code, .i6 y3.2.Index] 30], [bx b5 #[v4] 24], [bx b1 #[v5] 24]] fr))  S hy7) rfl tc27 rfl rfl ?_; clear F a S
     rintro _ a w ⟨g14, l14, S, rfl⟩ F; replace S : St g14 [[bx b6 #[.i6 y4.2.Code, .i6 y4.2.Index] 30], [bx b4 #[.i6 y3.2.Code, .i6 y3.2.Index] 30], [bx b5 #[v4] 24], [bx b1 #[v5] 24]] fr w := S
     refine wE (ev_pickT rfl hc3 rfl) F S rfl fun a F=>?_
     obtain rfl := sinj hm
     refine wpList_nil (then_n ?_); exact ⟨g14, F.sub ⟨rfl, trivial⟩, l14, S⟩
    ·refine wl_skip rfl rfl rfl rfl (ne_tf hc3) F rfl rfl ?_; clear F a; intro a F
     refine wE (ev_pickF rfl hc3 rfl) F S rfl fun a F=>?_
     obtain rfl := sinj hm
     refine wpList_nil (then_n ?_); exact ⟨g12, F.sub ⟨rfl, trivial⟩, (Le.refl _), S⟩
   clear F S; rintro a w ⟨g13, F, l13, S⟩
   refine wE (ev_assign rfl) F S rfl fun a F=>?_
   refine wpList_nil ?_
   refine then_n ?_
   refine wp_ret ?_
   obtain rfl := sinj hm
   refine post_r _ F rfl (ar_cons (resT rfl) ar_nil) ?_
   replace S : St g13 [] fr w := St.tail [] _ S
   exact ⟨_, rfl, g13, (((((((l1.trans l6).trans l7).trans l8).trans l10).trans l11).trans l12).trans l13), S, rfl⟩
end Go.Dc
