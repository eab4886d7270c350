/- Walks: each function comes to what its model says. -/
import Derived.Test.YtibigfejalemjaaDoorDcTab
import Derived.Test.YtibigfejalemjaaDoorDcM
import Derived.Test.YtibigfejalemjaaDoorDcW1
import Derived.Test.YtibigfejalemjaaDoorDcW2
namespace Go.Dc
open Go Go.Proofs
set_option maxRecDepth 100000
set_option maxHeartbeats 4000000
set_option linter.unusedVariables false
theorem treepatch_Validate_ok {g : Gh} {fr : Hl} {w : World} {r : Fault} (t_ : FileTree) (vt_1 : Value) (ht_1 : RepSl g t_.Files vt_1) (S : St g [] fr w) (hm : treepatch_Validate t_ = some r) :
  Calls Tryd.prog 43 [.agg #[vt_1]].toArray w (fun en w' => ∃ v, en = .returned v ∧ ∃ (g' : Gh), Le g g' ∧ St g' [] fr w' ∧ .agg #[.i6 r.Code, .i6 r.Index] = v) := by
 unfold treepatch_Validate at hm
 refine calls_enter (fn := Tryd.f43) Tryd.func43 rfl Tryd.ntmps43 (lb rfl) ?_
 intro a F
 replace F : Fr 63 a [(0, .agg #[vt_1])] := F
 refine wp_seq ?_
 refine wp_region_lit ?_
 refine wl_boxC (wn rfl) rfl rfl rfl F S rfl rfl ?_; clear F a S; rintro b1 a w F S
 refine wl_alloc (wn rfl) rfl tz25 (cs := [.i6 0, .i6 0]) rfl F S rfl rfl ?_; clear F a S; rintro b2 a w F S
 refine wpList_nil ?_
 refine then_n ?_
 refine wp_seq ?_
 refine wp_seq ?_
 refine wp_region_lit ?_
 refine wE (ev_fieldAddr' tu46 tf46_0 (z := 0) ts44 rfl ⟨_, rfl⟩ rfl) F S rfl fun a F=>?_
 refine wE (ev_load1 tu44 rfl rfl (box_ptr (cells := [vt_1]) 1 rfl 0 rfl (lb rfl))) F S rfl fun a F=>?_
 refine wE (ev_lenSh ht_1 rfl tu44) F S rfl fun a F=>?_
 refine wE (ev_int rfl rfl (bo_gtr _ _ _ _)) F S rfl fun a F=>?_
 refine wpList_nil ?_
 refine then_n ?_
 obtain ⟨hc1, hm⟩ | ⟨hc1, hm⟩ := ite_or hm
 ·refine wp_condT F rfl hc1 ?_
  refine wp_seq ?_
  refine wp_region_lit ?_
  refine wE (ev_build (parts := [(0, .const (.i6 2)), (1, .const (.i6 (-1)))]) (vs := [(0, .i6 2), (1, .i6 (-1))]) rfl (fun w => tb25_0_1 2 (-1) w)) F S rfl fun a F=>?_
  refine wl_storeC (wn rfl) rfl F S rfl rfl (vs := [.i6 2, .i6 (-1)]) rfl ts25 (one_cons rfl (one_cons rfl one_nil)) (k := 0) rfl (lb rfl) (c' := #[.i6 2, .i6 (-1)]) rfl rfl ?_; clear S; intro w S
  refine wpList_nil ?_
  refine then_n ?_
  refine wp_ret ?_
  refine then_r ?_
  obtain rfl := sinj hm
  refine post_r _ F rfl (ar_cons (resA rfl tu25 rfl (box_ptr (cells := [.i6 2, .i6 (-1)]) 0 rfl 0 rfl (lb rfl) w S) ts25) ar_nil) ?_
  replace S : St g [] fr w := St.tail [] _ S
  exact ⟨_, rfl, g, (Le.refl _), S, rfl⟩
 ·refine wp_condF F rfl hc1 ?_
  refine wp_skip ?_
  refine then_n ?_
  refine wp_cut (fun a w => ∃ (g1 : Gh), Fr 63 a [(2, bp b2 0)] ∧ Le g g1 ∧ St g1 [[bx b2 #[.i6 0, .i6 0] 25]] fr w ∧ treepatch_Validate.j1 = some r) ?_ ?_
  ·refine wp_seq ?_
   refine wp_region_lit ?_
   refine wE (ev_fieldAddr' tu46 tf46_0 (z := 0) ts44 rfl ⟨_, rfl⟩ rfl) F S rfl fun a F=>?_
   refine wE (ev_load1 tu44 rfl rfl (box_ptr (cells := [vt_1]) 1 rfl 0 rfl (lb rfl))) F S rfl fun a F=>?_
   refine wE (ev_lenSh ht_1 rfl tu44) F S rfl fun a F=>?_
   refine wE (ev_move rfl) F S rfl fun a F=>?_
   refine wpList_nil ?_
   refine then_n ?_
   refine wp_block ?_
   obtain ⟨r1, hr1, hm⟩ := bind_some hm
   have hmo1 := hm; clear hm
   refine wp_iter (σ := Int) (ρ := Fault ⊕ Unit) (m := fun s => treepatch_Validate.l1 t_ s) (I := fun x1 a w => ∃ (g2 : Gh), Fr 63 a [(14, .i6 x1), (13, .i6 (t_.Files.length : Int)), (12, vt_1), (2, bp b2 0), (1, bp b1 0)] ∧ Le g g2 ∧ St g2 [[bx b2 #[.i6 0, .i6 0] 25], [bx b1 #[vt_1] 46]] fr w) hr1 ?_ ?_
   ·exact ⟨g, F.sub ⟨rfl, rfl, rfl, rfl, rfl, trivial⟩, (Le.refl _), S⟩
   ·clear F S; rintro x1 a w x2 ⟨g2, F, l2, S⟩ hx1 hfin1
    have hm : treepatch_Validate.l1 t_ x1 = some x2 := hx1; clear hx1
    unfold treepatch_Validate.l1 at hm
    refine wp_seq ?_
    refine wp_region_lit ?_
    refine wE (ev_int rfl rfl (bo_lss _ _ _ _)) F S rfl fun a F=>?_
    refine wpList_nil ?_
    refine then_n ?_
    refine wp_seq ?_
    obtain ⟨hc2, hm⟩ | ⟨hc2, hm⟩ := ite_or hm
    ·refine wp_condT F rfl hc2 ?_
     refine wp_skip ?_
     refine then_n ?_
     refine wp_seq ?_
     refine wp_block ?_
     refine wp_seq ?_
     refine wp_region_lit ?_
     refine wE (ev_move rfl) F S rfl fun a F=>?_
     obtain ⟨y1, hy1, hm⟩ := bind_some hm
     obtain ⟨cs1, hr2, hp1⟩ := elemS (ht_1.mono l2) hy1
     obtain ⟨v1, rfl, h1⟩ := rep_File hr2
     refine wE (ev_idxS (ht_1.mono l2) hy1 tu44 ts54 rfl rfl) F S rfl fun a F=>?_
     refine wE (ev_loadA tu54 rfl (cs := [.string y1.Path, v1]) ts54 rfl (ptr_mono (cks := [[bx b2 #[.i6 0, .i6 0] 25], [bx b1 #[vt_1] 46]]) (fr := fr) hp1 (Le.refl _))) F S rfl fun a F=>?_
     refine wl_alloc (wn rfl) rfl tz54 (cs := [.string ByteArray.empty, nilS]) rfl F S rfl rfl ?_; clear F a S; rintro b3 a w F S
     refine wE (ev_assign rfl) F S rfl fun a F=>?_
     refine wl_storeC (wn rfl) rfl F S rfl rfl (vs := [.string y1.Path, v1]) rfl ts54 (one_cons rfl (one_cons h1.one one_nil)) (k := 0) rfl (lb rfl) (c' := #[.string y1.Path, v1]) rfl rfl ?_; clear S; intro w S
     refine wpList_nil ?_
     refine then_n ?_
     refine wp_seq ?_
     refine wp_block ?_
     refine wp_seq ?_
     refine wp_region_lit ?_
     refine wE (ev_fieldAddr' tu54 tf54_0 (z := 0) ts9 rfl ⟨_, rfl⟩ rfl) F S rfl fun a F=>?_
     refine wE (ev_load1 tu9 rfl rfl (box_ptr (cells := [.string y1.Path]) 0 rfl 0 rfl (lb rfl))) F S rfl fun a F=>?_
     obtain ⟨y2, hy2, hm⟩ := bind_some hm
     refine wl_call0 (wn rfl) rfl F rfl (treepatch_ValidPath_ok (fr := (fl [[bx b3 #[.string y1.Path, v1] 54], [bx b2 #[.i6 0, .i6 0] 25], [bx b1 #[vt_1] 46]] fr)) y1.Path S hy2) rfl tc62 rfl rfl ?_; clear F a S
     rintro _ a w ⟨g3, l3, S, rfl⟩ F; replace S : St g3 [[bx b3 #[.string y1.Path, v1] 54], [bx b2 #[.i6 0, .i6 0] 25], [bx b1 #[vt_1] 46]] fr w := S
     refine wE (ev_not rfl) F S rfl fun a F=>?_
     refine wE (ev_assign rfl) F S rfl fun a F=>?_
     refine wpList_nil ?_
     refine then_n ?_
     obtain ⟨hc3, hm⟩ | ⟨hc3, hm⟩ := ite_or hm
     ·refine wp_condT F rfl hc3 ?_
      refine wp_seq ?_
      refine wp_region_lit ?_
      refine wE (ev_move rfl) F S rfl fun a F=>?_
      refine wE (ev_build (parts := [(0, .const (.i6 12)), (1, .tmp 24)]) (vs := [(0, .i6 12), (1, .i6 x1)]) rfl (fun w => tb25_0_1 12 x1 w)) F S rfl fun a F=>?_
      refine wl_storeC (wn rfl) rfl F S rfl rfl (vs := [.i6 12, .i6 x1]) rfl ts25 (one_cons rfl (one_cons rfl one_nil)) (k := 1) rfl (lb rfl) (c' := #[.i6 12, .i6 x1]) rfl rfl ?_; clear S; intro w S
      refine wpList_nil ?_
      refine then_n ?_
      refine wp_ret ?_
      refine inb_r ?_
      refine then_r ?_
      refine inb_r ?_
      refine then_r ?_
      refine then_r ?_
      refine inb_r ?_
      refine then_r ?_
      obtain rfl := sinj hm
      obtain rfl := hfin1 _ rfl
      clear hm
      have hm : (some ({ Code := 12, Index := x1 } : Fault) : Option Fault) = some _ := hmo1
      obtain rfl := sinj hm
      refine post_r _ F rfl (ar_cons (resA rfl tu25 rfl (box_ptr (cells := [.i6 12, .i6 x1]) 1 rfl 0 rfl (lb rfl) w S) ts25) ar_nil) ?_
      replace S : St g3 [] fr w := St.tail [] _ S
      exact ⟨_, rfl, g3, (l2.trans l3), S, rfl⟩
     ·refine wp_condF F rfl hc3 ?_
      refine wp_seq ?_
      refine wp_quiet mo (by kernel_rfl) S ?_
      refine wq_ev (wn rfl) (ev_move rfl) F rfl rfl ?_; clear F a; intro a F
      refine wq_ev (wn rfl) (ev_int rfl rfl (bo_gtr _ _ _ _)) F rfl rfl ?_; clear F a; intro a F
      refine wq_ev (wn rfl) (ev_move rfl) F rfl rfl ?_; clear F a; intro a F
      obtain ⟨x3, hx2, hm⟩ := bind_some hm
      refine wq_cut 11 (fun a => Fr 63 a [(40, .bool x3), (3, .i6 x1), (4, bp b3 0), (14, .i6 x1), (13, .i6 (t_.Files.length : Int)), (12, vt_1), (2, bp b2 0), (1, bp b1 0)]) ?_ ?_
      ·clear hm; obtain ⟨hc4, hm⟩ | ⟨hc4, hm⟩ := ite_or hx2
       ·refine wq_ev (wg F rfl rfl rfl rfl hc4) (ev_fieldAddr' tu54 tf54_0 (z := 0) ts9 rfl ⟨_, rfl⟩ rfl) F rfl rfl ?_; clear F a; intro a F
        refine wq_ev (wg F rfl rfl rfl rfl hc4) (ev_load1 tu9 rfl rfl (box_ptr (cells := [.string y1.Path]) 0 rfl 0 rfl (lb rfl))) F rfl rfl ?_; clear F a; intro a F
        refine wq_ev (wg F rfl rfl rfl rfl hc4) (ev_fieldAddr' tu46 tf46_0 (z := 0) ts44 rfl ⟨_, rfl⟩ rfl) F rfl rfl ?_; clear F a; intro a F
        refine wq_ev (wg F rfl rfl rfl rfl hc4) (ev_load1 tu44 rfl rfl (box_ptr (cells := [vt_1]) 2 rfl 0 rfl (lb rfl))) F rfl rfl ?_; clear F a; intro a F
        refine wq_ev (wg F rfl rfl rfl rfl hc4) (ev_move rfl) F rfl rfl ?_; clear F a; intro a F
        obtain ⟨z1, hz1, hm⟩ := bind_some hm
        refine wq_ev (wg F rfl rfl rfl rfl hc4) (ev_int rfl rfl (bo_sub hz1)) F rfl rfl ?_; clear F a; intro a F
        obtain ⟨y3, hy3, hm⟩ := bind_some hm
        obtain ⟨cs2, hr3, hp2⟩ := elemS (ht_1.mono (l2.trans l3)) hy3
        obtain ⟨v2, rfl, h2⟩ := rep_File hr3
        refine wq_ev (wg F rfl rfl rfl rfl hc4) (ev_idxS (ht_1.mono (l2.trans l3)) hy3 tu44 ts54 rfl rfl) F rfl rfl ?_; clear F a; intro a F
        have hp3 := PtrC.field hp2 0 1 (lb rfl)
        have hp3 : PtrC g3 (addP (elemP vt_1 z1 2) 0) [.string y3.Path] := hp3
        refine wq_ev (wg F rfl rfl rfl rfl hc4) (ev_fieldAddr' tu54 tf54_0 (z := 0) ts9 rfl hp2.ptr rfl) F rfl rfl ?_; clear F a; intro a F
        refine wq_ev (wg F rfl rfl rfl rfl hc4) (ev_load1 tu9 rfl rfl (ptr_mono (cks := [[bx b3 #[.string y1.Path, v1] 54], [bx b2 #[.i6 0, .i6 0] 25], [bx b1 #[vt_1] 46]]) (fr := fr) hp3 (Le.refl _))) F rfl rfl ?_; clear F a; intro a F
        refine wq_ev (wg F rfl rfl rfl rfl hc4) (ev_str rfl rfl (bs_leq _ _ _)) F rfl rfl ?_; clear F a; intro a F
        refine wq_ev (wn rfl) (ev_pickT rfl hc4 rfl) F rfl rfl ?_; clear F a; intro a F
        obtain rfl := sinj hm
        refine wq_nil ?_; exact F.sub ⟨rfl, rfl, rfl, rfl, rfl, rfl, rfl, rfl, trivial⟩
       ·refine wq_skip rfl rfl rfl rfl (ne_tf hc4) F rfl rfl ?_; clear F a; intro a F
        refine wq_skip rfl rfl rfl rfl (ne_tf hc4) F rfl rfl ?_; clear F a; intro a F
        refine wq_skip rfl rfl rfl rfl (ne_tf hc4) F rfl rfl ?_; clear F a; intro a F
        refine wq_skip rfl rfl rfl rfl (ne_tf hc4) F rfl rfl ?_; clear F a; intro a F
        refine wq_skip rfl rfl rfl rfl (ne_tf hc4) F rfl rfl ?_; clear F a; intro a F
        refine wq_skip rfl rfl rfl rfl (ne_tf hc4) F rfl rfl ?_; clear F a; intro a F
        refine wq_skip rfl rfl rfl rfl (ne_tf hc4) F rfl rfl ?_; clear F a; intro a F
        refine wq_skip rfl rfl rfl rfl (ne_tf hc4) F rfl rfl ?_; clear F a; intro a F
        refine wq_skip rfl rfl rfl rfl (ne_tf hc4) F rfl rfl ?_; clear F a; intro a F
        refine wq_skip rfl rfl rfl rfl (ne_tf hc4) F rfl rfl ?_; clear F a; intro a F
        refine wq_ev (wn rfl) (ev_pickF rfl hc4 rfl) F rfl rfl ?_; clear F a; intro a F
        obtain rfl := sinj hm
        refine wq_nil ?_; exact F.sub ⟨rfl, rfl, rfl, rfl, rfl, rfl, rfl, rfl, trivial⟩
      clear F; intro a F
      refine wq_ev (wn rfl) (ev_assign rfl) F rfl rfl ?_; clear F a; intro a F
      refine wq_nil ?_; clear S; intro w S
      refine then_n ?_
      obtain ⟨hc5, hm⟩ | ⟨hc5, hm⟩ := ite_or hm
      ·refine wp_condT F rfl hc5 ?_
       refine wp_seq ?_
       refine wp_region_lit ?_
       refine wE (ev_move rfl) F S rfl fun a F=>?_
       refine wE (ev_build (parts := [(0, .const (.i6 5)), (1, .tmp 41)]) (vs := [(0, .i6 5), (1, .i6 x1)]) rfl (fun w => tb25_0_1 5 x1 w)) F S rfl fun a F=>?_
       refine wl_storeC (wn rfl) rfl F S rfl rfl (vs := [.i6 5, .i6 x1]) rfl ts25 (one_cons rfl (one_cons rfl one_nil)) (k := 1) rfl (lb rfl) (c' := #[.i6 5, .i6 x1]) rfl rfl ?_; clear S; intro w S
       refine wpList_nil ?_
       refine then_n ?_
       refine wp_ret ?_
       refine inb_r ?_
       refine then_r ?_
       refine inb_r ?_
       refine then_r ?_
       refine then_r ?_
       refine inb_r ?_
       refine then_r ?_
       obtain rfl := sinj hm
       obtain rfl := hfin1 _ rfl
       clear hm
       have hm : (some ({ Code := 5, Index := x1 } : Fault) : Option Fault) = some _ := hmo1
       obtain rfl := sinj hm
       refine post_r _ F rfl (ar_cons (resA rfl tu25 rfl (box_ptr (cells := [.i6 5, .i6 x1]) 1 rfl 0 rfl (lb rfl) w S) ts25) ar_nil) ?_
       replace S : St g3 [] fr w := St.tail [] _ S
       exact ⟨_, rfl, g3, (l2.trans l3), S, rfl⟩
      ·refine wp_condF F rfl hc5 ?_
       refine wp_seq ?_
       refine wp_quiet mo (by kernel_rfl) S ?_
       refine wq_ev (wn rfl) (ev_fieldAddr' tu46 tf46_0 (z := 0) ts44 rfl ⟨_, rfl⟩ rfl) F rfl rfl ?_; clear F a; intro a F
       refine wq_ev (wn rfl) (ev_load1 tu44 rfl rfl (box_ptr (cells := [vt_1]) 2 rfl 0 rfl (lb rfl))) F rfl rfl ?_; clear F a; intro a F
       refine wq_ev (wn rfl) (ev_move rfl) F rfl rfl ?_; clear F a; intro a F
       obtain ⟨y4, hy4, hm⟩ := bind_some hm
       refine wq_cutS (wn rfl) rfl (ht_1.mono (l2.trans l3)) hy4 tu44 ts54 rfl (bnd0 _) (bndV rfl) F rfl rfl ?_; clear F a; rintro v3 h3 a F
       refine wq_ev (wn rfl) (ev_fieldAddr' tu54 tf54_0 (z := 0) ts9 rfl ⟨_, rfl⟩ rfl) F rfl rfl ?_; clear F a; intro a F
       refine wq_ev (wn rfl) (ev_load1 tu9 rfl rfl (box_ptr (cells := [.string y1.Path]) 0 rfl 0 rfl (lb rfl))) F rfl rfl ?_; clear F a; intro a F
       obtain ⟨y5, hy5, hm⟩ := bind_some hm
       refine wq_call (wn rfl) rfl (xs := [.tmp 47, .tmp 49, .const (.i6 (-1))]) (vs := [v3, .string y1.Path, .i6 (-1)]) (cap := []) F rfl rfl tc46 (v := .bool y5) (fun w S => (treepatch_Clash_ok (g := g3) (fr := (fl [[bx b3 #[.string y1.Path, v1] 54], [bx b2 #[.i6 0, .i6 0] 25], [bx b1 #[vt_1] 46]] fr)) (w := w) y4 v3 h3 y1.Path (-1) S hy5).mono (by rintro en w' ⟨_, rfl, g2, l2, S2, rfl⟩; exact ⟨rfl, S2.weak l2⟩)) rfl rfl ?_; clear F a; intro a F
       refine wq_ev (wn rfl) (ev_assign rfl) F rfl rfl ?_; clear F a; intro a F
       refine wq_nil ?_; clear S; intro w S
       refine then_n ?_
       obtain ⟨hc6, hm⟩ | ⟨hc6, hm⟩ := ite_or hm
       ·refine wp_condT F rfl hc6 ?_
        refine wp_seq ?_
        refine wp_region_lit ?_
        refine wE (ev_move rfl) F S rfl fun a F=>?_
        refine wE (ev_build (parts := [(0, .const (.i6 7)), (1, .tmp 51)]) (vs := [(0, .i6 7), (1, .i6 x1)]) rfl (fun w => tb25_0_1 7 x1 w)) F S rfl fun a F=>?_
        refine wl_storeC (wn rfl) rfl F S rfl rfl (vs := [.i6 7, .i6 x1]) rfl ts25 (one_cons rfl (one_cons rfl one_nil)) (k := 1) rfl (lb rfl) (c' := #[.i6 7, .i6 x1]) rfl rfl ?_; clear S; intro w S
        refine wpList_nil ?_
        refine then_n ?_
        refine wp_ret ?_
        refine inb_r ?_
        refine then_r ?_
        refine inb_r ?_
        refine then_r ?_
        refine then_r ?_
        refine inb_r ?_
        refine then_r ?_
        obtain rfl := sinj hm
        obtain rfl := hfin1 _ rfl
        clear hm
        have hm : (some ({ Code := 7, Index := x1 } : Fault) : Option Fault) = some _ := hmo1
        obtain rfl := sinj hm
        refine post_r _ F rfl (ar_cons (resA rfl tu25 rfl (box_ptr (cells := [.i6 7, .i6 x1]) 1 rfl 0 rfl (lb rfl) w S) ts25) ar_nil) ?_
        replace S : St g3 [] fr w := St.tail [] _ S
        exact ⟨_, rfl, g3, (l2.trans l3), S, rfl⟩
       ·refine wp_condF F rfl hc6 ?_
        refine wp_skip ?_
        refine inb_n ?_
        refine then_n ?_
        refine wp_seq ?_
        refine wp_region_lit ?_
        refine wE (ev_fieldAddr' tu54 tf54_1 (z := 0) ts22 rfl ⟨_, rfl⟩ rfl) F S rfl fun a F=>?_
        refine wE (ev_load1 tu22 rfl rfl (box_ptr (cells := [v1]) 0 rfl 1 rfl (lb rfl))) F S rfl fun a F=>?_
        refine wE (ev_move rfl) F S rfl fun a F=>?_
        obtain ⟨y6, hy6, hm⟩ := bind_some hm
        refine wl_call0 (wn rfl) rfl F rfl (lines_Second_ok (fr := (fl [[bx b3 #[.string y1.Path, v1] 54], [bx b2 #[.i6 0, .i6 0] 25], [bx b1 #[vt_1] 46]] fr)) y1.Lines v1 (h1.mono l3) x1 S hy6) rfl tc25 rfl rfl ?_; clear F a S
        rintro _ a w ⟨g5, l5, S, rfl⟩ F; replace S : St g5 [[bx b3 #[.string y1.Path, v1] 54], [bx b2 #[.i6 0, .i6 0] 25], [bx b1 #[vt_1] 46]] fr w := S
        refine wl_alloc (wn rfl) rfl tz25 (cs := [.i6 0, .i6 0]) rfl F S rfl rfl ?_; clear F a S; rintro b4 a w F S
        refine wl_storeC (wn rfl) rfl F S rfl rfl (vs := [.i6 y6.Code, .i6 y6.Index]) rfl ts25 (one_cons rfl (one_cons rfl one_nil)) (k := 0) rfl (lb rfl) (c' := #[.i6 y6.Code, .i6 y6.Index]) rfl rfl ?_; clear S; intro w S
        refine wpList_nil ?_
        refine then_n ?_
        refine wp_seq ?_
        refine wp_region_lit ?_
        refine wE (ev_loadA tu25 rfl (cs := [.i6 y6.Code, .i6 y6.Index]) ts25 rfl (box_ptr (cells := [.i6 y6.Code, .i6 y6.Index]) 0 rfl 0 rfl (lb rfl))) F S rfl fun a F=>?_
        refine wE (ev_build (parts := []) (vs := []) rfl (fun w => tb25_  w)) F S rfl fun a F=>?_
        refine wE (ev_neS tu25 tqa25 tqb25 tqc25 (xs := [.i6 y6.Code, .i6 y6.Index]) (ys := [.i6 0, .i6 0]) rfl rfl ⟨_, _, rfl, by decide, ⟨_, _, rfl, rfl, leaf_int tu3⟩, ⟨_, _, rfl, by decide, ⟨_, _, rfl, rfl, leaf_int tu3⟩, rfl⟩⟩) F S rfl fun a F=>?_
        refine wpList_nil ?_
        refine then_n ?_
        obtain ⟨hc7, hm⟩ | ⟨hc7, hm⟩ := ite_or hm
        ·refine wp_condT F rfl hc7 ?_
         refine wp_seq ?_
         refine wp_region_lit ?_
         refine wE (ev_loadA tu25 rfl (cs := [.i6 y6.Code, .i6 y6.Index]) ts25 rfl (box_ptr (cells := [.i6 y6.Code, .i6 y6.Index]) 0 rfl 0 rfl (lb rfl))) F S rfl fun a F=>?_
         refine wl_storeC (wn rfl) rfl F S rfl rfl (vs := [.i6 y6.Code, .i6 y6.Index]) rfl ts25 (one_cons rfl (one_cons rfl one_nil)) (k := 2) rfl (lb rfl) (c' := #[.i6 y6.Code, .i6 y6.Index]) rfl rfl ?_; clear S; intro w S
         refine wpList_nil ?_
         refine then_n ?_
         refine wp_ret ?_
         refine inb_r ?_
         refine then_r ?_
         refine then_r ?_
         refine inb_r ?_
         refine then_r ?_
         obtain rfl := sinj hm
         obtain rfl := hfin1 _ rfl
         clear hm
         have hm : (some y6 : Option Fault) = some _ := hmo1
         obtain rfl := sinj hm
         refine post_r _ F rfl (ar_cons (resA rfl tu25 rfl (box_ptr (cells := [.i6 y6.Code, .i6 y6.Index]) 2 rfl 0 rfl (lb rfl) w S) ts25) ar_nil) ?_
         replace S : St g5 [] fr w := St.tail [] _ S
         exact ⟨_, rfl, g5, ((l2.trans l3).trans l5), S, rfl⟩
        ·refine wp_condF F rfl hc7 ?_
         refine wp_skip ?_
         refine inb_n ?_
         refine then_n ?_
         refine wp_region_lit ?_
         obtain ⟨z2, hz2, hm⟩ := bind_some hm
         refine wE (ev_int rfl rfl (bo_add hz2)) F S rfl fun a F=>?_
         refine wE (ev_move rfl) F S rfl fun a F=>?_
         refine wpList_nil ?_
         refine then_n ?_
         obtain rfl := sinj hm
         refine ⟨_, rfl, ?_⟩
         replace S : St g5 [[bx b2 #[.i6 0, .i6 0] 25], [bx b1 #[vt_1] 46]] fr w := St.tail [[bx b2 #[.i6 0, .i6 0] 25], [bx b1 #[vt_1] 46]] _ ((S.frontC 3 rfl).frontC 3 rfl)
         exact ⟨g5, F.sub ⟨rfl, rfl, rfl, rfl, rfl, trivial⟩, ((l2.trans l3).trans l5), S⟩
    ·refine wp_condF F rfl hc2 ?_
     refine wp_exit ?_
     refine then_e ?_
     refine then_e ?_
     refine inb_x ?_
     refine then_n ?_
     obtain rfl := sinj hm
     obtain rfl := hfin1 _ rfl
     clear hm
     have hm : (treepatch_Validate.j1 : Option Fault) = some _ := hmo1
     replace S : St g2 [[bx b2 #[.i6 0, .i6 0] 25]] fr w := St.tail [[bx b2 #[.i6 0, .i6 0] 25]] _ (S.frontC 0 rfl)
     exact ⟨g2, F.sub ⟨rfl, trivial⟩, l2, S, hm⟩
  ·clear F S hm; rintro a w ⟨g1, F, l1, S, hm⟩
   refine wp_seq ?_
   refine wp_region_lit ?_
   refine wE (ev_build (parts := []) (vs := []) rfl (fun w => tb25_  w)) F S rfl fun a F=>?_
   refine wl_storeC (wn rfl) rfl F S rfl rfl (vs := [.i6 0, .i6 0]) rfl ts25 (one_cons rfl (one_cons rfl one_nil)) (k := 0) rfl (lb rfl) (c' := #[.i6 0, .i6 0]) rfl rfl ?_; clear S; intro w S
   refine wpList_nil ?_
   refine then_n ?_
   refine wp_ret ?_
   obtain rfl := sinj hm
   refine post_r _ F rfl (ar_cons (resA rfl tu25 rfl (box_ptr (cells := [.i6 0, .i6 0]) 0 rfl 0 rfl (lb rfl) w S) ts25) ar_nil) ?_
   replace S : St g1 [] fr w := St.tail [] _ S
   exact ⟨_, rfl, g1, l1, S, rfl⟩

theorem treepatch_Second_ok {g : Gh} {fr : Hl} {w : World} {r : Fault} (t_ : FileTree) (vt_1 : Value) (ht_1 : RepSl g t_.Files vt_1) (index : Int) (S : St g [] fr w) (hm : treepatch_Second t_ index = some r) :
  Calls Tryd.prog 29 [.agg #[vt_1], .i6 index].toArray w (fun en w' => ∃ v, en = .returned v ∧ ∃ (g' : Gh), Le g g' ∧ St g' [] fr w' ∧ .agg #[.i6 r.Code, .i6 r.Index] = v) := by
 unfold treepatch_Second at hm
 refine calls_enter (fn := Tryd.f29) Tryd.func29 rfl Tryd.ntmps29 (lb rfl) ?_
 intro a F
 replace F : Fr 16 a [(0, .agg #[vt_1]), (1, .i6 index)] := F
 refine wp_seq ?_
 refine wp_region_lit ?_
 refine wl_boxC (wn rfl) rfl rfl rfl F S rfl rfl ?_; clear F a S; rintro b1 a w F S
 refine wl_alloc (wn rfl) rfl tz25 (cs := [.i6 0, .i6 0]) rfl F S rfl rfl ?_; clear F a S; rintro b2 a w F S
 refine wpList_nil ?_
 refine then_n ?_
 refine wp_seq ?_
 refine wp_seq ?_
 refine wp_region_lit ?_
 refine wE (ev_loadA tu46 rfl (cs := [vt_1]) ts46 rfl (box_ptr (cells := [vt_1]) 1 rfl 0 rfl (lb rfl))) F S rfl fun a F=>?_
 obtain ⟨y1, hy1, hm⟩ := bind_some hm
 refine wl_call0 (wn rfl) rfl F rfl (treepatch_Validate_ok (fr := (fl [[bx b2 #[.i6 0, .i6 0] 25], [bx b1 #[vt_1] 46]] fr)) t_ vt_1 ht_1 S hy1) rfl tc43 rfl rfl ?_; clear F a S
 rintro _ a w ⟨g1, l1, S, rfl⟩ F; replace S : St g1 [[bx b2 #[.i6 0, .i6 0] 25], [bx b1 #[vt_1] 46]] fr w := S
 refine wl_alloc (wn rfl) rfl tz25 (cs := [.i6 0, .i6 0]) rfl F S rfl rfl ?_; clear F a S; rintro b3 a w F S
 refine wl_storeC (wn rfl) rfl F S rfl rfl (vs := [.i6 y1.Code, .i6 y1.Index]) rfl ts25 (one_cons rfl (one_cons rfl one_nil)) (k := 0) rfl (lb rfl) (c' := #[.i6 y1.Code, .i6 y1.Index]) rfl rfl ?_; clear S; intro w S
 refine wpList_nil ?_
 refine then_n ?_
 refine wp_seq ?_
 refine wp_region_lit ?_
 refine wE (ev_loadA tu25 rfl (cs := [.i6 y1.Code, .i6 y1.Index]) ts25 rfl (box_ptr (cells := [.i6 y1.Code, .i6 y1.Index]) 0 rfl 0 rfl (lb rfl))) F S rfl fun a F=>?_
 refine wE (ev_build (parts := []) (vs := []) rfl (fun w => tb25_  w)) F S rfl fun a F=>?_
 refine wE (ev_neS tu25 tqa25 tqb25 tqc25 (xs := [.i6 y1.Code, .i6 y1.Index]) (ys := [.i6 0, .i6 0]) rfl rfl ⟨_, _, rfl, by decide, ⟨_, _, rfl, rfl, leaf_int tu3⟩, ⟨_, _, rfl, by decide, ⟨_, _, rfl, rfl, leaf_int tu3⟩, rfl⟩⟩) F S rfl fun a F=>?_
 refine wpList_nil ?_
 refine then_n ?_
 obtain ⟨hc1, hm⟩ | ⟨hc1, hm⟩ := ite_or hm
 ·refine wp_condT F rfl hc1 ?_
  refine wp_seq ?_
  refine wp_region_lit ?_
  refine wE (ev_fieldAddr' tu25 tf25_0 (z := 0) ts3 rfl ⟨_, rfl⟩ rfl) F S rfl fun a F=>?_
  refine wE (ev_load1 tu3 rfl rfl (box_ptr (cells := [.i6 y1.Code]) 0 rfl 0 rfl (lb rfl))) F S rfl fun a F=>?_
  refine wE (ev_move rfl) F S rfl fun a F=>?_
  refine wE (ev_build (parts := [(0, .tmp 12), (1, .tmp 13)]) (vs := [(0, .i6 y1.Code), (1, .i6 index)]) rfl (fun w => tb25_0_1 y1.Code index w)) F S rfl fun a F=>?_
  refine wl_storeC (wn rfl) rfl F S rfl rfl (vs := [.i6 y1.Code, .i6 index]) rfl ts25 (one_cons rfl (one_cons rfl one_nil)) (k := 1) rfl (lb rfl) (c' := #[.i6 y1.Code, .i6 index]) rfl rfl ?_; clear S; intro w S
  refine wpList_nil ?_
  refine then_n ?_
  refine wp_ret ?_
  refine then_r ?_
  obtain rfl := sinj hm
  refine post_r _ F rfl (ar_cons (resA rfl tu25 rfl (box_ptr (cells := [.i6 y1.Code, .i6 index]) 1 rfl 0 rfl (lb rfl) w S) ts25) ar_nil) ?_
  replace S : St g1 [] fr w := St.tail [] _ S
  exact ⟨_, rfl, g1, l1, S, rfl⟩
 ·refine wp_condF F rfl hc1 ?_
  refine wp_skip ?_
  refine then_n ?_
  refine wp_seq ?_
  refine wp_region_lit ?_
  refine wE (ev_build (parts := []) (vs := []) rfl (fun w => tb25_  w)) F S rfl fun a F=>?_
  refine wl_storeC (wn rfl) rfl F S rfl rfl (vs := [.i6 0, .i6 0]) rfl ts25 (one_cons rfl (one_cons rfl one_nil)) (k := 1) rfl (lb rfl) (c' := #[.i6 0, .i6 0]) rfl rfl ?_; clear S; intro w S
  refine wpList_nil ?_
  refine then_n ?_
  refine wp_ret ?_
  obtain rfl := sinj hm
  refine post_r _ F rfl (ar_cons (resA rfl tu25 rfl (box_ptr (cells := [.i6 0, .i6 0]) 1 rfl 0 rfl (lb rfl) w S) ts25) ar_nil) ?_
  replace S : St g1 [] fr w := St.tail [] _ S
  exact ⟨_, rfl, g1, l1, S, rfl⟩

theorem slices_Clone_ok {g : Gh} {fr : Hl} {w : World} {r : (List ByteArray)} (s_ : (List ByteArray)) (vs_1 : Value) (hs_1 : RepSl g s_ vs_1) (S : St g [] fr w) (hm : slices_Clone s_ = some r) :
  Calls Tryd.prog 44 [vs_1].toArray w (fun en w' => ∃ v, en = .returned v ∧ ∃ (g' : Gh) (v1 : Value) (c1 : Hl), Le g g' ∧ St g' [c1] fr w' ∧ OwnS g' r v1 c1 ∧ v1 = v) := by
 unfold slices_Clone at hm
 refine calls_enter (fn := Tryd.f44) Tryd.func44 rfl Tryd.ntmps44 (lb rfl) ?_
 intro a F
 replace F : Fr 8 a [(0, vs_1)] := F
 refine wp_seq ?_
 refine wp_region_lit ?_
 refine wE (ev_assign rfl) F S rfl fun a F=>?_
 refine wpList_nil ?_
 refine then_n ?_
 refine wp_seq ?_
 refine wp_seq ?_
 refine wp_region_lit ?_
 refine wE (ev_move rfl) F S rfl fun a F=>?_
 obtain ⟨nb1, hnb1, he1⟩ := ev_nileqlS (P := Tryd.prog) (n := 8) (e := [(3, vs_1), (2, nilS), (0, vs_1)]) (C := fun w => St g [] fr w) (x := .tmp 3) (y := .const (nilS)) hs_1 tu22 rfl rfl
 refine wE he1 F S rfl fun a F=>?_
 refine wpList_nil ?_
 refine then_n ?_
 obtain ⟨hc1, hm⟩ | ⟨hc1, hm⟩ := nil_or hnb1 hm
 ·refine wp_condT F rfl hc1 ?_
  refine wp_seq ?_
  refine wp_region_lit ?_
  refine wE (ev_assign rfl) F S rfl fun a F=>?_
  refine wpList_nil ?_
  refine then_n ?_
  refine wp_ret ?_
  refine then_r ?_
  obtain rfl := sinj hm
  replace S : St g [[]] fr w := S
  refine post_r _ F rfl (ar_cons (resT rfl) ar_nil) ?_
  exact ⟨_, rfl, g, (nilS), [], (Le.refl _), S, (OwnS.nil _), rfl⟩
 ·refine wp_condF F rfl hc1 ?_
  refine wp_skip ?_
  refine then_n ?_
  refine wp_seq ?_
  refine wp_region_lit ?_
  refine wl_lit (l := ([] : List ByteArray)) (vs := []) (parts := []) (wn rfl) rfl rfl rfl tu22 te9 sz_nil rfl (Cat.nil _) coa_nil rfl F S rfl rfl ?_; clear F a S
  rintro v1 c1 a w h1 F S
  refine wE (ev_move rfl) F S rfl fun a F=>?_
  obtain ⟨cs1, hk1, hr1⟩ := RepSl.reads hs_1
  obtain ⟨y1, hy1, hm⟩ := bind_some hm
  refine wl_append (wn rfl) rfl tu22 tu22 te9 (by decide) (by decide) F S rfl rfl (k := 0) rfl h1 hk1 rfl (hr1 _ _ S) hy1 rfl rfl ?_; clear F a S
  rintro v2 c2 a w h2 S F; replace S : St g [c2] fr w := S
  refine wE (ev_assign rfl) F S rfl fun a F=>?_
  refine wpList_nil ?_
  refine then_n ?_
  refine wp_ret ?_
  obtain rfl := sinj hm
  refine post_r _ F rfl (ar_cons (resT rfl) ar_nil) ?_
  exact ⟨_, rfl, g, v2, c2, (Le.refl _), S, h2, rfl⟩

theorem treepatch_CopyTree_ok {g : Gh} {fr : Hl} {w : World} {r : FileTree} (t_ : FileTree) (vt_1 : Value) (ht_1 : RepSl g t_.Files vt_1) (S : St g [] fr w) (hm : treepatch_CopyTree t_ = some r) :
  Calls Tryd.prog 30 [.agg #[vt_1]].toArray w (fun en w' => ∃ v, en = .returned v ∧ ∃ (g' : Gh) (v1 : Value) (c1 : Hl), Le g g' ∧ St g' [c1] fr w' ∧ OwnS g' r.Files v1 c1 ∧ .agg #[v1] = v) := by
 unfold treepatch_CopyTree at hm
 refine calls_enter (fn := Tryd.f30) Tryd.func30 rfl Tryd.ntmps30 (lb rfl) ?_
 intro a F
 replace F : Fr 26 a [(0, .agg #[vt_1])] := F
 refine wp_seq ?_
 refine wp_region_lit ?_
 refine wl_boxC (wn rfl) rfl rfl rfl F S rfl rfl ?_; clear F a S; rintro b1 a w F S
 refine wl_alloc (wn rfl) rfl tz46 (cs := [nilS]) rfl F S rfl rfl ?_; clear F a S; rintro b2 a w F S
 refine wpList_nil ?_
 refine then_n ?_
 refine wp_seq ?_
 refine wp_region_lit ?_
 refine wl_alloc (wn rfl) rfl tz46 (cs := [nilS]) rfl F S rfl rfl ?_; clear F a S; rintro b3 a w F S
 refine wpList_nil ?_
 refine then_n ?_
 refine wp_cut (fun a w => ∃ (x1 : List File) (v1 : Value) (c1 : Hl) (g1 : Gh), Fr 26 a [(3, bp b3 0), (2, bp b2 0)] ∧ Le g g1 ∧ St g1 [[bx b3 #[v1] 46], [bx b2 #[nilS] 46], c1] fr w ∧ OwnS g1 x1 v1 c1 ∧ treepatch_CopyTree.j1 x1 = some r) ?_ ?_
 ·refine wp_seq ?_
  refine wp_region_lit ?_
  refine wE (ev_fieldAddr' tu46 tf46_0 (z := 0) ts44 rfl ⟨_, rfl⟩ rfl) F S rfl fun a F=>?_
  refine wE (ev_load1 tu44 rfl rfl (box_ptr (cells := [vt_1]) 2 rfl 0 rfl (lb rfl))) F S rfl fun a F=>?_
  refine wE (ev_lenSh ht_1 rfl tu44) F S rfl fun a F=>?_
  refine wE (ev_move rfl) F S rfl fun a F=>?_
  refine wpList_nil ?_
  refine then_n ?_
  refine wp_block ?_
  obtain ⟨r1, hr1, hm⟩ := bind_some hm
  have hmo1 := hm; clear hm
  refine wp_iter (σ := Int × (List File)) (ρ := (List File)) (m := fun s => treepatch_CopyTree.l1 t_ s.1 s.2) (I := fun s a w => match s with | (x2, x3) => ∃ (v2 : Value) (c2 : Hl) (g2 : Gh), Fr 26 a [(9, .i6 x2), (8, .i6 (t_.Files.length : Int)), (7, vt_1), (3, bp b3 0), (2, bp b2 0)] ∧ Le g g2 ∧ St g2 [[bx b3 #[v2] 46], [bx b2 #[nilS] 46], c2] fr w ∧ OwnS g2 x3 v2 c2) hr1 ?_ ?_
  ·dsimp only
   replace S : St g [[], [bx b3 #[nilS] 46], [bx b2 #[nilS] 46], [bx b1 #[vt_1] 46]] fr w := S
   replace S : St g [[bx b3 #[nilS] 46], [bx b2 #[nilS] 46], []] fr w := St.tail [[bx b3 #[nilS] 46], [bx b2 #[nilS] 46], []] _ (((S.frontC 0 rfl).frontC 3 rfl).frontC 3 rfl)
   exact ⟨(nilS), [], g, F.sub ⟨rfl, rfl, rfl, rfl, rfl, trivial⟩, (Le.refl _), S, (OwnS.nil _)⟩
  ·clear F S; rintro ⟨x2, x3⟩ a w x4 ⟨v2, c2, g2, F, l2, S, h2⟩ hx1 hfin1
   have hm : treepatch_CopyTree.l1 t_ x2 x3 = some x4 := hx1; clear hx1
   unfold treepatch_CopyTree.l1 at hm
   refine wp_seq ?_
   refine wp_region_lit ?_
   refine wE (ev_int rfl rfl (bo_lss _ _ _ _)) F S rfl fun a F=>?_
   refine wpList_nil ?_
   refine then_n ?_
   refine wp_seq ?_
   obtain ⟨hc1, hm⟩ | ⟨hc1, hm⟩ := ite_or hm
   ·refine wp_condT F rfl hc1 ?_
    refine wp_skip ?_
    refine then_n ?_
    refine wp_seq ?_
    refine wp_block ?_
    refine wp_seq ?_
    refine wp_region_lit ?_
    obtain ⟨y1, hy1, hm⟩ := bind_some hm
    obtain ⟨cs1, hr2, hp1⟩ := elemS (ht_1.mono l2) hy1
    obtain ⟨v3, rfl, h3⟩ := rep_File hr2
    refine wE (ev_idxS (ht_1.mono l2) hy1 tu44 ts54 rfl rfl) F S rfl fun a F=>?_
    refine wE (ev_loadA tu54 rfl (cs := [.string y1.Path, v3]) ts54 rfl (ptr_mono (cks := [[bx b3 #[v2] 46], [bx b2 #[nilS] 46], c2]) (fr := fr) hp1 (Le.refl _))) F S rfl fun a F=>?_
    refine wl_alloc (wn rfl) rfl tz54 (cs := [.string ByteArray.empty, nilS]) rfl F S rfl rfl ?_; clear F a S; rintro b4 a w F S
    refine wl_storeC (wn rfl) rfl F S rfl rfl (vs := [.string y1.Path, v3]) rfl ts54 (one_cons rfl (one_cons h3.one one_nil)) (k := 0) rfl (lb rfl) (c' := #[.string y1.Path, v3]) rfl rfl ?_; clear S; intro w S
    refine wpList_nil ?_
    refine then_n ?_
    refine wp_dv [] mo S ?_; clear S; intro ok1 w S
    refine dv_et ok1 0 rfl (ev_fieldAddr' tu46 tf46_0 (z := 0) ts44 rfl ⟨_, rfl⟩ rfl) F rfl fun a F=>?_
    refine dv_ev ok1 1 rfl (ev_load1 tu44 rfl rfl (box_ptr (cells := [v2]) 1 rfl 0 rfl (lb rfl))) F S rfl fun a F=>?_
    refine dv_et ok1 2 rfl (ev_fieldAddr' tu54 tf54_0 (z := 0) ts9 rfl ⟨_, rfl⟩ rfl) F rfl fun a F=>?_
    refine dv_ev ok1 3 rfl (ev_load1 tu9 rfl rfl (box_ptr (cells := [.string y1.Path]) 0 rfl 0 rfl (lb rfl))) F S rfl fun a F=>?_
    refine dv_et ok1 4 rfl (ev_fieldAddr' tu54 tf54_1 (z := 0) ts22 rfl ⟨_, rfl⟩ rfl) F rfl fun a F=>?_
    refine dv_ev ok1 5 rfl (ev_load1 tu22 rfl rfl (box_ptr (cells := [v3]) 0 rfl 1 rfl (lb rfl))) F S rfl fun a F=>?_
    refine dv_op ok1 6 rfl [(3, .string y1.Path), (1, v2)] ?_
    obtain ⟨y2, hy2, hm⟩ := bind_some hm
    refine wl_call0 (wn rfl) rfl F rfl (slices_Clone_ok (fr := (fl [[bx b4 #[.string y1.Path, v3] 54], [bx b3 #[v2] 46], [bx b2 #[nilS] 46], c2] fr)) y1.Lines v3 h3 S hy2) rfl tc44 rfl rfl ?_; clear F a S
    rintro _ a w ⟨g3, v4, c3, l3, S, h4, rfl⟩ F; replace S : St g3 [c3, [bx b4 #[.string y1.Path, v3] 54], [bx b3 #[v2] 46], [bx b2 #[nilS] 46], c2] fr w := S
    refine dv_nx ⟨yl_ev rfl rfl (ev_load1 tu9 rfl rfl (box_ptr (cells := [.string y1.Path]) 1 rfl 0 rfl (lb rfl))) F S, yl_ev rfl rfl (ev_load1 tu44 rfl rfl (box_ptr (cells := [v2]) 2 rfl 0 rfl (lb rfl))) F S, trivial⟩ ?_
    refine dv_et ok1 7 rfl (ev_build (parts := [(0, .tmp 16), (1, .tmp 19)]) (vs := [(0, .string y1.Path), (1, v4)]) rfl (fun w => tb54_0_1 y1.Path v4 (OwnS.isSl h4) w)) F rfl fun a F=>?_
    refine dv_op ok1 8 rfl [(1, v2)] ?_
    obtain ⟨g4, l4, S, h5⟩ : ∃ gz, Le g3 gz ∧ St gz [[bx b4 #[.string y1.Path, v3] 54], [bx b3 #[v2] 46], [bx b2 #[nilS] 46], c2] fr w ∧ RepSl gz y2 v4 := ⟨_, Le.add _ _, S.freeze 0 rfl, OwnS.freeze (S.front 0 rfl) h4⟩
    refine wl_lit (l := ([({ Path := y1.Path, Lines := y2 } : File)] : List File)) (vs := [.agg #[.string y1.Path, v4]]) (parts := [(0, .tmp 20)]) (wn rfl) rfl rfl rfl tu44 te54 (sz_cons rfl sz_nil) rfl (Cat.cons (rep_File_mk (x := ({ Path := y1.Path, Lines := y2 } : File)) h5) (Cat.nil _)) (coa_cons rfl coa_nil) rfl F S rfl rfl ?_; clear F a S
    rintro v5 c4 a w h6 F S
    refine dv_nx ⟨yl_ev rfl rfl (ev_load1 tu44 rfl rfl (box_ptr (cells := [v2]) 2 rfl 0 rfl (lb rfl))) F S, trivial⟩ ?_
    refine dv_op ok1 9 rfl [] ?_
    obtain ⟨cs2, hk1, hr3⟩ := OwnS.reads h6
    obtain ⟨y3, hy3, hm⟩ := bind_some hm
    refine wl_append (wn rfl) rfl tu44 tu44 te54 (by decide) (by decide) F S rfl rfl (k := 4) rfl (h2.mono (l3.trans l4)) hk1 rfl (hr3 _ _ _ 0 rfl S) hy3 rfl rfl ?_; clear F a S
    rintro v6 c5 a w h7 S F; replace S : St g4 [c4, [bx b4 #[.string y1.Path, v3] 54], [bx b3 #[v2] 46], [bx b2 #[nilS] 46], c5] fr w := S
    refine dv_nx trivial ?_
    refine dv_et ok1 10 rfl (ev_fieldAddr' tu46 tf46_0 (z := 0) ts44 rfl ⟨_, rfl⟩ rfl) F rfl fun a F=>?_
    refine dv_op ok1 11 rfl [] ?_
    refine wl_storeC (wn rfl) rfl F S rfl rfl (vs := [v6]) (OwnS.cl h7) ts44 (one_cons (OwnS.one h7) one_nil) (k := 2) rfl (lb rfl) (c' := #[v6]) rfl rfl ?_; clear S; intro w S
    refine dv_nx trivial ?_
    refine dv_fin ok1 ?_
    refine inb_n ?_
    refine then_n ?_
    refine wp_region_lit ?_
    obtain ⟨z1, hz1, hm⟩ := bind_some hm
    refine wE (ev_int rfl rfl (bo_add hz1)) F S rfl fun a F=>?_
    refine wE (ev_move rfl) F S rfl fun a F=>?_
    refine wpList_nil ?_
    refine then_n ?_
    obtain rfl := sinj hm
    refine ⟨_, rfl, ?_⟩
    dsimp only
    replace S : St g4 [[bx b3 #[v6] 46], [bx b2 #[nilS] 46], c5] fr w := St.tail [[bx b3 #[v6] 46], [bx b2 #[nilS] 46], c5] _ (((S.frontC 4 rfl).frontC 4 rfl).frontC 4 rfl)
    exact ⟨v6, c5, g4, F.sub ⟨rfl, rfl, rfl, rfl, rfl, trivial⟩, ((l2.trans l3).trans l4), S, h7⟩
   ·refine wp_condF F rfl hc1 ?_
    refine wp_exit ?_
    refine then_e ?_
    refine then_e ?_
    refine inb_x ?_
    refine then_n ?_
    obtain rfl := sinj hm
    obtain rfl := hfin1 _ rfl
    clear hm
    have hm : (treepatch_CopyTree.j1 x3 : Option FileTree) = some _ := hmo1
    exact ⟨x3, v2, c2, g2, F.sub ⟨rfl, rfl, trivial⟩, l2, S, h2, hm⟩
 ·clear F S hm; rintro a w ⟨x1, v1, c1, g1, F, l1, S, h1, hm⟩
  refine wp_seq ?_
  refine wp_region_lit ?_
  refine wE (ev_loadA tu46 rfl (cs := [v1]) ts46 rfl (box_ptr (cells := [v1]) 0 rfl 0 rfl (lb rfl))) F S rfl fun a F=>?_
  refine wl_storeC (wn rfl) rfl F S rfl rfl (vs := [v1]) rfl ts46 (one_cons (OwnS.one h1) one_nil) (k := 1) rfl (lb rfl) (c' := #[v1]) rfl rfl ?_; clear S; intro w S
  refine wpList_nil ?_
  refine then_n ?_
  refine wp_ret ?_
  obtain rfl := sinj hm
  refine post_r _ F rfl (ar_cons (resA rfl tu46 rfl (box_ptr (cells := [v1]) 1 rfl 0 rfl (lb rfl) w S) ts46) ar_nil) ?_
  replace S : St g1 [c1] fr w := St.tail [c1] _ (S.frontC 2 rfl)
  exact ⟨_, rfl, g1, v1, c1, l1, S, h1, rfl⟩

theorem bytealg_CompareString_ok {g : Gh} {fr : Hl} {w : World} {r : Int} (a_ : ByteArray) (b_ : ByteArray) (S : St g [] fr w) (hm : bytealg_CompareString a_ b_ = some r) :
  Calls Tryd.prog 76 [.string a_, .string b_].toArray w (fun en w' => ∃ v, en = .returned v ∧ ∃ (g' : Gh), Le g g' ∧ St g' [] fr w' ∧ .i6 r = v) := by
 unfold bytealg_CompareString at hm
 refine calls_enter (fn := Tryd.f76) Tryd.func76 rfl Tryd.ntmps76 (lb rfl) ?_
 intro a F
 replace F : Fr 8 a [(0, .string a_), (1, .string b_)] := F
 refine wp_seq ?_
 refine wp_region_lit ?_
 refine wE (ev_assign rfl) F S rfl fun a F=>?_
 refine wpList_nil ?_
 refine then_n ?_
 refine wp_seq ?_
 refine wp_region_lit ?_
 refine wE (ev_move rfl) F S rfl fun a F=>?_
 refine wE (ev_move rfl) F S rfl fun a F=>?_
 refine wE (ev_callx (xs := [.tmp 5, .tmp 6]) (vs := [.string a_, .string b_]) rfl rfl (fun w => tx82 a_ b_ w)) F S rfl fun a F=>?_
 refine wE (ev_assign rfl) F S rfl fun a F=>?_
 refine wpList_nil ?_
 refine then_n ?_
 refine wp_ret ?_
 obtain rfl := sinj hm
 refine post_r _ F rfl (ar_cons (resT rfl) ar_nil) ?_
 exact ⟨_, rfl, g, (Le.refl _), S, rfl⟩

theorem strings_Compare_ok {g : Gh} {fr : Hl} {w : World} {r : Int} (a_ : ByteArray) (b_ : ByteArray) (S : St g [] fr w) (hm : strings_Compare a_ b_ = some r) :
  Calls Tryd.prog 66 [.string a_, .string b_].toArray w (fun en w' => ∃ v, en = .returned v ∧ ∃ (g' : Gh), Le g g' ∧ St g' [] fr w' ∧ .i6 r = v) := by
 unfold strings_Compare at hm
 refine calls_enter (fn := Tryd.f66) Tryd.func66 rfl Tryd.ntmps66 (lb rfl) ?_
 intro a F
 replace F : Fr 8 a [(0, .string a_), (1, .string b_)] := F
 refine wp_seq ?_
 refine wp_region_lit ?_
 refine wE (ev_assign rfl) F S rfl fun a F=>?_
 refine wpList_nil ?_
 refine then_n ?_
 refine wp_seq ?_
 refine wp_region_lit ?_
 refine wE (ev_move rfl) F S rfl fun a F=>?_
 refine wE (ev_move rfl) F S rfl fun a F=>?_
 obtain ⟨y1, hy1, hm⟩ := bind_some hm
 refine wl_call0 (wn rfl) rfl F rfl (bytealg_CompareString_ok a_ b_ S hy1) rfl tc76 rfl rfl ?_; clear F a S
 rintro _ a w ⟨g1, l1, S, rfl⟩ F; replace S : St g1 [] fr w := S
 refine wE (ev_assign rfl) F S rfl fun a F=>?_
 refine wpList_nil ?_
 refine then_n ?_
 refine wp_ret ?_
 obtain rfl := sinj hm
 refine post_r _ F rfl (ar_cons (resT rfl) ar_nil) ?_
 exact ⟨_, rfl, g1, l1, S, rfl⟩

theorem treepatch_Find_s1_ok {g : Gh} {fr : Hl} {w : World} {r : Int} (f : File) (vf1 : Value) (hf1 : RepSl g f.Lines vf1) (path : ByteArray) (S : St g [] fr w) (hm : treepatch_Find_s1 f path = some r) :
  Calls Tryd.prog 65 [.agg #[.string f.Path, vf1], .string path].toArray w (fun en w' => ∃ v, en = .returned v ∧ ∃ (g' : Gh), Le g g' ∧ St g' [] fr w' ∧ .i6 r = v) := by
 unfold treepatch_Find_s1 at hm
 refine calls_enter (fn := Tryd.f65) Tryd.func65 rfl Tryd.ntmps65 (lb rfl) ?_
 intro a F
 replace F : Fr 9 a [(0, .agg #[.string f.Path, vf1]), (1, .string path)] := F
 refine wp_seq ?_
 refine wp_region_lit ?_
 refine wl_boxC (wn rfl) rfl rfl rfl F S rfl rfl ?_; clear F a S; rintro b1 a w F S
 refine wE (ev_assign rfl) F S rfl fun a F=>?_
 refine wpList_nil ?_
 refine then_n ?_
 refine wp_seq ?_
 refine wp_region_lit ?_
 refine wE (ev_fieldAddr' tu54 tf54_0 (z := 0) ts9 rfl ⟨_, rfl⟩ rfl) F S rfl fun a F=>?_
 refine wE (ev_load1 tu9 rfl rfl (box_ptr (cells := [.string f.Path]) 0 rfl 0 rfl (lb rfl))) F S rfl fun a F=>?_
 refine wE (ev_move rfl) F S rfl fun a F=>?_
 obtain ⟨y1, hy1, hm⟩ := bind_some hm
 refine wl_call0 (wn rfl) rfl F rfl (strings_Compare_ok (fr := (fl [[bx b1 #[.string f.Path, vf1] 54]] fr)) f.Path path S hy1) rfl tc66 rfl rfl ?_; clear F a S
 rintro _ a w ⟨g1, l1, S, rfl⟩ F; replace S : St g1 [[bx b1 #[.string f.Path, vf1] 54]] fr w := S
 refine wE (ev_assign rfl) F S rfl fun a F=>?_
 refine wpList_nil ?_
 refine then_n ?_
 refine wp_ret ?_
 obtain rfl := sinj hm
 refine post_r _ F rfl (ar_cons (resT rfl) ar_nil) ?_
 replace S : St g1 [] fr w := St.tail [] _ S
 exact ⟨_, rfl, g1, l1, S, rfl⟩

theorem treepatch_Find_okb {g : Gh} {fr : Hl} {w : World} {r : Int × Bool} (files : (List File)) (vfiles1 : Value) (cfiles1 : Hl) (hfiles1 : OwnS g files vfiles1 cfiles1) (path : ByteArray) (S : St g [cfiles1] fr w) (hm : treepatch_Find files path = some r) :
  Calls Tryd.prog 45 [vfiles1, .string path].toArray w (fun en w' => ∃ v, en = .returned v ∧ ∃ (g' : Gh), Le g g' ∧ St g' [cfiles1] fr w' ∧ .tuple #[.i6 r.1, .bool r.2] = v) := by
 unfold treepatch_Find at hm
 refine calls_enter (fn := Tryd.f45) Tryd.func45 rfl Tryd.ntmps45 (lb rfl) ?_
 intro a F
 replace F : Fr 11 a [(0, vfiles1), (1, .string path)] := F
 refine wp_seq ?_
 refine wp_region_lit ?_
 refine wE (ev_assign rfl) F S rfl fun a F=>?_
 refine wE (ev_assign rfl) F S rfl fun a F=>?_
 refine wpList_nil ?_
 refine then_n ?_
 refine wp_seq ?_
 refine wp_region_lit ?_
 refine wE (ev_move rfl) F S rfl fun a F=>?_
 refine wE (ev_move rfl) F S rfl fun a F=>?_
 replace F := F.sub (e' := [(7, .string path), (6, vfiles1)]) ⟨rfl, rfl, trivial⟩
 refine wl_callK (wn rfl) rfl (xs := [.tmp 6, .tmp 7, .func 65]) (vs := [vfiles1, .string path, .func (.func 65) #[] #[]]) (cap := []) (e' := []) trivial F rfl rfl tc64 rfl rfl (calls_enter (fn := Tryd.f64) Tryd.func64 rfl Tryd.ntmps64 (lb rfl) ?_); clear F a; intro a F
 replace F : Fr 49 a [(0, vfiles1), (1, .string path), (2, .func (.func 65) #[] #[])] := F
 refine wp_seq ?_
 refine wp_region_lit ?_
 refine wE (ev_assign rfl) F S rfl fun a F=>?_
 refine wE (ev_assign rfl) F S rfl fun a F=>?_
 refine wpList_nil ?_
 refine then_n ?_
 refine wp_seq ?_
 refine wp_region_lit ?_
 refine wE (ev_move rfl) F S rfl fun a F=>?_
 refine wE (ev_lenOw hfiles1 rfl tu44) F S rfl fun a F=>?_
 refine wE (ev_assign rfl) F S rfl fun a F=>?_
 refine wpList_nil ?_
 refine then_n ?_
 refine wp_seq ?_
 refine wp_region_lit ?_
 refine wE (ev_move rfl) F S rfl fun a F=>?_
 refine wE (ev_assign rfl) F S rfl fun a F=>?_
 refine wE (ev_assign rfl) F S rfl fun a F=>?_
 refine wpList_nil ?_
 refine then_n ?_
 refine wp_cut (fun a w => ∃ (x1 : Int) (g1 : Gh), Fr 49 a [(9, .i6 x1), (8, .i6 (files.length : Int)), (0, vfiles1), (1, .string path), (2, .func (.func 65) #[] #[])] ∧ Le g g1 ∧ St g1 [cfiles1] fr w ∧ treepatch_Find.j1 files path x1 = some r) ?_ ?_
 ·refine wp_block ?_
  obtain ⟨r1, hr2, hm⟩ := bind_some hm
  have hmo1 := hm; clear hm
  refine wp_iter (σ := Int × Int) (ρ := Int) (m := fun s => treepatch_Find.l1 files path s.1 s.2) (I := fun s a w => match s with | (x3, x4) => ∃ (g4 : Gh), Fr 49 a [(10, .i6 x3), (9, .i6 x4), (8, .i6 (files.length : Int)), (0, vfiles1), (1, .string path), (2, .func (.func 65) #[] #[])] ∧ Le g g4 ∧ St g4 [cfiles1] fr w) hr2 ?_ ?_
  ·dsimp only
   exact ⟨g, F.sub ⟨rfl, rfl, rfl, rfl, rfl, rfl, trivial⟩, (Le.refl _), S⟩
  ·clear F S; rintro ⟨x3, x4⟩ a w x5 ⟨g4, F, l4, S⟩ hx2 hfin1
   have hm : treepatch_Find.l1 files path x3 x4 = some x5 := hx2; clear hx2
   unfold treepatch_Find.l1 at hm
   refine wp_seq ?_
   refine wp_seq ?_
   refine wp_region_lit ?_
   refine wE (ev_move rfl) F S rfl fun a F=>?_
   refine wE (ev_move rfl) F S rfl fun a F=>?_
   refine wE (ev_int rfl rfl (bo_lss _ _ _ _)) F S rfl fun a F=>?_
   refine wpList_nil ?_
   refine then_n ?_
   obtain ⟨hc2, hm⟩ | ⟨hc2, hm⟩ := ite_or hm
   ·refine wp_condT F rfl hc2 ?_
    refine wp_skip ?_
    refine then_n ?_
    refine wp_block ?_
    refine wp_seq ?_
    refine wp_region_lit ?_
    refine wE (ev_move rfl) F S rfl fun a F=>?_
    refine wE (ev_move rfl) F S rfl fun a F=>?_
    obtain ⟨z1, hz1, hm⟩ := bind_some hm
    refine wE (ev_int rfl rfl (bo_add hz1)) F S rfl fun a F=>?_
    obtain ⟨z2, hz2, hm⟩ := bind_some hm
    refine wE (ev_conv hz2 tu3 tu83 rfl) F S rfl fun a F=>?_
    obtain ⟨z3, hz3, hm⟩ := bind_some hm
    refine wE (ev_shr hz3 rfl rfl) F S rfl fun a F=>?_
    obtain ⟨z4, hz4, hm⟩ := bind_some hm
    refine wE (ev_conv hz4 tu83 tu3 rfl) F S rfl fun a F=>?_
    refine wE (ev_assign rfl) F S rfl fun a F=>?_
    refine wpList_nil ?_
    refine then_n ?_
    refine wp_seq ?_
    refine wp_region_lit ?_
    refine wE (ev_move rfl) F S rfl fun a F=>?_
    refine wE (ev_move rfl) F S rfl fun a F=>?_
    refine wE (ev_move rfl) F S rfl fun a F=>?_
    obtain ⟨y3, hy3, hm⟩ := bind_some hm
    refine wE (ev_idxO (hfiles1.mono l4) hy3 tu44 ts54 rfl rfl) F S rfl fun a F=>?_
    obtain ⟨cs2, hr3, hq2⟩ := elemO (hfiles1.mono l4) hy3
    obtain ⟨v2, rfl, h2⟩ := rep_File hr3
    refine wE (ev_loadA tu54 rfl (cs := [.string y3.Path, v2]) ts54 rfl (hq2 _ _ 0 rfl)) F S rfl fun a F=>?_
    refine wE (ev_move rfl) F S rfl fun a F=>?_
    obtain ⟨y4, hy4, hm⟩ := bind_some hm
    refine wl_call0 (wn rfl) rfl F rfl (treepatch_Find_s1_ok (fr := (fl [cfiles1] fr)) y3 v2 h2 path S hy4) rfl tc65 rfl rfl ?_; clear F a S
    rintro _ a w ⟨g5, l5, S, rfl⟩ F; replace S : St g5 [cfiles1] fr w := S
    refine wE (ev_int rfl rfl (bo_lss _ _ _ _)) F S rfl fun a F=>?_
    refine wpList_nil ?_
    refine then_n ?_
    obtain ⟨hc3, hm⟩ | ⟨hc3, hm⟩ := ite_or hm
    ·refine wp_condT F rfl hc3 ?_
     refine wp_region_lit ?_
     refine wE (ev_move rfl) F S rfl fun a F=>?_
     obtain ⟨z5, hz5, hm⟩ := bind_some hm
     refine wE (ev_int rfl rfl (bo_add hz5)) F S rfl fun a F=>?_
     refine wE (ev_assign rfl) F S rfl fun a F=>?_
     refine wpList_nil ?_
     refine inb_n ?_
     refine then_n ?_
     obtain rfl := sinj hm
     refine ⟨_, rfl, ?_⟩
     dsimp only
     exact ⟨g5, F.sub ⟨rfl, rfl, rfl, rfl, rfl, rfl, trivial⟩, (l4.trans l5), S⟩
    ·refine wp_condF F rfl hc3 ?_
     refine wp_region_lit ?_
     refine wE (ev_move rfl) F S rfl fun a F=>?_
     refine wE (ev_assign rfl) F S rfl fun a F=>?_
     refine wpList_nil ?_
     refine inb_n ?_
     refine then_n ?_
     obtain rfl := sinj hm
     refine ⟨_, rfl, ?_⟩
     dsimp only
     exact ⟨g5, F.sub ⟨rfl, rfl, rfl, rfl, rfl, rfl, trivial⟩, (l4.trans l5), S⟩
   ·refine wp_condF F rfl hc2 ?_
    refine wp_exit ?_
    refine then_e ?_
    refine then_e ?_
    refine inb_x ?_
    refine then_n ?_
    obtain rfl := sinj hm
    obtain rfl := hfin1 _ rfl
    clear hm
    have hm : (treepatch_Find.j1 files path x4 : Option (Int × Bool)) = some _ := hmo1
    exact ⟨x4, g4, F.sub ⟨rfl, rfl, rfl, rfl, rfl, trivial⟩, l4, S, hm⟩
 ·clear F S hm; rintro a w ⟨x1, g1, F, l1, S, hm⟩
  refine wp_seq ?_
  refine wp_region_lit ?_
  refine wE (ev_move rfl) F S rfl fun a F=>?_
  refine wE (ev_move rfl) F S rfl fun a F=>?_
  refine wE (ev_move rfl) F S rfl fun a F=>?_
  refine wE (ev_int rfl rfl (bo_lss _ _ _ _)) F S rfl fun a F=>?_
  refine wE (ev_move rfl) F S rfl fun a F=>?_
  obtain ⟨x2, hx1, hm⟩ := bind_some hm
  refine wl_cut 9 (fun a w => ∃ g2, Fr 49 a [(48, .bool x2), (35, .i6 x1)] ∧ Le g1 g2 ∧ St g2 [cfiles1] fr w) ?_ ?_
  ·clear hm; obtain ⟨hc1, hm⟩ | ⟨hc1, hm⟩ := ite_or hx1
   ·refine wl_ev (wg F rfl rfl rfl rfl hc1) (ev_move rfl) F S rfl rfl ?_; clear F a; intro a F
    refine wl_ev (wg F rfl rfl rfl rfl hc1) (ev_move rfl) F S rfl rfl ?_; clear F a; intro a F
    refine wl_ev (wg F rfl rfl rfl rfl hc1) (ev_move rfl) F S rfl rfl ?_; clear F a; intro a F
    obtain ⟨y1, hy1, hm⟩ := bind_some hm
    refine wl_ev (wg F rfl rfl rfl rfl hc1) (ev_idxO (hfiles1.mono l1) hy1 tu44 ts54 rfl rfl) F S rfl rfl ?_; clear F a; intro a F
    obtain ⟨cs1, hr1, hq1⟩ := elemO (hfiles1.mono l1) hy1
    obtain ⟨v1, rfl, h1⟩ := rep_File hr1
    refine wl_ev (wg F rfl rfl rfl rfl hc1) (ev_loadA tu54 rfl (cs := [.string y1.Path, v1]) ts54 rfl (hq1 _ _ 0 rfl)) F S rfl rfl ?_; clear F a; intro a F
    refine wl_ev (wg F rfl rfl rfl rfl hc1) (ev_move rfl) F S rfl rfl ?_; clear F a; intro a F
    obtain ⟨y2, hy2, hm⟩ := bind_some hm
    refine wl_call0 (wg F rfl rfl rfl rfl hc1) rfl F rfl (treepatch_Find_s1_ok (fr := (fl [cfiles1] fr)) y1 v1 h1 path S hy2) rfl tc65 rfl rfl ?_; clear F a S
    rintro _ a w ⟨g3, l3, S, rfl⟩ F; replace S : St g3 [cfiles1] fr w := S
    refine wl_ev (wg F rfl rfl rfl rfl hc1) (ev_int rfl rfl (bo_eql _ _ _ _)) F S rfl rfl ?_; clear F a; intro a F
    refine wE (ev_pickT rfl hc1 rfl) F S rfl fun a F=>?_
    obtain rfl := sinj hm
    refine wpList_nil (then_n ?_); exact ⟨g3, F.sub ⟨rfl, rfl, trivial⟩, l3, S⟩
   ·refine wl_skip rfl rfl rfl rfl (ne_tf hc1) F rfl rfl ?_; clear F a; intro a F
    refine wl_skip rfl rfl rfl rfl (ne_tf hc1) F rfl rfl ?_; clear F a; intro a F
    refine wl_skip rfl rfl rfl rfl (ne_tf hc1) F rfl rfl ?_; clear F a; intro a F
    refine wl_skip rfl rfl rfl rfl (ne_tf hc1) F rfl rfl ?_; clear F a; intro a F
    refine wl_skip rfl rfl rfl rfl (ne_tf hc1) F rfl rfl ?_; clear F a; intro a F
    refine wl_skip rfl rfl rfl rfl (ne_tf hc1) F rfl rfl ?_; clear F a; intro a F
    refine wl_skip rfl rfl rfl rfl (ne_tf hc1) F rfl rfl ?_; clear F a; intro a F
    refine wl_skip rfl rfl rfl rfl (ne_tf hc1) F rfl rfl ?_; clear F a; intro a F
    refine wE (ev_pickF rfl hc1 rfl) F S rfl fun a F=>?_
    obtain rfl := sinj hm
    refine wpList_nil (then_n ?_); exact ⟨g1, F.sub ⟨rfl, rfl, trivial⟩, (Le.refl _), S⟩
  clear F S; rintro a w ⟨g2, F, l2, S⟩
  refine wE (ev_assign rfl) F S rfl fun a F=>?_
  refine wE (ev_assign rfl) F S rfl fun a F=>?_
  refine wpList_nil ?_
  refine then_n ?_
  refine wp_ret ?_
  refine post_r _ F rfl (ar_cons (resT rfl) (ar_cons (resT rfl) ar_nil)) ?_
  refine ⟨_, rfl, ?_⟩; clear F a; intro a F
  replace F : Fr 11 a [(8, .tuple #[.i6 x1, .bool x2])] := F
  refine wE (ev_extract rfl rfl) F S rfl fun a F=>?_
  refine wE (ev_extract rfl rfl) F S rfl fun a F=>?_
  refine wE (ev_assign rfl) F S rfl fun a F=>?_
  refine wE (ev_assign rfl) F S rfl fun a F=>?_
  refine wpList_nil ?_
  refine then_n ?_
  refine wp_ret ?_
  obtain rfl := sinj hm
  refine post_r _ F rfl (ar_cons (resT rfl) (ar_cons (resT rfl) ar_nil)) ?_
  exact ⟨_, rfl, g2, (l1.trans l2), S, rfl⟩

theorem slices_Insert_54_ok {g : Gh} {fr : Hl} {w : World} {r : List File} (s_ : List File) (vs_1 : Value) (c_1 : Hl) (os_1 : OwnS g s_ vs_1 c_1) (i_ : Int) (v_ : List File) (vv_1 : Value) (c_2 : Hl) (ov_1 : OwnS g v_ vv_1 c_2) (S : St g [c_1, c_2] fr w) (hm : ins? 40 s_ i_ v_ = some r) :
 Calls Tryd.prog 67 [vs_1, .i6 i_, vv_1].toArray w (fun en w' => ∃ v, en = .returned v ∧ ∃ (g' : Gh) (v1 : Value) (c1 : Hl), Le g g' ∧ St g' [c1] fr w' ∧ OwnS g' r v1 c1 ∧ v1 = v) := by
 obtain ⟨p, rfl, hp, hv1, hb, rfl⟩ := ins?_some hm
 obtain ⟨b2, cap2, arr2, t2, rfl, rfl, hcap2, hsz2, ha2⟩ := ov_1.open (by intro h; subst h; simp at hv1)
 refine calls_enter (fn := Tryd.f67) Tryd.func67 rfl Tryd.ntmps67 (lb rfl) ?_
 intro a F
 replace F : Fr 95 a [(0, vs_1), (1, .i6 p), (2, rs b2 0 v_.length cap2)] := F
 refine wp_seq ?_
 refine wp_region_lit ?_
 refine wE (ev_assign rfl) F S rfl fun a F=>?_
 refine wpList_nil ?_
 refine then_n ?_
 refine wp_seq ?_
 refine wp_region_lit ?_
 refine wE (ev_move rfl) F S rfl fun a F=>?_
 refine wE (ev_move rfl) F S rfl fun a F=>?_
 obtain ⟨a0, cap0, hv0, hc0⟩ := os_1.len
 obtain ⟨v3, ev3⟩ := ev_sliceAny F (P := Tryd.prog) (C := St g [c_1, [(b2, .cells arr2 t2 (0, 0))]] fr) (x := .tmp 10) (lo := some (.tmp 11)) (hi := Option.none) (p := (p : Int)) (q := (s_.length : Int)) tu44 ts54 rfl hv0 ⟨_, rfl⟩ rfl (by omega) (by omega) (by omega)
 refine wE ev3 F S rfl fun a F=>?_
 refine wpList_nil ?_
 refine then_n ?_
 refine wp_seq ?_
 refine wp_region_lit ?_
 refine wE (ev_move rfl) F S rfl fun a F=>?_
 refine wE (ev_len rfl tu44) F S rfl fun a F=>?_
 refine wE (ev_assign rfl) F S rfl fun a F=>?_
 refine wpList_nil ?_
 refine then_n ?_
 refine wp_seq ?_
 refine wp_seq ?_
 refine wp_region_lit ?_
 refine wE (ev_move rfl) F S rfl fun a F=>?_
 refine wE (ev_int rfl rfl (bo_eql _ _ _ _)) F S rfl fun a F=>?_
 refine wpList_nil ?_
 refine then_n ?_
 refine wp_condF F rfl (decide_eq_false (by omega)) ?_
 refine wp_skip ?_
 refine then_n ?_
 refine wp_seq ?_
 refine wp_region_lit ?_
 refine wE (ev_move rfl) F S rfl fun a F=>?_
 refine wE (ev_lenOw os_1 rfl tu44) F S rfl fun a F=>?_
 refine wE (ev_assign rfl) F S rfl fun a F=>?_
 refine wpList_nil ?_
 refine then_n ?_
 refine wp_seq ?_
 refine wp_seq ?_
 refine wp_region_lit ?_
 refine wE (ev_move rfl) F S rfl fun a F=>?_
 refine wE (ev_move rfl) F S rfl fun a F=>?_
 refine wE (ev_int rfl rfl (bo_eql _ _ _ _)) F S rfl fun a F=>?_
 refine wpList_nil ?_
 refine then_n ?_
 by_cases hc1 : (p : Int) = (s_.length : Nat)
 ·refine wp_condT F rfl (decide_eq_true hc1) ?_
  refine wp_seq ?_
  refine wp_region_lit ?_
  refine wE (ev_move rfl) F S rfl fun a F=>?_
  refine wE (ev_move rfl) F S rfl fun a F=>?_
  obtain ⟨cs1, hk1, hr1⟩ := ov_1.reads
  have happ : app? 40 s_ v_ = some (s_ ++ v_) := by unfold app?; rw [if_pos (by rw [hv1]; exact hb)]
  refine wl_append (wn rfl) rfl tu44 tu44 te54 (by decide) (by decide) F S rfl rfl (k := 0) rfl os_1 hk1 rfl (hr1 _ _ _ 1 rfl S) happ rfl rfl ?_; clear F a S
  rintro v2 c2 a w h2 S F
  replace S : St g [c2, [(b2, .cells arr2 t2 (0, 0))]] fr w := S
  refine wE (ev_assign rfl) F S rfl fun a F=>?_
  refine wpList_nil ?_
  refine then_n ?_
  refine wp_ret ?_
  refine then_r ?_
  replace S : St g [c2] fr w := St.tail [c2] _ S
  refine post_r _ F rfl (ar_cons (resT rfl) ar_nil) ?_
  have hpl : p = s_.length := by omega
  exact ⟨_, rfl, g, v2, c2, Le.refl _, S, by rw [hpl, List.take_length, List.drop_length, List.append_nil]; exact h2, rfl⟩
 refine wp_condF F rfl (decide_eq_false hc1) ?_
 refine wp_skip ?_
 refine then_n ?_
 have hlt : p < s_.length := by omega
 obtain ⟨b, cap, arr, t, rfl, rfl, hcap, hsz, ha⟩ := os_1.open (by intro h; subst h; simp at hlt)
 refine wp_seq ?_
 refine wp_seq ?_
 refine wp_region_lit ?_
 refine wE (ev_move rfl) F S rfl fun a F=>?_
 refine wE (ev_move rfl) F S rfl fun a F=>?_
 refine wE (ev_int rfl rfl (bo_add (ckI (by omega) (by omega)))) F S rfl fun a F=>?_
 refine wE (ev_move rfl) F S rfl fun a F=>?_
 refine wE (ev_capR rfl tu44) F S rfl fun a F=>?_
 refine wE (ev_int rfl rfl (bo_gtr _ _ _ _)) F S rfl fun a F=>?_
 refine wpList_nil ?_
 refine then_n ?_
 by_cases hc2 : ((s_.length : Nat) : Int) + (v_.length : Nat) > (cap : Int)
 ·refine wp_condT F rfl (decide_eq_true hc2) ?_
  refine wp_seq ?_
  refine wp_region_lit ?_
  refine wE (ev_move rfl) F S rfl fun a F=>?_
  refine wE (ev_move rfl) F S rfl fun a F=>?_
  refine wE (ev_sliceR0 (q := p) tu44 ts54 rfl rfl ⟨_, rfl⟩ (by omega) (by omega)) F S rfl fun a F=>?_
  refine wE (ev_move rfl) F S rfl fun a F=>?_
  refine wE (ev_move rfl) F S rfl fun a F=>?_
  refine wE (ev_int rfl rfl (bo_add (ckI (by omega) (by omega)))) F S rfl fun a F=>?_
  refine wE (ev_move rfl) F S rfl fun a F=>?_
  refine wE (ev_int rfl rfl (bo_sub (ckI (by omega) (by omega)))) F S rfl fun a F=>?_
  obtain ⟨cs1, hcs1, hsrc1⟩ := ha.srcP S (k := 0) rfl p cap hp
  have htl : (s_.take p).length = p := by simp; omega
  have hap : app? 40 (s_.take p) (List.replicate (((s_.length : Nat) : Int) + (v_.length : Nat) - p).toNat (({ Path := ByteArray.empty, Lines := [] } : File) : File)) = some (s_.take p ++ List.replicate (((s_.length : Nat) : Int) + (v_.length : Nat) - p).toNat (({ Path := ByteArray.empty, Lines := [] } : File) : File)) := by
   unfold app?; rw [if_pos ?_]
   rw [htl, List.length_replicate, show p + (((s_.length : Nat) : Int) + (v_.length : Nat) - p).toNat = s_.length + 1 by omega]; exact hb
  refine wl_appendZ (wn rfl) rfl tu44 tu3 te54 zr54 (by decide) (by decide) F S rfl (base := some ⟨b, 0, Option.none⟩) (cap := cap) (l := s_.take p) (by rw [htl]; rfl) rfl hcs1 hsrc1 (by omega) (by rw [htl]; omega) hap rfl rfl ?_; clear F a S hsrc1
  intro v4 c4 a w h4 S F
  refine wE (ev_assign rfl) F S rfl fun a F=>?_
  refine wpList_nil ?_
  refine then_n ?_
  have hj : (((s_.length : Nat) : Int) + (v_.length : Nat) - p).toNat = s_.length + 1 - p := by omega
  rw [hj] at h4
  have hl4 : (s_.take p ++ List.replicate (s_.length + 1 - p) (({ Path := ByteArray.empty, Lines := [] } : File) : File)).length = s_.length + 1 := by simp; omega
  obtain ⟨b4, cap4, arr4, t4, rfl, rfl, hcap4, hsz4, ha4⟩ := h4.open (by intro h; rw [h] at hl4; simp at hl4)
  rw [hl4] at hcap4
  refine wp_seq ?_
  refine wp_region_lit ?_
  refine wE (ev_move rfl) F S rfl fun a F=>?_
  refine wE (ev_move rfl) F S rfl fun a F=>?_
  refine wE (ev_sliceRb (p := (p : Nat)) tu44 ts54 rfl ⟨_, rfl⟩ rfl (by omega) (by omega) (by omega) (by omega)) F S rfl fun a F=>?_
  refine wE (ev_move rfl) F S rfl fun a F=>?_
  obtain ⟨cs2, hcs2, hsrc2⟩ := ov_1.srcOf S (k := 2) rfl
  refine wl_copyR (wn rfl) rfl tu44 ts54 F S (p := p) (b := b4) rfl rfl (k := 0) rfl ha4 (by omega) hcs2 hsrc2 (by omega) (by rw [hsz4]; exact Nat.mul_le_mul_right _ (by omega)) rfl rfl ?_; clear F S hsrc2 ha4
  intro arr5 a w hs5 ha5 S F
  refine wpList_nil ?_
  refine then_n ?_
  have hl5 : ((s_.take p ++ List.replicate (s_.length + 1 - p) (({ Path := ByteArray.empty, Lines := [] } : File) : File)).take p ++ v_ ++ (s_.take p ++ List.replicate (s_.length + 1 - p) (({ Path := ByteArray.empty, Lines := [] } : File) : File)).drop (p + v_.length)).length = s_.length + 1 := by simp; omega
  refine wp_seq ?_
  refine wp_dv [] mo S ?_; clear S; intro ok1 w S
  refine dv_et ok1 0 rfl (ev_move rfl) F rfl fun a F=>?_
  refine dv_et ok1 1 rfl (ev_move rfl) F rfl fun a F=>?_
  refine dv_et ok1 2 rfl (ev_move rfl) F rfl fun a F=>?_
  refine dv_et ok1 3 rfl (ev_int rfl rfl (bo_add (ckI (by omega) (by omega)))) F rfl fun a F=>?_
  refine dv_et ok1 4 rfl (ev_sliceRb (p := (p + v_.length : Nat)) tu44 ts54 rfl ⟨_, rfl⟩ rfl (by omega) (by omega) (by omega) (by omega)) F rfl fun a F=>?_
  refine dv_et ok1 5 rfl (ev_move rfl) F rfl fun a F=>?_
  refine dv_et ok1 6 rfl (ev_move rfl) F rfl fun a F=>?_
  refine dv_et ok1 7 rfl (ev_sliceRb (p := (p : Nat)) tu44 ts54 rfl ⟨_, rfl⟩ rfl (by omega) (by omega) (by omega) (by omega)) F rfl fun a F=>?_
  obtain ⟨cs3, hcs3, hsrc3⟩ := ha.srcD S (k := 1) rfl p (s_.length - p) (cap - p) hp
  have hdl : (s_.drop p).length = s_.length - p := List.length_drop
  refine dv_op ok1 8 rfl [] ?_
  refine wl_copyR (wn rfl) rfl tu44 ts54 F S (p := p + v_.length) (b := b4) rfl rfl (k := 0) rfl ha5 (by omega) hcs3 hsrc3 (by omega) (by rw [hs5, hsz4]; exact Nat.mul_le_mul_right _ (by omega)) rfl rfl ?_; clear F S hsrc3 ha5
  intro arr6 a w hs6 ha6 S F
  refine dv_nx trivial ?_
  refine dv_fin ok1 ?_
  refine then_n ?_
  refine wp_seq ?_
  refine wp_region_lit ?_
  refine wE (ev_move rfl) F S rfl fun a F=>?_
  refine wE (ev_assign rfl) F S rfl fun a F=>?_
  refine wpList_nil ?_
  refine then_n ?_
  refine wp_ret ?_
  refine then_r ?_
  rw [insL1 s_ v_ p hp hv1 _ _ rfl] at ha6
  refine post_r _ F rfl (ar_cons (resT rfl) ar_nil) ?_
  exact ⟨_, rfl, g, _, _, Le.refl _, St.tail [_] _ S, ha6.shut (by simp; omega) (by omega) (by rw [hs6, hs5, hsz4]), rfl⟩
 refine wp_condF F rfl (decide_eq_false hc2) ?_
 refine wp_skip ?_
 refine then_n ?_
 refine wp_seq ?_
 refine wp_region_lit ?_
 refine wE (ev_move rfl) F S rfl fun a F=>?_
 refine wE (ev_move rfl) F S rfl fun a F=>?_
 refine wE (ev_move rfl) F S rfl fun a F=>?_
 refine wE (ev_int rfl rfl (bo_add (ckI (by omega) (by omega)))) F S rfl fun a F=>?_
 refine wE (ev_sliceR0 (q := (s_.length + v_.length : Nat)) tu44 ts54 rfl rfl ⟨_, rfl⟩ (by omega) (by omega)) F S rfl fun a F=>?_
 refine wE (ev_assign rfl) F S rfl fun a F=>?_
 refine wpList_nil ?_
 refine then_n ?_
 refine wp_seq ?_
 refine wp_seq ?_
 refine wp_region_lit ?_
 refine wE (ev_move rfl) F S rfl fun a F=>?_
 refine wE (ev_move rfl) F S rfl fun a F=>?_
 refine wE (ev_move rfl) F S rfl fun a F=>?_
 refine wE (ev_move rfl) F S rfl fun a F=>?_
 refine wE (ev_int rfl rfl (bo_add (ckI (by omega) (by omega)))) F S rfl fun a F=>?_
 refine wE (ev_sliceRb (p := (p + v_.length : Nat)) tu44 ts54 rfl ⟨_, rfl⟩ rfl (by omega) (by omega) (by omega) (by omega)) F S rfl fun a F=>?_
 refine wE (ev_callxC (xs := [.tmp 61, .tmp 66]) (vs := [rs b2 0 v_.length cap2, rs b ((p + v_.length : Nat) * 2) (s_.length + v_.length - (p + v_.length)) (cap - (p + v_.length))]) rfl rfl (fun w S => run_ovl (tS := 44) (tR := 4) Tryd.func77 (by kernel_rfl) (by kernel_rfl) (by kernel_rfl) (by kernel_rfl) tu44 ts54 S (k1 := 1) (k2 := 0) rfl rfl (fun h => blocks_ne S h.symm) (by rw [hsz]; exact Nat.ne_of_gt (Nat.mul_pos (by omega) (by decide))))) F S rfl fun a F=>?_
 refine wE (ev_not rfl) F S rfl fun a F=>?_
 refine wpList_nil ?_
 refine then_n ?_
 refine wp_condT F rfl rfl ?_
 refine wp_seq ?_
 refine wp_dv [] mo S ?_; clear S; intro ok1 w S
 refine dv_et ok1 0 rfl (ev_move rfl) F rfl fun a F=>?_
 refine dv_et ok1 1 rfl (ev_move rfl) F rfl fun a F=>?_
 refine dv_et ok1 2 rfl (ev_move rfl) F rfl fun a F=>?_
 refine dv_et ok1 3 rfl (ev_int rfl rfl (bo_add (ckI (by omega) (by omega)))) F rfl fun a F=>?_
 refine dv_et ok1 4 rfl (ev_sliceRb (p := (p + v_.length : Nat)) tu44 ts54 rfl ⟨_, rfl⟩ rfl (by omega) (by omega) (by omega) (by omega)) F rfl fun a F=>?_
 refine dv_et ok1 5 rfl (ev_move rfl) F rfl fun a F=>?_
 refine dv_et ok1 6 rfl (ev_move rfl) F rfl fun a F=>?_
 refine dv_et ok1 7 rfl (ev_sliceRb (p := (p : Nat)) tu44 ts54 rfl ⟨_, rfl⟩ rfl (by omega) (by omega) (by omega) (by omega)) F rfl fun a F=>?_
 obtain ⟨cs3, hcs3, hsrc3⟩ := ha.srcD S (k := 0) rfl p (s_.length + v_.length - p) (cap - p) hp
 have hdl : (s_.drop p).length = s_.length - p := List.length_drop
 refine dv_op ok1 8 rfl [] ?_
 refine wl_copyR (wn rfl) rfl tu44 ts54 F S (p := p + v_.length) (b := b) rfl rfl (k := 0) rfl ha (by omega) hcs3 hsrc3 (by omega) (by rw [hsz]; exact Nat.mul_le_mul_right _ (by omega)) rfl rfl ?_; clear F S hsrc3 ha
 intro arr6 a w hs6 ha6 S F
 refine dv_nx trivial ?_
 refine dv_fin ok1 ?_
 refine then_n ?_
 refine wp_seq ?_
 refine wp_region_lit ?_
 refine wE (ev_move rfl) F S rfl fun a F=>?_
 refine wE (ev_move rfl) F S rfl fun a F=>?_
 refine wE (ev_sliceRb (p := (p : Nat)) tu44 ts54 rfl ⟨_, rfl⟩ rfl (by omega) (by omega) (by omega) (by omega)) F S rfl fun a F=>?_
 refine wE (ev_move rfl) F S rfl fun a F=>?_
 obtain ⟨cs2, hcs2, hsrc2⟩ := ov_1.srcOf S (k := 1) rfl
 refine wl_copyR (wn rfl) rfl tu44 ts54 F S (p := p) (b := b) rfl rfl (k := 0) rfl ha6 (by simp; omega) hcs2 hsrc2 (by omega) (by rw [hs6, hsz]; exact Nat.mul_le_mul_right _ (by omega)) rfl rfl ?_; clear F S hsrc2 ha6
 intro arr7 a w hs7 ha7 S F
 refine wpList_nil ?_
 refine then_n ?_
 refine wp_seq ?_
 refine wp_region_lit ?_
 refine wE (ev_move rfl) F S rfl fun a F=>?_
 refine wE (ev_assign rfl) F S rfl fun a F=>?_
 refine wpList_nil ?_
 refine then_n ?_
 refine wp_ret ?_
 refine then_r ?_
 rw [insL2 s_ v_ p hlt hv1] at ha7
 refine post_r _ F rfl (ar_cons (resT rfl) ar_nil) ?_
 exact ⟨_, rfl, g, _, _, Le.refl _, St.tail [_] _ S, ha7.shut (by simp; omega) (by omega) (by rw [hs7, hs6, hsz]), rfl⟩


theorem treepatch_Put_ok {g : Gh} {fr : Hl} {w : World} {r : FileTree} (bt_ : Nat) (t_ : FileTree) (vt_1 : Value) (ct_1 : Hl) (ht_1 : OwnS g t_.Files vt_1 ct_1) (path : ByteArray) (l_ : (List ByteArray)) (vl_1 : Value) (hl_1 : RepSl g l_ vl_1) (S : St g [[bx bt_ #[vt_1] 46], ct_1] fr w) (hm : treepatch_Put t_ path l_ = some r) :
  Calls Tryd.prog 47 [bp bt_ 0, .string path, vl_1].toArray w (fun en w' => ∃ v, en = .returned v ∧ ∃ (g' : Gh) (v1 : Value) (c1 : Hl), Le g g' ∧ St g' [[bx bt_ #[v1] 46], c1] fr w' ∧ OwnS g' r.Files v1 c1 ∧ .tuple #[] = v) := by
 unfold treepatch_Put at hm
 refine calls_enter (fn := Tryd.f47) Tryd.func47 rfl Tryd.ntmps47 (lb rfl) ?_
 intro a F
 replace F : Fr 40 a [(0, bp bt_ 0), (1, .string path), (2, vl_1)] := F
 refine wp_seq ?_
 refine wp_region_lit ?_
 refine wE (ev_move rfl) F S rfl fun a F=>?_
 refine wE (ev_nil rfl) F S rfl fun a F=>?_
 refine wE (ev_fieldAddr' tu46 tf46_0 (z := 0) ts44 rfl ⟨_, rfl⟩ rfl) F S rfl fun a F=>?_
 refine wE (ev_load1 tu44 rfl rfl (box_ptr (cells := [vt_1]) 0 rfl 0 rfl (lb rfl))) F S rfl fun a F=>?_
 refine wE (ev_move rfl) F S rfl fun a F=>?_
 replace S : St g [ct_1, [bx bt_ #[vt_1] 46]] fr w := ((S.frontC 0 rfl).frontC 2 rfl)
 obtain ⟨y1, hy1, hm⟩ := bind_some hm
 refine wl_call0 (wn rfl) rfl F rfl (treepatch_Find_okb (fr := (fl [[bx bt_ #[vt_1] 46]] fr)) t_.Files vt_1 ct_1 ht_1 path S hy1) rfl tc45 rfl rfl ?_; clear F a S
 rintro _ a w ⟨g1, l1, S, rfl⟩ F; replace S : St g1 [ct_1, [bx bt_ #[vt_1] 46]] fr w := S
 refine wE (ev_move rfl) F S rfl fun a F=>?_
 refine wE (ev_extract rfl rfl) F S rfl fun a F=>?_
 refine wE (ev_extract rfl rfl) F S rfl fun a F=>?_
 refine wE (ev_assign rfl) F S rfl fun a F=>?_
 refine wE (ev_assign rfl) F S rfl fun a F=>?_
 refine wpList_nil ?_
 refine then_n ?_
 refine wp_cut (fun a w => ∃ (x1 : List File) (v1 : Value) (c1 : Hl) (g2 : Gh), Fr 40 a [(6, .i6 y1.1), (0, bp bt_ 0), (2, vl_1)] ∧ Le g1 g2 ∧ St g2 [[bx bt_ #[v1] 46], c1] fr w ∧ OwnS g2 x1 v1 c1 ∧ treepatch_Put.j1 l_ y1 x1 = some r) ?_ ?_
 ·refine wp_seq ?_
  refine wp_region_lit ?_
  refine wE (ev_move rfl) F S rfl fun a F=>?_
  refine wE (ev_not rfl) F S rfl fun a F=>?_
  refine wpList_nil ?_
  refine then_n ?_
  obtain ⟨hc1, hm⟩ | ⟨hc1, hm⟩ := ite_or hm
  ·refine wp_condT F rfl hc1 ?_
   refine wp_region_lit ?_
   refine wE (ev_move rfl) F S rfl fun a F=>?_
   refine wE (ev_move rfl) F S rfl fun a F=>?_
   refine wE (ev_nil rfl) F S rfl fun a F=>?_
   refine wE (ev_fieldAddr' tu46 tf46_0 (z := 0) ts44 rfl ⟨_, rfl⟩ rfl) F S rfl fun a F=>?_
   refine wE (ev_load1 tu44 rfl rfl (box_ptr (cells := [vt_1]) 1 rfl 0 rfl (lb rfl))) F S rfl fun a F=>?_
   refine wE (ev_move rfl) F S rfl fun a F=>?_
   refine wE (ev_move rfl) F S rfl fun a F=>?_
   refine wE (ev_build (parts := [(0, .tmp 25)]) (vs := [(0, .string path)]) rfl (fun w => tb54_0 path w)) F S rfl fun a F=>?_
   refine wl_lit (l := ([({ Path := path, Lines := [] } : File)] : List File)) (vs := [.agg #[.string path, nilS]]) (parts := [(0, .tmp 26)]) (wn rfl) rfl rfl rfl tu44 te54 (sz_cons rfl sz_nil) rfl (Cat.cons (rep_File_mk (x := ({ Path := path, Lines := [] } : File)) (RepSl.nil _)) (Cat.nil _)) (coa_cons rfl coa_nil) rfl F S rfl rfl ?_; clear F a S
   rintro v4 c4 a w h6 F S
   replace S : St g1 [ct_1, c4, [bx bt_ #[vt_1] 46]] fr w := (((S.frontC 2 rfl).frontC 1 rfl).frontC 3 rfl)
   obtain ⟨y5, hy5, hm⟩ := bind_some hm
   refine wl_call0 (wn rfl) rfl F rfl (slices_Insert_54_ok (fr := (fl [[bx bt_ #[vt_1] 46]] fr)) t_.Files vt_1 ct_1 (ht_1.mono l1) y1.1 ([({ Path := path, Lines := [] } : File)] : List File) v4 c4 h6 S hy5) rfl tc67 rfl rfl ?_; clear F a S
   rintro _ a w ⟨g5, v5, c5, l5, S, h7, rfl⟩ F; replace S : St g5 [c5, [bx bt_ #[vt_1] 46]] fr w := S
   refine wE (ev_nil rfl) F S rfl fun a F=>?_
   refine wE (ev_fieldAddr' tu46 tf46_0 (z := 0) ts44 rfl ⟨_, rfl⟩ rfl) F S rfl fun a F=>?_
   refine wl_storeC (wn rfl) rfl F S rfl rfl (vs := [v5]) (OwnS.cl h7) ts44 (one_cons (OwnS.one h7) one_nil) (k := 1) rfl (lb rfl) (c' := #[v5]) rfl rfl ?_; clear S; intro w S
   refine wpList_nil ?_
   refine then_n ?_
   replace S : St g5 [[bx bt_ #[v5] 46], c5] fr w := St.tail [[bx bt_ #[v5] 46], c5] _ ((S.frontC 0 rfl).frontC 2 rfl)
   exact ⟨y5, v5, c5, g5, F.sub ⟨rfl, rfl, rfl, trivial⟩, l5, S, h7, hm⟩
  ·refine wp_condF F rfl hc1 ?_
   refine wp_skip ?_
   refine then_n ?_
   replace S : St g1 [[bx bt_ #[vt_1] 46], ct_1] fr w := St.tail [[bx bt_ #[vt_1] 46], ct_1] _ ((S.frontC 0 rfl).frontC 2 rfl)
   exact ⟨t_.Files, vt_1, ct_1, g1, F.sub ⟨rfl, rfl, rfl, trivial⟩, (Le.refl _), S, (ht_1.mono l1), hm⟩
 ·clear F S hm; rintro a w ⟨x1, v1, c1, g2, F, l2, S, h1, hm⟩
  refine wp_dv [] mo S ?_; clear S; intro ok1 w S
  refine dv_et ok1 0 rfl (ev_move rfl) F rfl fun a F=>?_
  refine dv_et ok1 1 rfl (ev_nil rfl) F rfl fun a F=>?_
  refine dv_et ok1 2 rfl (ev_fieldAddr' tu46 tf46_0 (z := 0) ts44 rfl ⟨_, rfl⟩ rfl) F rfl fun a F=>?_
  refine dv_ev ok1 3 rfl (ev_load1 tu44 rfl rfl (box_ptr (cells := [v1]) 0 rfl 0 rfl (lb rfl))) F S rfl fun a F=>?_
  refine dv_et ok1 4 rfl (ev_move rfl) F rfl fun a F=>?_
  refine dv_et ok1 5 rfl (ev_move rfl) F rfl fun a F=>?_
  refine dv_op ok1 6 rfl [(3, v1)] ?_
  obtain ⟨y2, hy2, hm⟩ := bind_some hm
  refine wl_call0 (wn rfl) rfl F rfl (slices_Clone_ok (fr := (fl [[bx bt_ #[v1] 46], c1] fr)) l_ vl_1 (hl_1.mono (l1.trans l2)) S hy2) rfl tc44 rfl rfl ?_; clear F a S
  rintro _ a w ⟨g3, v2, c2, l3, S, h2, rfl⟩ F; replace S : St g3 [c2, [bx bt_ #[v1] 46], c1] fr w := S
  refine dv_nx ⟨yl_ev rfl rfl (ev_load1 tu44 rfl rfl (box_ptr (cells := [v1]) 1 rfl 0 rfl (lb rfl))) F S, trivial⟩ ?_
  obtain ⟨y3, hy3, hm⟩ := bind_some hm
  refine dv_et ok1 7 rfl (ev_idxO (h1.mono l3) hy3 tu44 ts54 rfl rfl) F rfl fun a F=>?_
  refine dv_et ok1 8 rfl (ev_fieldAddr' tu54 tf54_1 (z := 0) ts22 rfl (elemO_ptr (h1.mono l3) hy3) rfl) F rfl fun a F=>?_
  refine dv_op ok1 9 rfl [] ?_
  obtain ⟨g4, l4, S, h3⟩ : ∃ gz, Le g3 gz ∧ St gz [[bx bt_ #[v1] 46], c1] fr w ∧ RepSl gz y2 v2 := ⟨_, Le.add _ _, S.freeze 0 rfl, OwnS.freeze (S.front 0 rfl) h2⟩
  obtain ⟨y4, hy4, hm⟩ := bind_some hm
  refine wl_storeE (z' := ({ Path := y3.Path, Lines := y2 } : File)) 1 (wn rfl) rfl F S (h1.mono (l3.trans l4)) hy3 rfl rfl rfl (us := [v2]) (RepSl.cl h3) ts22 (one_cons h3.one one_nil) (k := 1) rfl (lb rfl) (fun cs hcs => by obtain ⟨v3, rfl, h5⟩ := rep_File hcs; exact (rep_File_mk (x := ({ Path := y3.Path, Lines := y2 } : File)) h3)) rfl ?_; clear S
  rintro c3 w h4 S; replace S : St g4 [[bx bt_ #[v1] 46], c3] fr w := S; replace h4 : OwnS g4 y4 v1 c3 := sinj hy4 ▸ h4
  refine dv_nx trivial ?_
  refine dv_fin ok1 ?_
  obtain rfl := sinj hm
  refine post_n _ F rfl ar_nil ?_
  exact ⟨_, rfl, g4, v1, c3, (((l1.trans l2).trans l3).trans l4), S, h4, rfl⟩

theorem slices_Delete_54_ok {g : Gh} {fr : Hl} {w : World} {r : List File} (s_ : List File) (vs_1 : Value) (c_1 : Hl) (os_1 : OwnS g s_ vs_1 c_1) (i_ j_ : Int) (S : St g [c_1] fr w) (hm : del? s_ i_ j_ = some r) :
 Calls Tryd.prog 48 [vs_1, .i6 i_, .i6 j_].toArray w (fun en w' => ∃ v, en = .returned v ∧ ∃ (g' : Gh) (v1 : Value) (c1 : Hl), Le g g' ∧ St g' [c1] fr w' ∧ OwnS g' r v1 c1 ∧ v1 = v) := by
 obtain ⟨p, q, rfl, rfl, hpq, hq, rfl⟩ := del?_some hm
 refine calls_enter (fn := Tryd.f48) Tryd.func48 rfl Tryd.ntmps48 (lb rfl) ?_
 intro a F
 replace F : Fr 33 a [(0, vs_1), (1, .i6 p), (2, .i6 q)] := F
 refine wp_seq ?_
 refine wp_region_lit ?_
 refine wE (ev_assign rfl) F S rfl fun a F=>?_
 refine wpList_nil ?_
 refine then_n ?_
 refine wp_seq ?_
 refine wp_region_lit ?_
 refine wE (ev_move rfl) F S rfl fun a F=>?_
 refine wE (ev_move rfl) F S rfl fun a F=>?_
 refine wE (ev_move rfl) F S rfl fun a F=>?_
 refine wE (ev_move rfl) F S rfl fun a F=>?_
 refine wE (ev_lenOw os_1 rfl tu44) F S rfl fun a F=>?_
 obtain ⟨a0, cap0, hv0, hc0⟩ := os_1.len
 obtain ⟨v3, ev3⟩ := ev_slice3 F (P := Tryd.prog) (C := St g [c_1] fr) (x := .tmp 8) (lo := .tmp 9) (hi := .tmp 10) (mx := .tmp 12) tu44 ts54 rfl hv0 rfl rfl rfl (by omega) (by omega) (by omega) (by omega)
 refine wE ev3 F S rfl fun a F=>?_
 refine wpList_nil ?_
 refine then_n ?_
 refine wp_seq ?_
 refine wp_seq ?_
 refine wp_region_lit ?_
 refine wE (ev_move rfl) F S rfl fun a F=>?_
 refine wE (ev_move rfl) F S rfl fun a F=>?_
 refine wE (ev_int rfl rfl (bo_eql _ _ _ _)) F S rfl fun a F=>?_
 refine wpList_nil ?_
 refine then_n ?_
 by_cases hc1 : (p : Int) = q
 ·refine wp_condT F rfl (decide_eq_true hc1) ?_
  refine wp_seq ?_
  refine wp_region_lit ?_
  refine wE (ev_move rfl) F S rfl fun a F=>?_
  refine wE (ev_assign rfl) F S rfl fun a F=>?_
  refine wpList_nil ?_
  refine then_n ?_
  refine wp_ret ?_
  refine then_r ?_
  refine post_r _ F rfl (ar_cons (resT rfl) ar_nil) ?_
  have hpq' : p = q := by omega
  subst hpq'
  exact ⟨_, rfl, g, vs_1, c_1, Le.refl _, S, by rw [List.take_append_drop]; exact os_1, rfl⟩
 ·refine wp_condF F rfl (decide_eq_false hc1) ?_
  refine wp_skip ?_
  refine then_n ?_
  have hlt : p < q := by omega
  obtain ⟨b, cap, arr, t, rfl, rfl, hcap, hsz, ha⟩ := os_1.open (by intro h; subst h; simp at hq; omega)
  refine wp_seq ?_
  refine wp_region_lit ?_
  refine wE (ev_move rfl) F S rfl fun a F=>?_
  refine wE (ev_len rfl tu44) F S rfl fun a F=>?_
  refine wE (ev_assign rfl) F S rfl fun a F=>?_
  refine wpList_nil ?_
  refine then_n ?_
  refine wp_seq ?_
  refine wp_dv [7] mo S ?_; clear S; intro ok1 w S
  refine dv_et ok1 0 rfl (ev_move rfl) F rfl fun a F=>?_
  refine dv_et ok1 1 rfl (ev_move rfl) F rfl fun a F=>?_
  refine dv_et ok1 2 rfl (ev_sliceR0 (q := p) tu44 ts54 rfl rfl ⟨_, rfl⟩ (by omega) (by omega)) F rfl fun a F=>?_
  refine dv_et ok1 3 rfl (ev_move rfl) F rfl fun a F=>?_
  refine dv_et ok1 4 rfl (ev_move rfl) F rfl fun a F=>?_
  obtain ⟨o1, ho1, ev1⟩ := ev_sliceT F (P := Tryd.prog) (C := fun _ => True) (x := .tmp 23) (lo := some (.tmp 24)) (hi := Option.none) tu44 ts54 rfl ⟨_, rfl⟩ rfl hq hcap
  refine dv_et ok1 5 rfl ev1 F rfl fun a F=>?_
  obtain ⟨cs, hcs, hsrc⟩ := ha.srcT S (k := 0) rfl q o1 (s_.length - q) cap (cap - q) hq hcap ho1 rfl
  refine dv_op ok1 6 rfl [] ?_
  have hdl : (s_.drop q).length = s_.length - q := List.length_drop
  refine wl_appendR (wn rfl) rfl tu44 tu44 ts54 F S rfl rfl (k := 0) (b := b) (p := p) (cap := cap) rfl ha (by omega) hcs hsrc hdl.symm (by omega) hsz rfl rfl ?_; clear F S hsrc ha; intro arr1 a w hs1 ha S F
  refine dv_nx trivial ?_
  refine dv_op ok1 7 rfl [] ?_
  refine wE (ev_assign rfl) F S rfl fun a F=>?_
  refine dv_nx trivial ?_
  refine dv_fin ok1 ?_
  refine then_n ?_
  refine wp_seq ?_
  refine wp_region_lit ?_
  refine wE (ev_move rfl) F S rfl fun a F=>?_
  refine wE (ev_move rfl) F S rfl fun a F=>?_
  refine wE (ev_len rfl tu44) F S rfl fun a F=>?_
  refine wE (ev_move rfl) F S rfl fun a F=>?_
  have hrl : (s_.take p ++ s_.drop q).length = p + (s_.drop q).length := by simp; omega
  refine wE (ev_sliceRb (p := (p + (s_.drop q).length : Nat)) (q := (s_.length : Nat)) tu44 ts54 rfl ⟨_, rfl⟩ ⟨_, rfl⟩ (by omega) (by omega) (by omega) (by omega)) F S rfl fun a F=>?_
  refine wl_clearR (wn rfl) rfl tu44 te54 zr54 F S rfl (k := 0) (b := b) (p := p + (s_.drop q).length) (m := s_.length - (p + (s_.drop q).length)) rfl ha hrl.symm ?_ rfl ?_
  ·rw [hs1, hsz]; exact Nat.mul_le_mul_right _ (by omega)
  clear S ha; intro arr2 w hs2 ha S
  refine wpList_nil ?_
  refine then_n ?_
  refine wp_seq ?_
  refine wp_region_lit ?_
  refine wE (ev_move rfl) F S rfl fun a F=>?_
  refine wE (ev_assign rfl) F S rfl fun a F=>?_
  refine wpList_nil ?_
  refine then_n ?_
  refine wp_ret ?_
  refine post_r _ F rfl (ar_cons (resT rfl) ar_nil) ?_
  exact ⟨_, rfl, g, _, _, Le.refl _, S, ha.shut hrl.symm (by omega) (by rw [hs2, hs1, hsz]), rfl⟩


theorem treepatch_make1_ok {g : Gh} {fr : Hl} {w : World} {r : Int × FileTree} (c_ : TreeChange) (vc_1 : Value) (hc_1 : RepSl g c_.Lines vc_1) (vc_2 : Value) (hc_2 : RepSl g c_.Patch.Hunks vc_2) (bt_ : Nat) (t_ : FileTree) (vt_1 : Value) (ct_1 : Hl) (ht_1 : OwnS g t_.Files vt_1 ct_1) (S : St g [[bx bt_ #[vt_1] 46], ct_1] fr w) (hm : treepatch_make1 c_ t_ = some r) :
  Calls Tryd.prog 31 [.agg #[.i6 c_.Kind, .string c_.Path, .string c_.To, vc_1, vc_2], bp bt_ 0].toArray w (fun en w' => ∃ v, en = .returned v ∧ ∃ (g' : Gh) (v1 : Value) (c1 : Hl), Le g g' ∧ St g' [[bx bt_ #[v1] 46], c1] fr w' ∧ OwnS g' r.2.Files v1 c1 ∧ .i6 r.1 = v) := by
 unfold treepatch_make1 at hm
 refine calls_enter (fn := Tryd.f31) Tryd.func31 rfl Tryd.ntmps31 (lb rfl) ?_
 intro a F
 replace F : Fr 120 a [(0, .agg #[.i6 c_.Kind, .string c_.Path, .string c_.To, vc_1, vc_2]), (1, bp bt_ 0)] := F
 refine wp_seq ?_
 refine wp_region_lit ?_
 refine wl_boxC (wn rfl) rfl rfl rfl F S rfl rfl ?_; clear F a S; rintro b1 a w F S
 refine wE (ev_assign rfl) F S rfl fun a F=>?_
 refine wpList_nil ?_
 refine then_n ?_
 refine wp_seq ?_
 refine wp_quiet mo (by kernel_rfl) S ?_
 refine wq_ev (wn rfl) (ev_move rfl) F rfl rfl ?_; clear F a; intro a F
 refine wq_ev (wn rfl) (ev_nil rfl) F rfl rfl ?_; clear F a; intro a F
 refine wq_ev (wn rfl) (ev_fieldAddr' tu46 tf46_0 (z := 0) ts44 rfl ⟨_, rfl⟩ rfl) F rfl rfl ?_; clear F a; intro a F
 refine wq_ev (wn rfl) (ev_load1 tu44 rfl rfl (box_ptr (cells := [vt_1]) 1 rfl 0 rfl (lb rfl))) F rfl rfl ?_; clear F a; intro a F
 refine wq_ev (wn rfl) (ev_fieldAddr' tu77 tf77_1 (z := 0) ts9 rfl ⟨_, rfl⟩ rfl) F rfl rfl ?_; clear F a; intro a F
 refine wq_ev (wn rfl) (ev_load1 tu9 rfl rfl (box_ptr (cells := [.string c_.Path]) 0 rfl 1 rfl (lb rfl))) F rfl rfl ?_; clear F a; intro a F
 obtain ⟨y1, hy1, hm⟩ := bind_some hm
 refine wq_call (wn rfl) rfl (xs := [.tmp 14, .tmp 16]) (vs := [vt_1, .string c_.Path]) (cap := []) F rfl rfl tc45 (v := .tuple #[.i6 y1.1, .bool y1.2]) (fun w S => by replace S : St g [ct_1, [bx b1 #[.i6 c_.Kind, .string c_.Path, .string c_.To, vc_1, vc_2] 77], [bx bt_ #[vt_1] 46]] fr w := (St.tail [ct_1, [bx b1 #[.i6 c_.Kind, .string c_.Path, .string c_.To, vc_1, vc_2] 77], [bx bt_ #[vt_1] 46]] _ (((S.frontC 1 rfl).frontC 1 rfl).frontC 4 rfl)); exact (treepatch_Find_okb (g := g) (fr := (fl [[bx b1 #[.i6 c_.Kind, .string c_.Path, .string c_.To, vc_1, vc_2] 77], [bx bt_ #[vt_1] 46]] fr)) (w := w) t_.Files vt_1 ct_1 ht_1 c_.Path S hy1).mono (by rintro en w' ⟨_, rfl, g2, l2, S2, rfl⟩; have S3 : St g [ct_1, [bx b1 #[.i6 c_.Kind, .string c_.Path, .string c_.To, vc_1, vc_2] 77], [bx bt_ #[vt_1] 46]] fr w' := S2.weak l2; exact ⟨rfl, (St.tail [[bx b1 #[.i6 c_.Kind, .string c_.Path, .string c_.To, vc_1, vc_2] 77], [bx bt_ #[vt_1] 46], ct_1] _ (((S3.frontC 0 rfl).frontC 3 rfl).frontC 3 rfl))⟩)) rfl rfl ?_; clear F a; intro a F
 refine wq_ev (wn rfl) (ev_move rfl) F rfl rfl ?_; clear F a; intro a F
 refine wq_ev (wn rfl) (ev_extract rfl rfl) F rfl rfl ?_; clear F a; intro a F
 refine wq_ev (wn rfl) (ev_extract rfl rfl) F rfl rfl ?_; clear F a; intro a F
 refine wq_ev (wn rfl) (ev_assign rfl) F rfl rfl ?_; clear F a; intro a F
 refine wq_ev (wn rfl) (ev_assign rfl) F rfl rfl ?_; clear F a; intro a F
 refine wq_nil ?_; clear S; intro w S
 refine then_n ?_
 refine wp_seq ?_
 refine wp_block ?_
 refine wp_seq ?_
 refine wp_region_lit ?_
 refine wE (ev_fieldAddr' tu77 tf77_0 (z := 0) ts3 rfl ⟨_, rfl⟩ rfl) F S rfl fun a F=>?_
 refine wE (ev_load1 tu3 rfl rfl (box_ptr (cells := [.i6 c_.Kind]) 0 rfl 0 rfl (lb rfl))) F S rfl fun a F=>?_
 refine wE (ev_int rfl rfl (bo_eql _ _ _ _)) F S rfl fun a F=>?_
 refine wE (ev_assign rfl) F S rfl fun a F=>?_
 refine wpList_nil ?_
 refine then_n ?_
 obtain ⟨hc1, hm⟩ | ⟨hc1, hm⟩ := ite_or hm
 ·refine wp_condT F rfl hc1 ?_
  refine wp_seq ?_
  refine wp_seq ?_
  refine wp_quiet mo (by kernel_rfl) S ?_
  refine wq_ev (wn rfl) (ev_move rfl) F rfl rfl ?_; clear F a; intro a F
  refine wq_ev (wn rfl) (ev_nil rfl) F rfl rfl ?_; clear F a; intro a F
  refine wq_ev (wn rfl) (ev_fieldAddr' tu46 tf46_0 (z := 0) ts44 rfl ⟨_, rfl⟩ rfl) F rfl rfl ?_; clear F a; intro a F
  refine wq_ev (wn rfl) (ev_load1 tu44 rfl rfl (box_ptr (cells := [vt_1]) 1 rfl 0 rfl (lb rfl))) F rfl rfl ?_; clear F a; intro a F
  refine wq_ev (wn rfl) (ev_fieldAddr' tu77 tf77_1 (z := 0) ts9 rfl ⟨_, rfl⟩ rfl) F rfl rfl ?_; clear F a; intro a F
  refine wq_ev (wn rfl) (ev_load1 tu9 rfl rfl (box_ptr (cells := [.string c_.Path]) 0 rfl 1 rfl (lb rfl))) F rfl rfl ?_; clear F a; intro a F
  obtain ⟨y2, hy2, hm⟩ := bind_some hm
  refine wq_call (wn rfl) rfl (xs := [.tmp 27, .tmp 29, .const (.i6 (-1))]) (vs := [vt_1, .string c_.Path, .i6 (-1)]) (cap := []) F rfl rfl tc46 (v := .bool y2) (fun w S => by replace S : St g [ct_1, [bx b1 #[.i6 c_.Kind, .string c_.Path, .string c_.To, vc_1, vc_2] 77], [bx bt_ #[vt_1] 46]] fr w := (St.tail [ct_1, [bx b1 #[.i6 c_.Kind, .string c_.Path, .string c_.To, vc_1, vc_2] 77], [bx bt_ #[vt_1] 46]] _ (((S.frontC 1 rfl).frontC 1 rfl).frontC 4 rfl)); exact (treepatch_Clash_okb (g := g) (fr := (fl [[bx b1 #[.i6 c_.Kind, .string c_.Path, .string c_.To, vc_1, vc_2] 77], [bx bt_ #[vt_1] 46]] fr)) (w := w) t_.Files vt_1 ct_1 ht_1 c_.Path (-1) S hy2).mono (by rintro en w' ⟨_, rfl, g2, l2, S2, rfl⟩; have S3 : St g [ct_1, [bx b1 #[.i6 c_.Kind, .string c_.Path, .string c_.To, vc_1, vc_2] 77], [bx bt_ #[vt_1] 46]] fr w' := S2.weak l2; exact ⟨rfl, (St.tail [[bx b1 #[.i6 c_.Kind, .string c_.Path, .string c_.To, vc_1, vc_2] 77], [bx bt_ #[vt_1] 46], ct_1] _ (((S3.frontC 0 rfl).frontC 3 rfl).frontC 3 rfl))⟩)) rfl rfl ?_; clear F a; intro a F
  refine wq_nil ?_; clear S; intro w S
  refine then_n ?_
  obtain ⟨hc2, hm⟩ | ⟨hc2, hm⟩ := ite_or hm
  ·refine wp_condT F rfl hc2 ?_
   refine wp_seq ?_
   refine wp_region_lit ?_
   refine wE (ev_assign rfl) F S rfl fun a F=>?_
   refine wpList_nil ?_
   refine then_n ?_
   refine wp_ret ?_
   refine then_r ?_
   refine inb_r ?_
   refine then_r ?_
   obtain rfl := sinj hm
   refine post_r _ F rfl (ar_cons (resT rfl) ar_nil) ?_
   replace S : St g [[bx bt_ #[vt_1] 46], ct_1] fr w := St.tail [[bx bt_ #[vt_1] 46], ct_1] _ ((S.frontC 2 rfl).frontC 2 rfl)
   exact ⟨_, rfl, g, vt_1, ct_1, (Le.refl _), S, ht_1, rfl⟩
  ·refine wp_condF F rfl hc2 ?_
   refine wp_skip ?_
   refine then_n ?_
   refine wp_seq ?_
   refine wp_seq ?_
   refine wp_region_lit ?_
   refine wE (ev_move rfl) F S rfl fun a F=>?_
   refine wE (ev_nil rfl) F S rfl fun a F=>?_
   refine wE (ev_fieldAddr' tu46 tf46_0 (z := 0) ts44 rfl ⟨_, rfl⟩ rfl) F S rfl fun a F=>?_
   refine wE (ev_load1 tu44 rfl rfl (box_ptr (cells := [vt_1]) 1 rfl 0 rfl (lb rfl))) F S rfl fun a F=>?_
   refine wE (ev_lenOw ht_1 rfl tu44) F S rfl fun a F=>?_
   refine wE (ev_int rfl rfl (bo_geq _ _ _ _)) F S rfl fun a F=>?_
   refine wpList_nil ?_
   refine then_n ?_
   obtain ⟨hc3, hm⟩ | ⟨hc3, hm⟩ := ite_or hm
   ·refine wp_condT F rfl hc3 ?_
    refine wp_seq ?_
    refine wp_region_lit ?_
    refine wE (ev_assign rfl) F S rfl fun a F=>?_
    refine wpList_nil ?_
    refine then_n ?_
    refine wp_ret ?_
    refine then_r ?_
    refine inb_r ?_
    refine then_r ?_
    obtain rfl := sinj hm
    refine post_r _ F rfl (ar_cons (resT rfl) ar_nil) ?_
    replace S : St g [[bx bt_ #[vt_1] 46], ct_1] fr w := St.tail [[bx bt_ #[vt_1] 46], ct_1] _ ((S.frontC 2 rfl).frontC 2 rfl)
    exact ⟨_, rfl, g, vt_1, ct_1, (Le.refl _), S, ht_1, rfl⟩
   ·refine wp_condF F rfl hc3 ?_
    refine wp_skip ?_
    refine then_n ?_
    refine wp_seq ?_
    refine wp_region_lit ?_
    refine wE (ev_move rfl) F S rfl fun a F=>?_
    refine wE (ev_fieldAddr' tu77 tf77_1 (z := 0) ts9 rfl ⟨_, rfl⟩ rfl) F S rfl fun a F=>?_
    refine wE (ev_load1 tu9 rfl rfl (box_ptr (cells := [.string c_.Path]) 0 rfl 1 rfl (lb rfl))) F S rfl fun a F=>?_
    refine wE (ev_fieldAddr' tu77 tf77_3 (z := 0) ts22 rfl ⟨_, rfl⟩ rfl) F S rfl fun a F=>?_
    refine wE (ev_load1 tu22 rfl rfl (box_ptr (cells := [vc_1]) 0 rfl 3 rfl (lb rfl))) F S rfl fun a F=>?_
    replace S : St g [[bx bt_ #[vt_1] 46], ct_1, [bx b1 #[.i6 c_.Kind, .string c_.Path, .string c_.To, vc_1, vc_2] 77]] fr w := (((S.frontC 0 rfl).frontC 3 rfl).frontC 3 rfl)
    obtain ⟨y3, hy3, hm⟩ := bind_some hm
    refine wl_call0 (wn rfl) rfl F rfl (treepatch_Put_ok (fr := (fl [[bx b1 #[.i6 c_.Kind, .string c_.Path, .string c_.To, vc_1, vc_2] 77]] fr)) bt_ t_ vt_1 ct_1 ht_1 c_.Path c_.Lines vc_1 hc_1 S hy3) rfl tc47 rfl rfl ?_; clear F a S
    rintro _ a w ⟨g3, v1, c1, l3, S, h1, rfl⟩ F; replace S : St g3 [[bx bt_ #[v1] 46], c1, [bx b1 #[.i6 c_.Kind, .string c_.Path, .string c_.To, vc_1, vc_2] 77]] fr w := S
    refine wpList_nil ?_
    refine then_n ?_
    refine wp_seq ?_
    refine wp_region_lit ?_
    refine wE (ev_assign rfl) F S rfl fun a F=>?_
    refine wpList_nil ?_
    refine then_n ?_
    refine wp_ret ?_
    refine inb_r ?_
    refine then_r ?_
    obtain rfl := sinj hm
    refine post_r _ F rfl (ar_cons (resT rfl) ar_nil) ?_
    replace S : St g3 [[bx bt_ #[v1] 46], c1] fr w := St.tail [[bx bt_ #[v1] 46], c1] _ ((S.frontC 1 rfl).frontC 1 rfl)
    exact ⟨_, rfl, g3, v1, c1, l3, S, h1, rfl⟩
 ·refine wp_condF F rfl hc1 ?_
  refine wp_seq ?_
  refine wp_region_lit ?_
  refine wE (ev_move rfl) F S rfl fun a F=>?_
  refine wE (ev_not rfl) F S rfl fun a F=>?_
  refine wE (ev_assign rfl) F S rfl fun a F=>?_
  refine wpList_nil ?_
  refine then_n ?_
  obtain ⟨hc4, hm⟩ | ⟨hc4, hm⟩ := ite_or hm
  ·refine wp_condT F rfl hc4 ?_
   refine wp_seq ?_
   refine wp_region_lit ?_
   refine wE (ev_assign rfl) F S rfl fun a F=>?_
   refine wpList_nil ?_
   refine then_n ?_
   refine wp_ret ?_
   refine inb_r ?_
   refine then_r ?_
   obtain rfl := sinj hm
   refine post_r _ F rfl (ar_cons (resT rfl) ar_nil) ?_
   replace S : St g [[bx bt_ #[vt_1] 46], ct_1] fr w := St.tail [[bx bt_ #[vt_1] 46], ct_1] _ ((S.frontC 2 rfl).frontC 2 rfl)
   exact ⟨_, rfl, g, vt_1, ct_1, (Le.refl _), S, ht_1, rfl⟩
  ·refine wp_condF F rfl hc4 ?_
   refine wp_skip ?_
   refine inb_n ?_
   refine then_n ?_
   refine wp_seq ?_
   refine wp_region_lit ?_
   refine wE (ev_move rfl) F S rfl fun a F=>?_
   refine wE (ev_nil rfl) F S rfl fun a F=>?_
   refine wE (ev_fieldAddr' tu46 tf46_0 (z := 0) ts44 rfl ⟨_, rfl⟩ rfl) F S rfl fun a F=>?_
   refine wE (ev_load1 tu44 rfl rfl (box_ptr (cells := [vt_1]) 1 rfl 0 rfl (lb rfl))) F S rfl fun a F=>?_
   refine wE (ev_move rfl) F S rfl fun a F=>?_
   obtain ⟨y4, hy4, hm⟩ := bind_some hm
   refine wE (ev_idxO ht_1 hy4 tu44 ts54 rfl rfl) F S rfl fun a F=>?_
   refine wE (ev_fieldAddr' tu54 tf54_1 (z := 0) ts22 rfl (elemO_ptr ht_1 hy4) rfl) F S rfl fun a F=>?_
   obtain ⟨cs1, hr1, hq1⟩ := elemO ht_1 hy4
   obtain ⟨v2, rfl, h2⟩ := rep_File hr1
   refine wE (ev_load1 tu22 rfl rfl (fun w s => fieldP (cells := [v2]) 1 (hq1 _ _ 2 rfl w s) rfl (lb rfl))) F S rfl fun a F=>?_
   refine wE (ev_assign rfl) F S rfl fun a F=>?_
   refine wpList_nil ?_
   refine then_n ?_
   refine wp_cut (fun a w => ∃ (x1 : List File) (v3 : Value) (c2 : Hl) (g4 : Gh), Fr 120 a [(1, bp bt_ 0)] ∧ Le g g4 ∧ St g4 [[bx bt_ #[v3] 46], c2] fr w ∧ OwnS g4 x1 v3 c2 ∧ treepatch_make1.j1 x1 = some r) ?_ ?_
   ·refine wp_seq ?_
    refine wp_region_lit ?_
    refine wE (ev_fieldAddr' tu77 tf77_0 (z := 0) ts3 rfl ⟨_, rfl⟩ rfl) F S rfl fun a F=>?_
    refine wE (ev_load1 tu3 rfl rfl (box_ptr (cells := [.i6 c_.Kind]) 0 rfl 0 rfl (lb rfl))) F S rfl fun a F=>?_
    refine wpList_nil ?_
    refine then_n ?_
    refine wp_block ?_
    refine wp_seq ?_
    refine wp_region_lit ?_
    refine wE (ev_int rfl rfl (bo_eql _ _ _ _)) F S rfl fun a F=>?_
    refine wE (ev_assign rfl) F S rfl fun a F=>?_
    refine wpList_nil ?_
    refine then_n ?_
    obtain ⟨hc5, hm⟩ | ⟨hc5, hm⟩ := ite_or hm
    ·refine wp_condT F rfl hc5 ?_
     refine wp_seq ?_
     refine wp_seq ?_
     refine wp_region_lit ?_
     refine wE (ev_move rfl) F S rfl fun a F=>?_
     refine wE (ev_fieldAddr' tu77 tf77_3 (z := 0) ts22 rfl ⟨_, rfl⟩ rfl) F S rfl fun a F=>?_
     refine wE (ev_load1 tu22 rfl rfl (box_ptr (cells := [vc_1]) 0 rfl 3 rfl (lb rfl))) F S rfl fun a F=>?_
     obtain ⟨y5, hy5, hm⟩ := bind_some hm
     refine wl_call0 (wn rfl) rfl F rfl (slices_Equal_ok (fr := (fl [[bx b1 #[.i6 c_.Kind, .string c_.Path, .string c_.To, vc_1, vc_2] 77], [bx bt_ #[vt_1] 46], ct_1] fr)) y4.Lines v2 h2 c_.Lines vc_1 hc_1 S hy5) rfl tc41 rfl rfl ?_; clear F a S
     rintro _ a w ⟨g5, l5, S, rfl⟩ F; replace S : St g5 [[bx b1 #[.i6 c_.Kind, .string c_.Path, .string c_.To, vc_1, vc_2] 77], [bx bt_ #[vt_1] 46], ct_1] fr w := S
     refine wE (ev_not rfl) F S rfl fun a F=>?_
     refine wpList_nil ?_
     replace F := F.sub (e' := [(82, .bool !y5), (5, .i6 y1.1), (1, bp bt_ 0)]) ⟨rfl, rfl, rfl, trivial⟩
     refine then_n ?_
     obtain ⟨hc6, hm⟩ | ⟨hc6, hm⟩ := ite_or hm
     ·refine wp_condT F rfl hc6 ?_
      refine wp_seq ?_
      refine wp_region_lit ?_
      refine wE (ev_assign rfl) F S rfl fun a F=>?_
      refine wpList_nil ?_
      refine then_n ?_
      refine wp_ret ?_
      refine then_r ?_
      refine inb_r ?_
      refine then_r ?_
      obtain rfl := sinj hm
      refine post_r _ F rfl (ar_cons (resT rfl) ar_nil) ?_
      replace S : St g5 [[bx bt_ #[vt_1] 46], ct_1] fr w := St.tail [[bx bt_ #[vt_1] 46], ct_1] _ ((S.frontC 2 rfl).frontC 2 rfl)
      exact ⟨_, rfl, g5, vt_1, ct_1, l5, S, (ht_1.mono l5), rfl⟩
     ·refine wp_condF F rfl hc6 ?_
      refine wp_skip ?_
      refine then_n ?_
      refine wp_region_lit ?_
      refine wE (ev_move rfl) F S rfl fun a F=>?_
      refine wE (ev_move rfl) F S rfl fun a F=>?_
      refine wE (ev_nil rfl) F S rfl fun a F=>?_
      refine wE (ev_fieldAddr' tu46 tf46_0 (z := 0) ts44 rfl ⟨_, rfl⟩ rfl) F S rfl fun a F=>?_
      refine wE (ev_load1 tu44 rfl rfl (box_ptr (cells := [vt_1]) 1 rfl 0 rfl (lb rfl))) F S rfl fun a F=>?_
      refine wE (ev_move rfl) F S rfl fun a F=>?_
      refine wE (ev_move rfl) F S rfl fun a F=>?_
      obtain ⟨z1, hz1, hm⟩ := bind_some hm
      refine wE (ev_int rfl rfl (bo_add hz1)) F S rfl fun a F=>?_
      replace S : St g5 [ct_1, [bx b1 #[.i6 c_.Kind, .string c_.Path, .string c_.To, vc_1, vc_2] 77], [bx bt_ #[vt_1] 46]] fr w := (((S.frontC 1 rfl).frontC 1 rfl).frontC 4 rfl)
      obtain ⟨y6, hy6, hm⟩ := bind_some hm
      refine wl_call0 (wn rfl) rfl F rfl (slices_Delete_54_ok (fr := (fl [[bx b1 #[.i6 c_.Kind, .string c_.Path, .string c_.To, vc_1, vc_2] 77], [bx bt_ #[vt_1] 46]] fr)) t_.Files vt_1 ct_1 (ht_1.mono l5) y1.1 z1 S hy6) rfl tc48 rfl rfl ?_; clear F a S
      rintro _ a w ⟨g6, v4, c3, l6, S, h4, rfl⟩ F; replace S : St g6 [c3, [bx b1 #[.i6 c_.Kind, .string c_.Path, .string c_.To, vc_1, vc_2] 77], [bx bt_ #[vt_1] 46]] fr w := S
      refine wE (ev_nil rfl) F S rfl fun a F=>?_
      refine wE (ev_fieldAddr' tu46 tf46_0 (z := 0) ts44 rfl ⟨_, rfl⟩ rfl) F S rfl fun a F=>?_
      refine wl_storeC (wn rfl) rfl F S rfl rfl (vs := [v4]) (OwnS.cl h4) ts44 (one_cons (OwnS.one h4) one_nil) (k := 2) rfl (lb rfl) (c' := #[v4]) rfl rfl ?_; clear S; intro w S
      refine wpList_nil ?_
      refine inb_n ?_
      refine then_n ?_
      replace S : St g6 [[bx bt_ #[v4] 46], c3] fr w := St.tail [[bx bt_ #[v4] 46], c3] _ ((S.frontC 0 rfl).frontC 3 rfl)
      exact ⟨y6, v4, c3, g6, F.sub ⟨rfl, trivial⟩, (l5.trans l6), S, h4, hm⟩
    ·refine wp_condF F rfl hc5 ?_
     refine wp_seq ?_
     refine wp_region_lit ?_
     refine wE (ev_int rfl rfl (bo_eql _ _ _ _)) F S rfl fun a F=>?_
     refine wE (ev_assign rfl) F S rfl fun a F=>?_
     refine wpList_nil ?_
     refine then_n ?_
     obtain ⟨hc7, hm⟩ | ⟨hc7, hm⟩ := ite_or hm
     ·refine wp_condT F rfl hc7 ?_
      refine wp_seq ?_
      refine wp_seq ?_
      refine wp_quiet mo (by kernel_rfl) S ?_
      refine wq_ev (wn rfl) (ev_move rfl) F rfl rfl ?_; clear F a; intro a F
      refine wq_ev (wn rfl) (ev_nil rfl) F rfl rfl ?_; clear F a; intro a F
      refine wq_ev (wn rfl) (ev_fieldAddr' tu46 tf46_0 (z := 0) ts44 rfl ⟨_, rfl⟩ rfl) F rfl rfl ?_; clear F a; intro a F
      refine wq_ev (wn rfl) (ev_load1 tu44 rfl rfl (box_ptr (cells := [vt_1]) 1 rfl 0 rfl (lb rfl))) F rfl rfl ?_; clear F a; intro a F
      refine wq_ev (wn rfl) (ev_fieldAddr' tu77 tf77_2 (z := 0) ts9 rfl ⟨_, rfl⟩ rfl) F rfl rfl ?_; clear F a; intro a F
      refine wq_ev (wn rfl) (ev_load1 tu9 rfl rfl (box_ptr (cells := [.string c_.To]) 0 rfl 2 rfl (lb rfl))) F rfl rfl ?_; clear F a; intro a F
      refine wq_ev (wn rfl) (ev_move rfl) F rfl rfl ?_; clear F a; intro a F
      obtain ⟨y7, hy7, hm⟩ := bind_some hm
      refine wq_call (wn rfl) rfl (xs := [.tmp 99, .tmp 101, .tmp 102]) (vs := [vt_1, .string c_.To, .i6 y1.1]) (cap := []) F rfl rfl tc46 (v := .bool y7) (fun w S => by replace S : St g [ct_1, [bx b1 #[.i6 c_.Kind, .string c_.Path, .string c_.To, vc_1, vc_2] 77], [bx bt_ #[vt_1] 46]] fr w := (St.tail [ct_1, [bx b1 #[.i6 c_.Kind, .string c_.Path, .string c_.To, vc_1, vc_2] 77], [bx bt_ #[vt_1] 46]] _ (((S.frontC 1 rfl).frontC 1 rfl).frontC 4 rfl)); exact (treepatch_Clash_okb (g := g) (fr := (fl [[bx b1 #[.i6 c_.Kind, .string c_.Path, .string c_.To, vc_1, vc_2] 77], [bx bt_ #[vt_1] 46]] fr)) (w := w) t_.Files vt_1 ct_1 ht_1 c_.To y1.1 S hy7).mono (by rintro en w' ⟨_, rfl, g2, l2, S2, rfl⟩; have S3 : St g [ct_1, [bx b1 #[.i6 c_.Kind, .string c_.Path, .string c_.To, vc_1, vc_2] 77], [bx bt_ #[vt_1] 46]] fr w' := S2.weak l2; exact ⟨rfl, (St.tail [[bx b1 #[.i6 c_.Kind, .string c_.Path, .string c_.To, vc_1, vc_2] 77], [bx bt_ #[vt_1] 46], ct_1] _ (((S3.frontC 0 rfl).frontC 3 rfl).frontC 3 rfl))⟩)) rfl rfl ?_; clear F a; intro a F
      refine wq_nil ?_; clear S; intro w S
      replace F := F.sub (e' := [(103, .bool y7), (7, v2), (5, .i6 y1.1), (2, bp b1 0), (1, bp bt_ 0)]) ⟨rfl, rfl, rfl, rfl, rfl, trivial⟩
      refine then_n ?_
      obtain ⟨hc8, hm⟩ | ⟨hc8, hm⟩ := ite_or hm
      ·refine wp_condT F rfl hc8 ?_
       refine wp_seq ?_
       refine wp_region_lit ?_
       refine wE (ev_assign rfl) F S rfl fun a F=>?_
       refine wpList_nil ?_
       refine then_n ?_
       refine wp_ret ?_
       refine then_r ?_
       refine inb_r ?_
       refine then_r ?_
       obtain rfl := sinj hm
       refine post_r _ F rfl (ar_cons (resT rfl) ar_nil) ?_
       replace S : St g [[bx bt_ #[vt_1] 46], ct_1] fr w := St.tail [[bx bt_ #[vt_1] 46], ct_1] _ ((S.frontC 2 rfl).frontC 2 rfl)
       exact ⟨_, rfl, g, vt_1, ct_1, (Le.refl _), S, ht_1, rfl⟩
      ·refine wp_condF F rfl hc8 ?_
       refine wp_skip ?_
       refine then_n ?_
       refine wp_seq ?_
       refine wp_region_lit ?_
       refine wE (ev_move rfl) F S rfl fun a F=>?_
       refine wE (ev_move rfl) F S rfl fun a F=>?_
       refine wE (ev_nil rfl) F S rfl fun a F=>?_
       refine wE (ev_fieldAddr' tu46 tf46_0 (z := 0) ts44 rfl ⟨_, rfl⟩ rfl) F S rfl fun a F=>?_
       refine wE (ev_load1 tu44 rfl rfl (box_ptr (cells := [vt_1]) 1 rfl 0 rfl (lb rfl))) F S rfl fun a F=>?_
       refine wE (ev_move rfl) F S rfl fun a F=>?_
       refine wE (ev_move rfl) F S rfl fun a F=>?_
       obtain ⟨z2, hz2, hm⟩ := bind_some hm
       refine wE (ev_int rfl rfl (bo_add hz2)) F S rfl fun a F=>?_
       replace S : St g [ct_1, [bx b1 #[.i6 c_.Kind, .string c_.Path, .string c_.To, vc_1, vc_2] 77], [bx bt_ #[vt_1] 46]] fr w := (((S.frontC 1 rfl).frontC 1 rfl).frontC 4 rfl)
       obtain ⟨y8, hy8, hm⟩ := bind_some hm
       refine wl_call0 (wn rfl) rfl F rfl (slices_Delete_54_ok (fr := (fl [[bx b1 #[.i6 c_.Kind, .string c_.Path, .string c_.To, vc_1, vc_2] 77], [bx bt_ #[vt_1] 46]] fr)) t_.Files vt_1 ct_1 ht_1 y1.1 z2 S hy8) rfl tc48 rfl rfl ?_; clear F a S
       rintro _ a w ⟨g8, v5, c4, l8, S, h5, rfl⟩ F; replace S : St g8 [c4, [bx b1 #[.i6 c_.Kind, .string c_.Path, .string c_.To, vc_1, vc_2] 77], [bx bt_ #[vt_1] 46]] fr w := S
       refine wE (ev_nil rfl) F S rfl fun a F=>?_
       refine wE (ev_fieldAddr' tu46 tf46_0 (z := 0) ts44 rfl ⟨_, rfl⟩ rfl) F S rfl fun a F=>?_
       refine wl_storeC (wn rfl) rfl F S rfl rfl (vs := [v5]) (OwnS.cl h5) ts44 (one_cons (OwnS.one h5) one_nil) (k := 2) rfl (lb rfl) (c' := #[v5]) rfl rfl ?_; clear S; intro w S
       refine wpList_nil ?_
       refine then_n ?_
       refine wp_region_lit ?_
       refine wE (ev_move rfl) F S rfl fun a F=>?_
       refine wE (ev_fieldAddr' tu77 tf77_2 (z := 0) ts9 rfl ⟨_, rfl⟩ rfl) F S rfl fun a F=>?_
       refine wE (ev_load1 tu9 rfl rfl (box_ptr (cells := [.string c_.To]) 1 rfl 2 rfl (lb rfl))) F S rfl fun a F=>?_
       refine wE (ev_move rfl) F S rfl fun a F=>?_
       replace S : St g8 [[bx bt_ #[v5] 46], c4, [bx b1 #[.i6 c_.Kind, .string c_.Path, .string c_.To, vc_1, vc_2] 77]] fr w := (((S.frontC 1 rfl).frontC 1 rfl).frontC 4 rfl)
       obtain ⟨y9, hy9, hm⟩ := bind_some hm
       refine wl_call0 (wn rfl) rfl F rfl (treepatch_Put_ok (fr := (fl [[bx b1 #[.i6 c_.Kind, .string c_.Path, .string c_.To, vc_1, vc_2] 77]] fr)) bt_ ({ Files := y8 } : FileTree) v5 c4 h5 c_.To y4.Lines v2 (h2.mono l8) S hy9) rfl tc47 rfl rfl ?_; clear F a S
       rintro _ a w ⟨g9, v6, c5, l9, S, h6, rfl⟩ F; replace S : St g9 [[bx bt_ #[v6] 46], c5, [bx b1 #[.i6 c_.Kind, .string c_.Path, .string c_.To, vc_1, vc_2] 77]] fr w := S
       refine wpList_nil ?_
       refine inb_n ?_
       refine then_n ?_
       replace S : St g9 [[bx bt_ #[v6] 46], c5] fr w := St.tail [[bx bt_ #[v6] 46], c5] _ ((S.frontC 1 rfl).frontC 1 rfl)
       exact ⟨y9.Files, v6, c5, g9, F.sub ⟨rfl, trivial⟩, (l8.trans l9), S, h6, hm⟩
     ·refine wp_condF F rfl hc7 ?_
      refine wp_seq ?_
      refine wp_region_lit ?_
      refine wE (ev_fieldAddr' tu77 tf77_4 (z := 0) ts42 rfl ⟨_, rfl⟩ rfl) F S rfl fun a F=>?_
      refine wE (ev_loadA tu42 rfl (cs := [vc_2]) ts42 rfl (box_ptr (cells := [vc_2]) 0 rfl 4 rfl (lb rfl))) F S rfl fun a F=>?_
      refine wE (ev_move rfl) F S rfl fun a F=>?_
      obtain ⟨y10, hy10, hm⟩ := bind_some hm
      refine wl_call0 (wn rfl) rfl F rfl (textpatch_Apply_ok (fr := (fl [[bx b1 #[.i6 c_.Kind, .string c_.Path, .string c_.To, vc_1, vc_2] 77], [bx bt_ #[vt_1] 46], ct_1] fr)) c_.Patch vc_2 hc_2 y4.Lines v2 h2 S hy10) rfl tc10 rfl rfl ?_; clear F a S
      rintro _ a w ⟨g10, v7, c6, l10, S, h7, rfl⟩ F; replace S : St g10 [c6, [bx b1 #[.i6 c_.Kind, .string c_.Path, .string c_.To, vc_1, vc_2] 77], [bx bt_ #[vt_1] 46], ct_1] fr w := S
      refine wE (ev_move rfl) F S rfl fun a F=>?_
      refine wE (ev_extract rfl rfl) F S rfl fun a F=>?_
      refine wE (ev_extract rfl rfl) F S rfl fun a F=>?_
      refine wl_alloc (wn rfl) rfl tz25 (cs := [.i6 0, .i6 0]) rfl F S rfl rfl ?_; clear F a S; rintro b2 a w F S
      refine wE (ev_assign rfl) F S rfl fun a F=>?_
      refine wl_storeC (wn rfl) rfl F S rfl rfl (vs := [.i6 y10.2.Code, .i6 y10.2.Index]) rfl ts25 (one_cons rfl (one_cons rfl one_nil)) (k := 0) rfl (lb rfl) (c' := #[.i6 y10.2.Code, .i6 y10.2.Index]) rfl rfl ?_; clear S; intro w S
      refine wpList_nil ?_
      replace F := F.sub (e' := [(8, v7), (9, bp b2 0), (5, .i6 y1.1), (1, bp bt_ 0)]) ⟨rfl, rfl, rfl, rfl, trivial⟩
      refine then_n ?_
      refine wp_seq ?_
      refine wp_seq ?_
      refine wp_region_lit ?_
      refine wE (ev_loadA tu25 rfl (cs := [.i6 y10.2.Code, .i6 y10.2.Index]) ts25 rfl (box_ptr (cells := [.i6 y10.2.Code, .i6 y10.2.Index]) 0 rfl 0 rfl (lb rfl))) F S rfl fun a F=>?_
      refine wE (ev_build (parts := []) (vs := []) rfl (fun w => tb25_  w)) F S rfl fun a F=>?_
      refine wE (ev_neS tu25 tqa25 tqb25 tqc25 (xs := [.i6 y10.2.Code, .i6 y10.2.Index]) (ys := [.i6 0, .i6 0]) rfl rfl ⟨_, _, rfl, by decide, ⟨_, _, rfl, rfl, leaf_int tu3⟩, ⟨_, _, rfl, by decide, ⟨_, _, rfl, rfl, leaf_int tu3⟩, rfl⟩⟩) F S rfl fun a F=>?_
      refine wpList_nil ?_
      refine then_n ?_
      obtain ⟨hc9, hm⟩ | ⟨hc9, hm⟩ := ite_or hm
      ·refine wp_condT F rfl hc9 ?_
       refine wp_seq ?_
       refine wp_region_lit ?_
       refine wE (ev_fieldAddr' tu25 tf25_0 (z := 0) ts3 rfl ⟨_, rfl⟩ rfl) F S rfl fun a F=>?_
       refine wE (ev_load1 tu3 rfl rfl (box_ptr (cells := [.i6 y10.2.Code]) 0 rfl 0 rfl (lb rfl))) F S rfl fun a F=>?_
       refine wE (ev_assign rfl) F S rfl fun a F=>?_
       refine wpList_nil ?_
       refine then_n ?_
       refine wp_ret ?_
       refine then_r ?_
       refine inb_r ?_
       refine then_r ?_
       obtain rfl := sinj hm
       refine post_r _ F rfl (ar_cons (resT rfl) ar_nil) ?_
       replace S : St g10 [[bx bt_ #[vt_1] 46], ct_1] fr w := St.tail [[bx bt_ #[vt_1] 46], ct_1] _ ((S.frontC 4 rfl).frontC 4 rfl)
       exact ⟨_, rfl, g10, vt_1, ct_1, l10, S, (ht_1.mono l10), rfl⟩
      ·refine wp_condF F rfl hc9 ?_
       refine wp_skip ?_
       refine then_n ?_
       refine wp_region_lit ?_
       refine wE (ev_move rfl) F S rfl fun a F=>?_
       refine wE (ev_nil rfl) F S rfl fun a F=>?_
       refine wE (ev_fieldAddr' tu46 tf46_0 (z := 0) ts44 rfl ⟨_, rfl⟩ rfl) F S rfl fun a F=>?_
       refine wE (ev_load1 tu44 rfl rfl (box_ptr (cells := [vt_1]) 3 rfl 0 rfl (lb rfl))) F S rfl fun a F=>?_
       refine wE (ev_move rfl) F S rfl fun a F=>?_
       refine wE (ev_move rfl) F S rfl fun a F=>?_
       obtain ⟨y11, hy11, hm⟩ := bind_some hm
       refine wE (ev_idxO (ht_1.mono l10) hy11 tu44 ts54 rfl rfl) F S rfl fun a F=>?_
       refine wE (ev_fieldAddr' tu54 tf54_1 (z := 0) ts22 rfl (elemO_ptr (ht_1.mono l10) hy11) rfl) F S rfl fun a F=>?_
       obtain ⟨g11, l11, S, h8⟩ : ∃ gz, Le g10 gz ∧ St gz [[bx b2 #[.i6 y10.2.Code, .i6 y10.2.Index] 25], [bx b1 #[.i6 c_.Kind, .string c_.Path, .string c_.To, vc_1, vc_2] 77], [bx bt_ #[vt_1] 46], ct_1] fr w ∧ RepSl gz y10.1 v7 := ⟨_, Le.add _ _, S.freeze 1 rfl, OwnS.freeze (S.front 1 rfl) h7⟩
       obtain ⟨y12, hy12, hm⟩ := bind_some hm
       refine wl_storeE (z' := ({ Path := y11.Path, Lines := y10.1 } : File)) 1 (wn rfl) rfl F S (ht_1.mono (l10.trans l11)) hy11 rfl rfl rfl (us := [v7]) (RepSl.cl h8) ts22 (one_cons h8.one one_nil) (k := 3) rfl (lb rfl) (fun cs hcs => by obtain ⟨v8, rfl, h10⟩ := rep_File hcs; exact (rep_File_mk (x := ({ Path := y11.Path, Lines := y10.1 } : File)) h8)) rfl ?_; clear S
       rintro c7 w h9 S; replace S : St g11 [[bx b2 #[.i6 y10.2.Code, .i6 y10.2.Index] 25], [bx b1 #[.i6 c_.Kind, .string c_.Path, .string c_.To, vc_1, vc_2] 77], [bx bt_ #[vt_1] 46], c7] fr w := S; replace h9 : OwnS g11 y12 vt_1 c7 := sinj hy12 ▸ h9
       refine wpList_nil ?_
       refine inb_n ?_
       refine then_n ?_
       replace S : St g11 [[bx bt_ #[vt_1] 46], c7] fr w := St.tail [[bx bt_ #[vt_1] 46], c7] _ ((S.frontC 3 rfl).frontC 3 rfl)
       exact ⟨y12, vt_1, c7, g11, F.sub ⟨rfl, trivial⟩, (l10.trans l11), S, h9, hm⟩
   ·clear F S hm; rintro a w ⟨x1, v3, c2, g4, F, l4, S, h3, hm⟩
    refine wp_seq ?_
    refine wp_region_lit ?_
    refine wE (ev_assign rfl) F S rfl fun a F=>?_
    refine wpList_nil ?_
    refine then_n ?_
    refine wp_ret ?_
    obtain rfl := sinj hm
    refine post_r _ F rfl (ar_cons (resT rfl) ar_nil) ?_
    exact ⟨_, rfl, g4, v3, c2, l4, S, h3, rfl⟩
end Go.Dc
