/- Walks: each function comes to what its model says. -/
import Derived.Test.YtjmigclbilnajaaDoorDcTab
import Derived.Test.YtjmigclbilnajaaDoorDcM
import Derived.Test.YtjmigclbilnajaaDoorDcW1
import Derived.Test.YtjmigclbilnajaaDoorDcW16
import Derived.Test.YtjmigclbilnajaaDoorDcW18
import Derived.Test.YtjmigclbilnajaaDoorDcW19
import Derived.Test.YtjmigclbilnajaaDoorDcW20
import Derived.Test.YtjmigclbilnajaaDoorDcW3
import Derived.Test.YtjmigclbilnajaaDoorDcW8
namespace Go.Dc
open Go Go.Proofs
set_option maxRecDepth 100000
set_option maxHeartbeats 4000000
set_option linter.unusedVariables false
theorem changeforgeref1_Apply_ok {g : Gh} {fr : Hl} {w : World} {r : (List ByteArray) × Fault} (p_ : Patch) (vp_1 : Value) (hp_1 : RepSl g p_.Hunks vp_1) (text : (List ByteArray)) (vtext1 : Value) (htext1 : RepSl g text vtext1) (S : St g [] fr w) (hm : changeforgeref1_Apply p_ text = some r) :
  Calls Tryd.prog 94 [.agg #[vp_1], vtext1].toArray w (fun en w' => ∃ v, en = .returned v ∧ ∃ (g' : Gh) (v1 : Value) (c1 : Hl), Le g g' ∧ St g' [c1] fr w' ∧ OwnS g' r.1 v1 c1 ∧ .tuple #[v1, .agg #[.i6 r.2.Code, .i6 r.2.Index]] = v) := by
 unfold changeforgeref1_Apply at hm
 refine calls_enter (fn := Tryd.f94) Tryd.func94 rfl Tryd.ntmps94 (lb rfl) ?_
 intro a F
 replace F : Fr 86 a [(0, .agg #[vp_1]), (1, vtext1)] := F
 refine wp_seq ?_
 refine wp_region_lit ?_
 refine wl_boxC (wn rfl) rfl rfl rfl F S rfl rfl ?_; clear F a S; rintro b1 a w F S
 refine wE (ev_assign rfl) F S rfl fun a F=>?_
 refine wl_alloc (wn rfl) rfl tz29 (cs := [.i6 0, .i6 0]) rfl F S rfl rfl ?_; clear F a S; rintro b2 a w F S
 refine wpList_nil ?_
 refine then_n ?_
 refine wp_seq ?_
 refine wp_seq ?_
 refine wp_region_lit ?_
 refine wE (ev_loadA tu25 rfl (cs := [vp_1]) ts25 rfl (box_ptr (cells := [vp_1]) 1 rfl 0 rfl (lb rfl))) F S rfl fun a F=>?_
 obtain ⟨y1, hy1, hm⟩ := bind_some hm
 refine wl_call0 (wn rfl) rfl F rfl (changeforgeref1_PatchFault_ok (fr := (fl [[bx b2 #[.i6 0, .i6 0] 29], [bx b1 #[vp_1] 25]] fr)) p_ vp_1 hp_1 S hy1) rfl tc77 rfl rfl ?_; clear F a S
 rintro _ a w ⟨g1, l1, S, rfl⟩ F; replace S : St g1 [[bx b2 #[.i6 0, .i6 0] 29], [bx b1 #[vp_1] 25]] fr w := S
 refine wl_alloc (wn rfl) rfl tz29 (cs := [.i6 0, .i6 0]) rfl F S rfl rfl ?_; clear F a S; rintro b3 a w F S
 refine wl_storeC (wn rfl) rfl F S rfl rfl (vs := [.i6 y1.Code, .i6 y1.Index]) rfl ts29 (one_cons rfl (one_cons rfl one_nil)) (k := 0) rfl (lb rfl) (c' := #[.i6 y1.Code, .i6 y1.Index]) rfl rfl ?_; clear S; intro w S
 refine wpList_nil ?_
 refine then_n ?_
 refine wp_seq ?_
 refine wp_region_lit ?_
 refine wE (ev_fieldAddr' tu29 tf29_0 (z := 0) ts3 rfl ⟨_, rfl⟩ rfl) F S rfl fun a F=>?_
 refine wE (ev_load1 tu3 rfl rfl (box_ptr (cells := [.i6 y1.Code]) 0 rfl 0 rfl (lb rfl))) F S rfl fun a F=>?_
 refine wE (ev_int rfl rfl (bo_neq _ _ _ _)) F S rfl fun a F=>?_
 refine wpList_nil ?_
 refine then_n ?_
 obtain ⟨hc1, hm⟩ | ⟨hc1, hm⟩ := ite_or hm
 ·refine wp_condT F rfl hc1 ?_
  refine wp_seq ?_
  refine wp_dv [] mo S ?_; clear S; intro ok1 w S
  refine dv_ev ok1 0 rfl (ev_loadA tu29 rfl (cs := [.i6 y1.Code, .i6 y1.Index]) ts29 rfl (box_ptr (cells := [.i6 y1.Code, .i6 y1.Index]) 0 rfl 0 rfl (lb rfl))) F S rfl fun a F=>?_
  refine dv_et ok1 1 rfl (ev_assign rfl) F rfl fun a F=>?_
  refine dv_op ok1 2 rfl [] ?_
  refine wl_storeC (wn rfl) rfl F S rfl rfl (vs := [.i6 y1.Code, .i6 y1.Index]) rfl ts29 (one_cons rfl (one_cons rfl one_nil)) (k := 1) rfl (lb rfl) (c' := #[.i6 y1.Code, .i6 y1.Index]) rfl rfl ?_; clear S; intro w S
  refine dv_nx trivial ?_
  refine dv_fin ok1 ?_
  refine then_n ?_
  refine wp_ret ?_
  refine then_r ?_
  obtain rfl := sinj hm
  replace S : St g1 [[], [bx b3 #[.i6 y1.Code, .i6 y1.Index] 29], [bx b2 #[.i6 y1.Code, .i6 y1.Index] 29], [bx b1 #[vp_1] 25]] fr w := S
  refine post_r _ F rfl (ar_cons (resT rfl) (ar_cons (resA rfl tu29 rfl (box_ptr (cells := [.i6 y1.Code, .i6 y1.Index]) 2 rfl 0 rfl (lb rfl) w S) ts29) ar_nil)) ?_
  replace S : St g1 [[]] fr w := St.tail [[]] _ (S.frontC 0 rfl)
  exact ⟨_, rfl, g1, (nilS), [], l1, S, (OwnS.nil _), rfl⟩
 ·refine wp_condF F rfl hc1 ?_
  refine wp_skip ?_
  refine then_n ?_
  refine wp_seq ?_
  refine wp_seq ?_
  refine wp_region_lit ?_
  refine wE (ev_move rfl) F S rfl fun a F=>?_
  obtain ⟨y2, hy2, hm⟩ := bind_some hm
  refine wl_call0 (wn rfl) rfl F rfl (changeforgeref1_LinesCode_ok (fr := (fl [[bx b3 #[.i6 y1.Code, .i6 y1.Index] 29], [bx b2 #[.i6 0, .i6 0] 29], [bx b1 #[vp_1] 25]] fr)) text vtext1 (htext1.mono l1) S hy2) rfl tc56 rfl rfl ?_; clear F a S
  rintro _ a w ⟨g2, l2, S, rfl⟩ F; replace S : St g2 [[bx b3 #[.i6 y1.Code, .i6 y1.Index] 29], [bx b2 #[.i6 0, .i6 0] 29], [bx b1 #[vp_1] 25]] fr w := S
  refine wE (ev_assign rfl) F S rfl fun a F=>?_
  refine wpList_nil ?_
  refine then_n ?_
  refine wp_seq ?_
  refine wp_region_lit ?_
  refine wE (ev_move rfl) F S rfl fun a F=>?_
  refine wE (ev_int rfl rfl (bo_neq _ _ _ _)) F S rfl fun a F=>?_
  refine wpList_nil ?_
  refine then_n ?_
  obtain ⟨hc2, hm⟩ | ⟨hc2, hm⟩ := ite_or hm
  ·refine wp_condT F rfl hc2 ?_
   refine wp_seq ?_
   refine wp_region_lit ?_
   refine wE (ev_move rfl) F S rfl fun a F=>?_
   obtain ⟨y3, hy3, hm⟩ := bind_some hm
   refine wl_call0 (wn rfl) rfl F rfl (changeforgeref1_At_ok (fr := (fl [[bx b3 #[.i6 y1.Code, .i6 y1.Index] 29], [bx b2 #[.i6 0, .i6 0] 29], [bx b1 #[vp_1] 25]] fr)) y2 (-2) S hy3) rfl tc36 rfl rfl ?_; clear F a S
   rintro _ a w ⟨g3, l3, S, rfl⟩ F; replace S : St g3 [[bx b3 #[.i6 y1.Code, .i6 y1.Index] 29], [bx b2 #[.i6 0, .i6 0] 29], [bx b1 #[vp_1] 25]] fr w := S
   refine wE (ev_assign rfl) F S rfl fun a F=>?_
   refine wl_storeC (wn rfl) rfl F S rfl rfl (vs := [.i6 y3.Code, .i6 y3.Index]) rfl ts29 (one_cons rfl (one_cons rfl one_nil)) (k := 1) rfl (lb rfl) (c' := #[.i6 y3.Code, .i6 y3.Index]) rfl rfl ?_; clear S; intro w S
   refine wpList_nil ?_
   refine then_n ?_
   refine wp_ret ?_
   refine then_r ?_
   obtain rfl := sinj hm
   replace S : St g3 [[], [bx b3 #[.i6 y1.Code, .i6 y1.Index] 29], [bx b2 #[.i6 y3.Code, .i6 y3.Index] 29], [bx b1 #[vp_1] 25]] fr w := S
   refine post_r _ F rfl (ar_cons (resT rfl) (ar_cons (resA rfl tu29 rfl (box_ptr (cells := [.i6 y3.Code, .i6 y3.Index]) 2 rfl 0 rfl (lb rfl) w S) ts29) ar_nil)) ?_
   replace S : St g3 [[]] fr w := St.tail [[]] _ (S.frontC 0 rfl)
   exact ⟨_, rfl, g3, (nilS), [], ((l1.trans l2).trans l3), S, (OwnS.nil _), rfl⟩
  ·refine wp_condF F rfl hc2 ?_
   refine wp_skip ?_
   refine then_n ?_
   refine wp_cut (fun a w => ∃ (g4 : Gh), Fr 86 a [(5, bp b2 0), (2, bp b1 0), (1, vtext1)] ∧ Le g2 g4 ∧ St g4 [[bx b2 #[.i6 0, .i6 0] 29], [bx b1 #[vp_1] 25]] fr w ∧ changeforgeref1_Apply.j1 p_ text = some r) ?_ ?_
   ·refine wp_seq ?_
    refine wp_region_lit ?_
    refine wE (ev_assign rfl) F S rfl fun a F=>?_
    refine wpList_nil ?_
    refine then_n ?_
    refine wp_block ?_
    obtain ⟨r2, hr7, hm⟩ := bind_some hm
    have hmo2 := hm; clear hm
    refine wp_iter (σ := Int) (ρ := ((List ByteArray) × Fault) ⊕ Unit) (m := fun s => changeforgeref1_Apply.l2 p_ text s) (I := fun x5 a w => ∃ (g9 : Gh), Fr 86 a [(8, .i6 x5), (5, bp b2 0), (2, bp b1 0), (1, vtext1)] ∧ Le g2 g9 ∧ St g9 [[bx b2 #[.i6 0, .i6 0] 29], [bx b1 #[vp_1] 25]] fr w) hr7 ?_ ?_
    ·replace S : St g2 [[bx b2 #[.i6 0, .i6 0] 29], [bx b1 #[vp_1] 25]] fr w := St.tail [[bx b2 #[.i6 0, .i6 0] 29], [bx b1 #[vp_1] 25]] _ ((S.frontC 2 rfl).frontC 2 rfl)
     exact ⟨g2, F.sub ⟨rfl, rfl, rfl, rfl, trivial⟩, (Le.refl _), S⟩
    ·clear F S; rintro x5 a w x6 ⟨g9, F, l9, S⟩ hx2 hfin2
     have hm : changeforgeref1_Apply.l2 p_ text x5 = some x6 := hx2; clear hx2
     unfold changeforgeref1_Apply.l2 at hm
     refine wp_seq ?_
     refine wp_seq ?_
     refine wp_region_lit ?_
     refine wE (ev_move rfl) F S rfl fun a F=>?_
     refine wE (ev_fieldAddr' tu25 tf25_0 (z := 0) ts23 rfl ⟨_, rfl⟩ rfl) F S rfl fun a F=>?_
     refine wE (ev_load1 tu23 rfl rfl (box_ptr (cells := [vp_1]) 1 rfl 0 rfl (lb rfl))) F S rfl fun a F=>?_
     refine wE (ev_lenSh hp_1 rfl tu23) F S rfl fun a F=>?_
     refine wE (ev_int rfl rfl (bo_lss _ _ _ _)) F S rfl fun a F=>?_
     refine wpList_nil ?_
     refine then_n ?_
     obtain ⟨hc5, hm⟩ | ⟨hc5, hm⟩ := ite_or hm
     ·refine wp_condT F rfl hc5 ?_
      refine wp_skip ?_
      refine then_n ?_
      refine wp_seq ?_
      refine wp_block ?_
      refine wp_seq ?_
      refine wp_quiet mo (by kernel_rfl) S ?_
      refine wq_ev (wn rfl) (ev_move rfl) F rfl rfl ?_; clear F a; intro a F
      refine wq_ev (wn rfl) (ev_fieldAddr' tu25 tf25_0 (z := 0) ts23 rfl ⟨_, rfl⟩ rfl) F rfl rfl ?_; clear F a; intro a F
      refine wq_ev (wn rfl) (ev_load1 tu23 rfl rfl (box_ptr (cells := [vp_1]) 1 rfl 0 rfl (lb rfl))) F rfl rfl ?_; clear F a; intro a F
      refine wq_ev (wn rfl) (ev_move rfl) F rfl rfl ?_; clear F a; intro a F
      obtain ⟨y13, hy13, hm⟩ := bind_some hm
      obtain ⟨cs6, hr8, hp2⟩ := elemS (hp_1.mono ((l1.trans l2).trans l9)) hy13
      obtain ⟨v13, v14, rfl, h13, h14⟩ := rep_Hunk hr8
      refine wq_ev (wn rfl) (ev_idxS (hp_1.mono ((l1.trans l2).trans l9)) hy13 tu23 ts69 rfl rfl) F rfl rfl ?_; clear F a; intro a F
      have hp3 := PtrC.field hp2 0 1 (lb rfl)
      have hp3 : PtrC g9 (addP (elemP vp_1 x5 3) 0) [.i6 y13.At] := hp3
      refine wq_ev (wn rfl) (ev_fieldAddr' tu69 tf69_0 (z := 0) ts3 rfl hp2.ptr rfl) F rfl rfl ?_; clear F a; intro a F
      refine wq_ev (wn rfl) (ev_load1 tu3 rfl rfl (ptr_mono (cks := [[bx b2 #[.i6 0, .i6 0] 29], [bx b1 #[vp_1] 25]]) (fr := fr) hp3 (Le.refl _))) F rfl rfl ?_; clear F a; intro a F
      refine wq_ev (wn rfl) (ev_fieldAddr' tu25 tf25_0 (z := 0) ts23 rfl ⟨_, rfl⟩ rfl) F rfl rfl ?_; clear F a; intro a F
      refine wq_ev (wn rfl) (ev_load1 tu23 rfl rfl (box_ptr (cells := [vp_1]) 1 rfl 0 rfl (lb rfl))) F rfl rfl ?_; clear F a; intro a F
      refine wq_ev (wn rfl) (ev_move rfl) F rfl rfl ?_; clear F a; intro a F
      obtain ⟨y14, hy14, hm⟩ := bind_some hm
      obtain ⟨cs7, hr9, hp4⟩ := elemS (hp_1.mono ((l1.trans l2).trans l9)) hy14
      obtain ⟨v15, v16, rfl, h15, h16⟩ := rep_Hunk hr9
      refine wq_ev (wn rfl) (ev_idxS (hp_1.mono ((l1.trans l2).trans l9)) hy14 tu23 ts69 rfl rfl) F rfl rfl ?_; clear F a; intro a F
      have hp5 := PtrC.field hp4 1 1 (lb rfl)
      have hp5 : PtrC g9 (addP (elemP vp_1 x5 3) 1) [v15] := hp5
      refine wq_ev (wn rfl) (ev_fieldAddr' tu69 tf69_1 (z := 0) ts22 rfl hp4.ptr rfl) F rfl rfl ?_; clear F a; intro a F
      refine wq_ev (wn rfl) (ev_load1 tu22 rfl rfl (ptr_mono (cks := [[bx b2 #[.i6 0, .i6 0] 29], [bx b1 #[vp_1] 25]]) (fr := fr) hp5 (Le.refl _))) F rfl rfl ?_; clear F a; intro a F
      obtain ⟨y15, hy15, hm⟩ := bind_some hm
      refine wq_call (wn rfl) rfl (xs := [.tmp 32, .tmp 38, .tmp 44]) (vs := [vtext1, .i6 y13.At, v15]) (cap := []) F rfl rfl tc116 (v := .bool y15) (fun w S => (changeforgeref1_has_ok (g := g9) (fr := (fl [[bx b2 #[.i6 0, .i6 0] 29], [bx b1 #[vp_1] 25]] fr)) (w := w) text vtext1 (htext1.mono ((l1.trans l2).trans l9)) y13.At y14.Old v15 h15 S hy15).mono (by rintro en w' ⟨_, rfl, g2, l2, S2, rfl⟩; exact ⟨rfl, S2.weak l2⟩)) rfl rfl ?_; clear F a; intro a F
      refine wq_ev (wn rfl) (ev_not rfl) F rfl rfl ?_; clear F a; intro a F
      refine wq_nil ?_; clear S; intro w S
      refine then_n ?_
      obtain ⟨hc6, hm⟩ | ⟨hc6, hm⟩ := ite_or hm
      ·refine wp_condT F rfl hc6 ?_
       refine wp_seq ?_
       refine wp_region_lit ?_
       refine wE (ev_move rfl) F S rfl fun a F=>?_
       obtain ⟨y16, hy16, hm⟩ := bind_some hm
       refine wl_call0 (wn rfl) rfl F rfl (changeforgeref1_At_ok (fr := (fl [[bx b2 #[.i6 0, .i6 0] 29], [bx b1 #[vp_1] 25]] fr)) 19 x5 S hy16) rfl tc36 rfl rfl ?_; clear F a S
       rintro _ a w ⟨g11, l11, S, rfl⟩ F; replace S : St g11 [[bx b2 #[.i6 0, .i6 0] 29], [bx b1 #[vp_1] 25]] fr w := S
       refine wE (ev_assign rfl) F S rfl fun a F=>?_
       refine wl_storeC (wn rfl) rfl F S rfl rfl (vs := [.i6 y16.Code, .i6 y16.Index]) rfl ts29 (one_cons rfl (one_cons rfl one_nil)) (k := 0) rfl (lb rfl) (c' := #[.i6 y16.Code, .i6 y16.Index]) rfl rfl ?_; clear S; intro w S
       refine wpList_nil ?_
       refine then_n ?_
       refine wp_ret ?_
       refine inb_r ?_
       refine then_r ?_
       refine then_r ?_
       refine inb_r ?_
       refine then_r ?_
       obtain rfl := sinj hm
       obtain rfl := hfin2 _ rfl
       clear hm
       have hm : (some ([], y16) : Option ((List ByteArray) × Fault)) = some _ := hmo2
       obtain rfl := sinj hm
       replace S : St g11 [[], [bx b2 #[.i6 y16.Code, .i6 y16.Index] 29], [bx b1 #[vp_1] 25]] fr w := S
       refine post_r _ F rfl (ar_cons (resT rfl) (ar_cons (resA rfl tu29 rfl (box_ptr (cells := [.i6 y16.Code, .i6 y16.Index]) 1 rfl 0 rfl (lb rfl) w S) ts29) ar_nil)) ?_
       replace S : St g11 [[]] fr w := St.tail [[]] _ (S.frontC 0 rfl)
       exact ⟨_, rfl, g11, (nilS), [], (((l1.trans l2).trans l9).trans l11), S, (OwnS.nil _), rfl⟩
      ·refine wp_condF F rfl hc6 ?_
       refine wp_skip ?_
       refine inb_n ?_
       refine then_n ?_
       refine wp_region_lit ?_
       refine wE (ev_move rfl) F S rfl fun a F=>?_
       obtain ⟨z3, hz3, hm⟩ := bind_some hm
       refine wE (ev_int rfl rfl (bo_add hz3)) F S rfl fun a F=>?_
       refine wE (ev_assign rfl) F S rfl fun a F=>?_
       refine wpList_nil ?_
       refine then_n ?_
       obtain rfl := sinj hm
       refine ⟨_, rfl, ?_⟩
       exact ⟨g9, F.sub ⟨rfl, rfl, rfl, rfl, trivial⟩, l9, S⟩
     ·refine wp_condF F rfl hc5 ?_
      refine wp_exit ?_
      refine then_e ?_
      refine then_e ?_
      refine inb_x ?_
      refine then_n ?_
      obtain rfl := sinj hm
      obtain rfl := hfin2 _ rfl
      clear hm
      have hm : (changeforgeref1_Apply.j1 p_ text : Option ((List ByteArray) × Fault)) = some _ := hmo2
      exact ⟨g9, F.sub ⟨rfl, rfl, rfl, trivial⟩, l9, S, hm⟩
   ·clear F S hm; rintro a w ⟨g4, F, l4, S, hm⟩
    refine wp_seq ?_
    refine wp_region_lit ?_
    refine wl_lit (l := ([] : List ByteArray)) (vs := []) (parts := []) (wn rfl) rfl rfl rfl tu22 te9 sz_nil rfl (Cat.nil _) coa_nil rfl F S rfl rfl ?_; clear F a S
    rintro v1 c1 a w h1 F S
    refine wE (ev_move rfl) F S rfl fun a F=>?_
    obtain ⟨cs1, hk1, hr1⟩ := RepSl.reads (htext1.mono ((l1.trans l2).trans l4))
    obtain ⟨y4, hy4, hm⟩ := bind_some hm
    refine wl_append (wn rfl) rfl tu22 tu22 te9 (by decide) (by decide) F S rfl rfl (k := 0) rfl h1 hk1 rfl (hr1 _ _ S) hy4 rfl rfl ?_; clear F a S
    rintro v2 c2 a w h2 S F; replace S : St g4 [c2, [bx b2 #[.i6 0, .i6 0] 29], [bx b1 #[vp_1] 25]] fr w := S
    refine wE (ev_assign rfl) F S rfl fun a F=>?_
    refine wpList_nil ?_
    refine then_n ?_
    refine wp_cut (fun a w => ∃ (x1 : List ByteArray) (v3 : Value) (c3 : Hl) (g5 : Gh), Fr 86 a [(9, v3), (5, bp b2 0)] ∧ Le g4 g5 ∧ St g5 [c3, [bx b2 #[.i6 0, .i6 0] 29]] fr w ∧ OwnS g5 x1 v3 c3 ∧ changeforgeref1_Apply.j2 x1 = some r) ?_ ?_
    ·refine wp_seq ?_
     refine wp_region_lit ?_
     refine wE (ev_fieldAddr' tu25 tf25_0 (z := 0) ts23 rfl ⟨_, rfl⟩ rfl) F S rfl fun a F=>?_
     refine wE (ev_load1 tu23 rfl rfl (box_ptr (cells := [vp_1]) 2 rfl 0 rfl (lb rfl))) F S rfl fun a F=>?_
     refine wE (ev_lenSh hp_1 rfl tu23) F S rfl fun a F=>?_
     obtain ⟨z1, hz1, hm⟩ := bind_some hm
     refine wE (ev_int rfl rfl (bo_sub hz1)) F S rfl fun a F=>?_
     refine wE (ev_assign rfl) F S rfl fun a F=>?_
     refine wpList_nil ?_
     refine then_n ?_
     refine wp_block ?_
     obtain ⟨r1, hr2, hm⟩ := bind_some hm
     have hmo1 := hm; clear hm
     refine wp_iter (σ := Int × (List ByteArray)) (ρ := (List ByteArray)) (m := fun s => changeforgeref1_Apply.l1 p_ s.1 s.2) (I := fun s a w => match s with | (x2, x3) => ∃ (v4 : Value) (c4 : Hl) (g7 : Gh), Fr 86 a [(10, .i6 x2), (9, v4), (5, bp b2 0), (2, bp b1 0)] ∧ Le g4 g7 ∧ St g7 [c4, [bx b2 #[.i6 0, .i6 0] 29], [bx b1 #[vp_1] 25]] fr w ∧ OwnS g7 x3 v4 c4) hr2 ?_ ?_
     ·dsimp only
      exact ⟨v2, c2, g4, F.sub ⟨rfl, rfl, rfl, rfl, trivial⟩, (Le.refl _), S, h2⟩
     ·clear F S; rintro ⟨x2, x3⟩ a w x4 ⟨v4, c4, g7, F, l7, S, h4⟩ hx1 hfin1
      have hm : changeforgeref1_Apply.l1 p_ x2 x3 = some x4 := hx1; clear hx1
      unfold changeforgeref1_Apply.l1 at hm
      refine wp_seq ?_
      refine wp_seq ?_
      refine wp_region_lit ?_
      refine wE (ev_move rfl) F S rfl fun a F=>?_
      refine wE (ev_int rfl rfl (bo_geq _ _ _ _)) F S rfl fun a F=>?_
      refine wpList_nil ?_
      refine then_n ?_
      obtain ⟨hc4, hm⟩ | ⟨hc4, hm⟩ := ite_or hm
      ·refine wp_condT F rfl hc4 ?_
       refine wp_skip ?_
       refine then_n ?_
       refine wp_seq ?_
       refine wp_block ?_
       refine wp_seq ?_
       refine wp_region_lit ?_
       refine wE (ev_fieldAddr' tu25 tf25_0 (z := 0) ts23 rfl ⟨_, rfl⟩ rfl) F S rfl fun a F=>?_
       refine wE (ev_load1 tu23 rfl rfl (box_ptr (cells := [vp_1]) 2 rfl 0 rfl (lb rfl))) F S rfl fun a F=>?_
       refine wE (ev_move rfl) F S rfl fun a F=>?_
       obtain ⟨y6, hy6, hm⟩ := bind_some hm
       obtain ⟨cs2, hr3, hp1⟩ := elemS (hp_1.mono (((l1.trans l2).trans l4).trans l7)) hy6
       obtain ⟨v5, v6, rfl, h5, h6⟩ := rep_Hunk hr3
       refine wE (ev_idxS (hp_1.mono (((l1.trans l2).trans l4).trans l7)) hy6 tu23 ts69 rfl rfl) F S rfl fun a F=>?_
       refine wE (ev_loadA tu69 rfl (cs := [.i6 y6.At, v5, v6]) ts69 rfl (ptr_mono (cks := [c4, [bx b2 #[.i6 0, .i6 0] 29], [bx b1 #[vp_1] 25]]) (fr := fr) hp1 (Le.refl _))) F S rfl fun a F=>?_
       refine wl_alloc (wn rfl) rfl tz69 (cs := [.i6 0, nilS, nilS]) rfl F S rfl rfl ?_; clear F a S; rintro b4 a w F S
       refine wl_storeC (wn rfl) rfl F S rfl rfl (vs := [.i6 y6.At, v5, v6]) rfl ts69 (one_cons rfl (one_cons h5.one (one_cons h6.one one_nil))) (k := 0) rfl (lb rfl) (c' := #[.i6 y6.At, v5, v6]) rfl rfl ?_; clear S; intro w S
       refine wpList_nil ?_
       refine then_n ?_
       refine wp_seq ?_
       refine wp_region_lit ?_
       refine wl_lit (l := ([] : List ByteArray)) (vs := []) (parts := []) (wn rfl) rfl rfl rfl tu22 te9 sz_nil rfl (Cat.nil _) coa_nil rfl F S rfl rfl ?_; clear F a S
       rintro v7 c5 a w h7 F S
       refine wE (ev_move rfl) F S rfl fun a F=>?_
       refine wE (ev_loadA tu69 rfl (cs := [.i6 y6.At, v5, v6]) ts69 rfl (box_ptr (cells := [.i6 y6.At, v5, v6]) 1 rfl 0 rfl (lb rfl))) F S rfl fun a F=>?_
       obtain ⟨y7, hy7, hm⟩ := bind_some hm
       refine wl_call0 (wn rfl) rfl F rfl (changeforgeref1_End_ok (fr := (fl [c5, [bx b4 #[.i6 y6.At, v5, v6] 69], c4, [bx b2 #[.i6 0, .i6 0] 29], [bx b1 #[vp_1] 25]] fr)) y6 v5 h5 v6 h6 S hy7) rfl tc80 rfl rfl ?_; clear F a S
       rintro _ a w ⟨g8, l8, S, rfl⟩ F; replace S : St g8 [c5, [bx b4 #[.i6 y6.At, v5, v6] 69], c4, [bx b2 #[.i6 0, .i6 0] 29], [bx b1 #[vp_1] 25]] fr w := S
       obtain ⟨y8, hy8, hm⟩ := bind_some hm
       obtain ⟨v8, h8, he1⟩ := ev_cutV (P := Tryd.prog) (n := 86) (e := [(68, .i6 y7), (67, .agg #[.i6 y6.At, v5, v6]), (66, v4), (65, v7), (11, bp b4 0), (64, .agg #[.i6 y6.At, v5, v6]), (63, (elemP vp_1 x2 3)), (62, .i6 x2), (61, vp_1), (60, bp b1 0), (57, .bool (decide (x2 ≥ 0))), (56, .i6 x2), (10, .i6 x2), (9, v4), (5, bp b2 0), (2, bp b1 0)]) (C := fun w => St g8 [c5, [bx b4 #[.i6 y6.At, v5, v6] 69], c4, [bx b2 #[.i6 0, .i6 0] 29], [bx b1 #[vp_1] 25]] fr w) (x := .tmp 66) (lo := some (.tmp 68)) (hi := Option.none) (h4.mono l8) hy8 tu22 ts9 rfl (bndV rfl) (bnd0 _)
       refine wE he1 F S rfl fun a F=>?_
       obtain ⟨_, cs3, hk2, hr4⟩ := h8
       obtain ⟨y9, hy9, hm⟩ := bind_some hm
       refine wl_append (wn rfl) rfl tu22 tu22 te9 (by decide) (by decide) F S rfl rfl (k := 0) rfl (h7.mono l8) hk2 rfl (hr4 _ _ _ 2 rfl S) hy9 rfl rfl ?_; clear F a S
       rintro v9 c6 a w h9 S F; replace S : St g8 [c6, [bx b4 #[.i6 y6.At, v5, v6] 69], c4, [bx b2 #[.i6 0, .i6 0] 29], [bx b1 #[vp_1] 25]] fr w := S
       refine wE (ev_assign rfl) F S rfl fun a F=>?_
       refine wpList_nil ?_
       refine then_n ?_
       refine wp_dv [9] mo S ?_; clear S; intro ok2 w S
       refine dv_et ok2 0 rfl (ev_move rfl) F rfl fun a F=>?_
       refine dv_et ok2 1 rfl (ev_fieldAddr' tu69 tf69_0 (z := 0) ts3 rfl ⟨_, rfl⟩ rfl) F rfl fun a F=>?_
       refine dv_ev ok2 2 rfl (ev_load1 tu3 rfl rfl (box_ptr (cells := [.i6 y6.At]) 1 rfl 0 rfl (lb rfl))) F S rfl fun a F=>?_
       obtain ⟨y10, hy10, hm⟩ := bind_some hm
       obtain ⟨v10, h10, he2⟩ := ev_cutOwn (P := Tryd.prog) (n := 86) (e := [(73, .i6 y6.At), (72, bp b4 0), (71, v4), (12, v9), (70, v9), (69, v8), (68, .i6 y7), (67, .agg #[.i6 y6.At, v5, v6]), (66, v4), (65, v7), (11, bp b4 0), (64, .agg #[.i6 y6.At, v5, v6]), (63, (elemP vp_1 x2 3)), (62, .i6 x2), (61, vp_1), (60, bp b1 0), (57, .bool (decide (x2 ≥ 0))), (56, .i6 x2), (10, .i6 x2), (9, v4), (5, bp b2 0), (2, bp b1 0)]) (C := fun _ => True) (x := .tmp 71) (lo := Option.none) (hi := some (.tmp 73)) (h4.mono l8) hy10 tu22 ts9 rfl (bnd0 _) (bndV rfl)
       refine dv_et ok2 3 rfl he2 F rfl fun a F=>?_
       refine dv_et ok2 4 rfl (ev_fieldAddr' tu69 tf69_2 (z := 0) ts22 rfl ⟨_, rfl⟩ rfl) F rfl fun a F=>?_
       refine dv_ev ok2 5 rfl (ev_load1 tu22 rfl rfl (box_ptr (cells := [v6]) 1 rfl 2 rfl (lb rfl))) F S rfl fun a F=>?_
       refine dv_et ok2 7 rfl (ev_move rfl) F rfl fun a F=>?_
       refine dv_op ok2 6 rfl [] ?_
       obtain ⟨cs4, hk3, hr5⟩ := RepSl.reads (h6.mono l8)
       obtain ⟨y11, hy11, hm⟩ := bind_some hm
       refine wl_append (wn rfl) rfl tu22 tu22 te9 (by decide) (by decide) F S rfl rfl (k := 2) rfl h10 hk3 rfl (hr5 _ _ S) hy11 rfl rfl ?_; clear F a S
       rintro v11 c7 a w h11 S F; replace S : St g8 [c6, [bx b4 #[.i6 y6.At, v5, v6] 69], c7, [bx b2 #[.i6 0, .i6 0] 29], [bx b1 #[vp_1] 25]] fr w := S
       refine dv_nx trivial ?_
       refine dv_op ok2 8 rfl [] ?_
       obtain ⟨cs5, hk4, hr6⟩ := OwnS.reads h9
       obtain ⟨y12, hy12, hm⟩ := bind_some hm
       refine wl_append (wn rfl) rfl tu22 tu22 te9 (by decide) (by decide) F S rfl rfl (k := 2) rfl h11 hk4 rfl (hr6 _ _ _ 0 rfl S) hy12 rfl rfl ?_; clear F a S
       rintro v12 c8 a w h12 S F; replace S : St g8 [c6, [bx b4 #[.i6 y6.At, v5, v6] 69], c8, [bx b2 #[.i6 0, .i6 0] 29], [bx b1 #[vp_1] 25]] fr w := S
       refine dv_nx trivial ?_
       refine dv_op ok2 9 rfl [] ?_
       refine wE (ev_assign rfl) F S rfl fun a F=>?_
       refine dv_nx trivial ?_
       refine dv_fin ok2 ?_
       refine inb_n ?_
       refine then_n ?_
       refine wp_region_lit ?_
       refine wE (ev_move rfl) F S rfl fun a F=>?_
       obtain ⟨z2, hz2, hm⟩ := bind_some hm
       refine wE (ev_int rfl rfl (bo_sub hz2)) F S rfl fun a F=>?_
       refine wE (ev_assign rfl) F S rfl fun a F=>?_
       refine wpList_nil ?_
       refine then_n ?_
       obtain rfl := sinj hm
       refine ⟨_, rfl, ?_⟩
       dsimp only
       replace S : St g8 [c8, [bx b2 #[.i6 0, .i6 0] 29], [bx b1 #[vp_1] 25]] fr w := St.tail [c8, [bx b2 #[.i6 0, .i6 0] 29], [bx b1 #[vp_1] 25]] _ (((S.frontC 4 rfl).frontC 4 rfl).frontC 4 rfl)
       exact ⟨v12, c8, g8, F.sub ⟨rfl, rfl, rfl, rfl, trivial⟩, (l7.trans l8), S, h12⟩
      ·refine wp_condF F rfl hc4 ?_
       refine wp_exit ?_
       refine then_e ?_
       refine then_e ?_
       refine inb_x ?_
       refine then_n ?_
       obtain rfl := sinj hm
       obtain rfl := hfin1 _ rfl
       clear hm
       have hm : (changeforgeref1_Apply.j2 x3 : Option ((List ByteArray) × Fault)) = some _ := hmo1
       replace S : St g7 [c4, [bx b2 #[.i6 0, .i6 0] 29]] fr w := St.tail [c4, [bx b2 #[.i6 0, .i6 0] 29]] _ ((S.frontC 1 rfl).frontC 1 rfl)
       exact ⟨x3, v4, c4, g7, F.sub ⟨rfl, rfl, trivial⟩, l7, S, h4, hm⟩
    ·clear F S hm; rintro a w ⟨x1, v3, c3, g5, F, l5, S, h3, hm⟩
     refine wp_seq ?_
     refine wp_seq ?_
     refine wp_region_lit ?_
     refine wE (ev_move rfl) F S rfl fun a F=>?_
     refine wE (ev_lenOw h3 rfl tu22) F S rfl fun a F=>?_
     refine wE (ev_int rfl rfl (bo_gtr _ _ _ _)) F S rfl fun a F=>?_
     refine wpList_nil ?_
     refine then_n ?_
     obtain ⟨hc3, hm⟩ | ⟨hc3, hm⟩ := ite_or hm
     ·refine wp_condT F rfl hc3 ?_
      refine wp_seq ?_
      refine wp_region_lit ?_
      obtain ⟨y5, hy5, hm⟩ := bind_some hm
      refine wl_call0 (wn rfl) rfl F rfl (changeforgeref1_At_ok (fr := (fl [c3, [bx b2 #[.i6 0, .i6 0] 29]] fr)) 10 (-1) S hy5) rfl tc36 rfl rfl ?_; clear F a S
      rintro _ a w ⟨g6, l6, S, rfl⟩ F; replace S : St g6 [c3, [bx b2 #[.i6 0, .i6 0] 29]] fr w := S
      refine wE (ev_assign rfl) F S rfl fun a F=>?_
      refine wl_storeC (wn rfl) rfl F S rfl rfl (vs := [.i6 y5.Code, .i6 y5.Index]) rfl ts29 (one_cons rfl (one_cons rfl one_nil)) (k := 1) rfl (lb rfl) (c' := #[.i6 y5.Code, .i6 y5.Index]) rfl rfl ?_; clear S; intro w S
      refine wpList_nil ?_
      refine then_n ?_
      refine wp_ret ?_
      refine then_r ?_
      obtain rfl := sinj hm
      replace S : St g6 [[], c3, [bx b2 #[.i6 y5.Code, .i6 y5.Index] 29]] fr w := S
      refine post_r _ F rfl (ar_cons (resT rfl) (ar_cons (resA rfl tu29 rfl (box_ptr (cells := [.i6 y5.Code, .i6 y5.Index]) 2 rfl 0 rfl (lb rfl) w S) ts29) ar_nil)) ?_
      replace S : St g6 [[]] fr w := St.tail [[]] _ (S.frontC 0 rfl)
      exact ⟨_, rfl, g6, (nilS), [], ((((l1.trans l2).trans l4).trans l5).trans l6), S, (OwnS.nil _), rfl⟩
     ·refine wp_condF F rfl hc3 ?_
      refine wp_skip ?_
      refine then_n ?_
      refine wp_seq ?_
      refine wp_region_lit ?_
      refine wE (ev_move rfl) F S rfl fun a F=>?_
      refine wE (ev_build (parts := []) (vs := []) rfl (fun w => tb29_  w)) F S rfl fun a F=>?_
      refine wE (ev_assign rfl) F S rfl fun a F=>?_
      refine wl_storeC (wn rfl) rfl F S rfl rfl (vs := [.i6 0, .i6 0]) rfl ts29 (one_cons rfl (one_cons rfl one_nil)) (k := 1) rfl (lb rfl) (c' := #[.i6 0, .i6 0]) rfl rfl ?_; clear S; intro w S
      refine wpList_nil ?_
      refine then_n ?_
      refine wp_ret ?_
      obtain rfl := sinj hm
      refine post_r _ F rfl (ar_cons (resT rfl) (ar_cons (resA rfl tu29 rfl (box_ptr (cells := [.i6 0, .i6 0]) 1 rfl 0 rfl (lb rfl) w S) ts29) ar_nil)) ?_
      replace S : St g5 [c3] fr w := St.tail [c3] _ (S.frontC 0 rfl)
      exact ⟨_, rfl, g5, v3, c3, (((l1.trans l2).trans l4).trans l5), S, h3, rfl⟩

theorem changeforgeref2_Change_ok {g : Gh} {fr : Hl} {w : World} {r : FileTree × Int} (t_ : FileTree) (vt_1 : Value) (ht_1 : RepSl g t_.Files vt_1) (c_ : TreeChange) (vc_1 : Value) (hc_1 : RepSl g c_.Lines vc_1) (vc_2 : Value) (hc_2 : RepSl g c_.Patch.Hunks vc_2) (S : St g [] fr w) (hm : changeforgeref2_Change t_ c_ = some r) :
  Calls Tryd.prog 50 [.agg #[vt_1], .agg #[.i6 c_.Kind, .string c_.Path, .string c_.To, vc_1, vc_2]].toArray w (fun en w' => ∃ v, en = .returned v ∧ ∃ (g' : Gh) (v1 : Value), Le g g' ∧ St g' [] fr w' ∧ RepSl g' r.1.Files v1 ∧ .tuple #[.agg #[v1], .i6 r.2] = v) := by
 unfold changeforgeref2_Change at hm
 refine calls_enter (fn := Tryd.f50) Tryd.func50 rfl Tryd.ntmps50 (lb rfl) ?_
 intro a F
 replace F : Fr 91 a [(0, .agg #[vt_1]), (1, .agg #[.i6 c_.Kind, .string c_.Path, .string c_.To, vc_1, vc_2])] := F
 refine wp_seq ?_
 refine wp_region_lit ?_
 refine wl_boxC (wn rfl) rfl rfl rfl F S rfl rfl ?_; clear F a S; rintro b1 a w F S
 refine wl_boxC (wn rfl) rfl rfl rfl F S rfl rfl ?_; clear F a S; rintro b2 a w F S
 refine wl_alloc (wn rfl) rfl tz44 (cs := [nilS]) rfl F S rfl rfl ?_; clear F a S; rintro b3 a w F S
 refine wE (ev_assign rfl) F S rfl fun a F=>?_
 refine wpList_nil ?_
 refine then_n ?_
 refine wp_seq ?_
 refine wp_seq ?_
 refine wp_region_lit ?_
 refine wE (ev_fieldAddr' tu27 tf27_0 (z := 0) ts3 rfl ⟨_, rfl⟩ rfl) F S rfl fun a F=>?_
 refine wE (ev_load1 tu3 rfl rfl (box_ptr (cells := [.i6 c_.Kind]) 1 rfl 0 rfl (lb rfl))) F S rfl fun a F=>?_
 refine wE (ev_int rfl rfl (bo_eql _ _ _ _)) F S rfl fun a F=>?_
 refine wpList_nil ?_
 refine then_n ?_
 obtain ⟨hc1, hm⟩ | ⟨hc1, hm⟩ := ite_or hm
 ·refine wp_condT F rfl hc1 ?_
  refine wp_seq ?_
  refine wp_region_lit ?_
  refine wE (ev_loadA tu44 rfl (cs := [vt_1]) ts44 rfl (box_ptr (cells := [vt_1]) 2 rfl 0 rfl (lb rfl))) F S rfl fun a F=>?_
  refine wE (ev_fieldAddr' tu27 tf27_1 (z := 0) ts9 rfl ⟨_, rfl⟩ rfl) F S rfl fun a F=>?_
  refine wE (ev_load1 tu9 rfl rfl (box_ptr (cells := [.string c_.Path]) 1 rfl 1 rfl (lb rfl))) F S rfl fun a F=>?_
  refine wE (ev_fieldAddr' tu27 tf27_3 (z := 0) ts22 rfl ⟨_, rfl⟩ rfl) F S rfl fun a F=>?_
  refine wE (ev_load1 tu22 rfl rfl (box_ptr (cells := [vc_1]) 1 rfl 3 rfl (lb rfl))) F S rfl fun a F=>?_
  refine wE (ev_build (parts := [(0, .tmp 14), (1, .tmp 16)]) (vs := [(0, .string c_.Path), (1, vc_1)]) rfl (fun w => tb88_0_1 c_.Path vc_1 (RepSl.isSl hc_1) w)) F S rfl fun a F=>?_
  obtain ⟨y1, hy1, hm⟩ := bind_some hm
  refine wl_call0 (wn rfl) rfl F rfl (changeforgeref2_with_ok (fr := (fl [[bx b3 #[nilS] 44], [bx b2 #[.i6 c_.Kind, .string c_.Path, .string c_.To, vc_1, vc_2] 27], [bx b1 #[vt_1] 44]] fr)) t_ vt_1 ht_1 ({ Path := c_.Path, Lines := c_.Lines } : File) vc_1 hc_1 S hy1) rfl tc90 rfl rfl ?_; clear F a S
  rintro _ a w ⟨g1, v1, l1, S, h1, rfl⟩ F; replace S : St g1 [[bx b3 #[nilS] 44], [bx b2 #[.i6 c_.Kind, .string c_.Path, .string c_.To, vc_1, vc_2] 27], [bx b1 #[vt_1] 44]] fr w := S
  refine wE (ev_extract rfl rfl) F S rfl fun a F=>?_
  refine wE (ev_extract rfl rfl) F S rfl fun a F=>?_
  refine wl_storeC (wn rfl) rfl F S rfl rfl (vs := [v1]) rfl ts44 (one_cons h1.one one_nil) (k := 0) rfl (lb rfl) (c' := #[v1]) rfl rfl ?_; clear S; intro w S
  refine wE (ev_assign rfl) F S rfl fun a F=>?_
  refine wpList_nil ?_
  refine then_n ?_
  refine wp_ret ?_
  refine then_r ?_
  obtain rfl := sinj hm
  refine post_r _ F rfl (ar_cons (resA rfl tu44 rfl (box_ptr (cells := [v1]) 0 rfl 0 rfl (lb rfl) w S) ts44) (ar_cons (resT rfl) ar_nil)) ?_
  replace S : St g1 [] fr w := St.tail [] _ S
  exact ⟨_, rfl, g1, v1, l1, S, h1, rfl⟩
 ·refine wp_condF F rfl hc1 ?_
  refine wp_skip ?_
  refine then_n ?_
  refine wp_seq ?_
  refine wp_region_lit ?_
  refine wE (ev_loadA tu44 rfl (cs := [vt_1]) ts44 rfl (box_ptr (cells := [vt_1]) 2 rfl 0 rfl (lb rfl))) F S rfl fun a F=>?_
  refine wE (ev_fieldAddr' tu27 tf27_1 (z := 0) ts9 rfl ⟨_, rfl⟩ rfl) F S rfl fun a F=>?_
  refine wE (ev_load1 tu9 rfl rfl (box_ptr (cells := [.string c_.Path]) 1 rfl 1 rfl (lb rfl))) F S rfl fun a F=>?_
  obtain ⟨y2, hy2, hm⟩ := bind_some hm
  refine wl_call0 (wn rfl) rfl F rfl (changeforgeref2_FileAt_ok (fr := (fl [[bx b3 #[nilS] 44], [bx b2 #[.i6 c_.Kind, .string c_.Path, .string c_.To, vc_1, vc_2] 27], [bx b1 #[vt_1] 44]] fr)) t_ vt_1 ht_1 c_.Path S hy2) rfl tc91 rfl rfl ?_; clear F a S
  rintro _ a w ⟨g2, l2, S, rfl⟩ F; replace S : St g2 [[bx b3 #[nilS] 44], [bx b2 #[.i6 c_.Kind, .string c_.Path, .string c_.To, vc_1, vc_2] 27], [bx b1 #[vt_1] 44]] fr w := S
  refine wE (ev_assign rfl) F S rfl fun a F=>?_
  refine wpList_nil ?_
  refine then_n ?_
  refine wp_seq ?_
  refine wp_seq ?_
  refine wp_region_lit ?_
  refine wE (ev_move rfl) F S rfl fun a F=>?_
  refine wE (ev_int rfl rfl (bo_lss _ _ _ _)) F S rfl fun a F=>?_
  refine wpList_nil ?_
  refine then_n ?_
  obtain ⟨hc2, hm⟩ | ⟨hc2, hm⟩ := ite_or hm
  ·refine wp_condT F rfl hc2 ?_
   refine wp_seq ?_
   refine wp_region_lit ?_
   refine wE (ev_loadA tu44 rfl (cs := [vt_1]) ts44 rfl (box_ptr (cells := [vt_1]) 2 rfl 0 rfl (lb rfl))) F S rfl fun a F=>?_
   refine wl_storeC (wn rfl) rfl F S rfl rfl (vs := [vt_1]) rfl ts44 (one_cons ht_1.one one_nil) (k := 0) rfl (lb rfl) (c' := #[vt_1]) rfl rfl ?_; clear S; intro w S
   refine wE (ev_assign rfl) F S rfl fun a F=>?_
   refine wpList_nil ?_
   refine then_n ?_
   refine wp_ret ?_
   refine then_r ?_
   obtain rfl := sinj hm
   refine post_r _ F rfl (ar_cons (resA rfl tu44 rfl (box_ptr (cells := [vt_1]) 0 rfl 0 rfl (lb rfl) w S) ts44) (ar_cons (resT rfl) ar_nil)) ?_
   replace S : St g2 [] fr w := St.tail [] _ S
   exact ⟨_, rfl, g2, vt_1, l2, S, (ht_1.mono l2), rfl⟩
  ·refine wp_condF F rfl hc2 ?_
   refine wp_skip ?_
   refine then_n ?_
   refine wp_seq ?_
   refine wp_seq ?_
   refine wp_region_lit ?_
   refine wE (ev_fieldAddr' tu27 tf27_0 (z := 0) ts3 rfl ⟨_, rfl⟩ rfl) F S rfl fun a F=>?_
   refine wE (ev_load1 tu3 rfl rfl (box_ptr (cells := [.i6 c_.Kind]) 1 rfl 0 rfl (lb rfl))) F S rfl fun a F=>?_
   refine wE (ev_int rfl rfl (bo_eql _ _ _ _)) F S rfl fun a F=>?_
   refine wpList_nil ?_
   refine then_n ?_
   obtain ⟨hc3, hm⟩ | ⟨hc3, hm⟩ := ite_or hm
   ·refine wp_condT F rfl hc3 ?_
    refine wp_seq ?_
    refine wp_seq ?_
    refine wp_quiet mo (by kernel_rfl) S ?_
    refine wq_ev (wn rfl) (ev_fieldAddr' tu44 tf44_0 (z := 0) ts42 rfl ⟨_, rfl⟩ rfl) F rfl rfl ?_; clear F a; intro a F
    refine wq_ev (wn rfl) (ev_load1 tu42 rfl rfl (box_ptr (cells := [vt_1]) 2 rfl 0 rfl (lb rfl))) F rfl rfl ?_; clear F a; intro a F
    refine wq_ev (wn rfl) (ev_move rfl) F rfl rfl ?_; clear F a; intro a F
    obtain ⟨y3, hy3, hm⟩ := bind_some hm
    obtain ⟨cs1, hr1, hp1⟩ := elemS (ht_1.mono l2) hy3
    obtain ⟨v2, rfl, h2⟩ := rep_File hr1
    refine wq_ev (wn rfl) (ev_idxS (ht_1.mono l2) hy3 tu42 ts88 rfl rfl) F rfl rfl ?_; clear F a; intro a F
    have hp2 := PtrC.field hp1 1 1 (lb rfl)
    have hp2 : PtrC g2 (addP (elemP vt_1 y2 2) 1) [v2] := hp2
    refine wq_ev (wn rfl) (ev_fieldAddr' tu88 tf88_1 (z := 0) ts22 rfl hp1.ptr rfl) F rfl rfl ?_; clear F a; intro a F
    refine wq_ev (wn rfl) (ev_load1 tu22 rfl rfl (ptr_mono (cks := [[bx b3 #[nilS] 44], [bx b2 #[.i6 c_.Kind, .string c_.Path, .string c_.To, vc_1, vc_2] 27], [bx b1 #[vt_1] 44]]) (fr := fr) hp2 (Le.refl _))) F rfl rfl ?_; clear F a; intro a F
    refine wq_ev (wn rfl) (ev_fieldAddr' tu27 tf27_3 (z := 0) ts22 rfl ⟨_, rfl⟩ rfl) F rfl rfl ?_; clear F a; intro a F
    refine wq_ev (wn rfl) (ev_load1 tu22 rfl rfl (box_ptr (cells := [vc_1]) 1 rfl 3 rfl (lb rfl))) F rfl rfl ?_; clear F a; intro a F
    obtain ⟨y4, hy4, hm⟩ := bind_some hm
    refine wq_call (wn rfl) rfl (xs := [.tmp 36, .tmp 38]) (vs := [v2, vc_1]) (cap := []) F rfl rfl tc92 (v := .bool y4) (fun w S => (changeforgeref1_Equal_ok (g := g2) (fr := (fl [[bx b3 #[nilS] 44], [bx b2 #[.i6 c_.Kind, .string c_.Path, .string c_.To, vc_1, vc_2] 27], [bx b1 #[vt_1] 44]] fr)) (w := w) y3.Lines v2 h2 c_.Lines vc_1 (hc_1.mono l2) S hy4).mono (by rintro en w' ⟨_, rfl, g2, l2, S2, rfl⟩; exact ⟨rfl, S2.weak l2⟩)) rfl rfl ?_; clear F a; intro a F
    refine wq_ev (wn rfl) (ev_not rfl) F rfl rfl ?_; clear F a; intro a F
    refine wq_nil ?_; clear S; intro w S
    refine then_n ?_
    obtain ⟨hc4, hm⟩ | ⟨hc4, hm⟩ := ite_or hm
    ·refine wp_condT F rfl hc4 ?_
     refine wp_seq ?_
     refine wp_region_lit ?_
     refine wE (ev_loadA tu44 rfl (cs := [vt_1]) ts44 rfl (box_ptr (cells := [vt_1]) 2 rfl 0 rfl (lb rfl))) F S rfl fun a F=>?_
     refine wl_storeC (wn rfl) rfl F S rfl rfl (vs := [vt_1]) rfl ts44 (one_cons ht_1.one one_nil) (k := 0) rfl (lb rfl) (c' := #[vt_1]) rfl rfl ?_; clear S; intro w S
     refine wE (ev_assign rfl) F S rfl fun a F=>?_
     refine wpList_nil ?_
     refine then_n ?_
     refine wp_ret ?_
     refine then_r ?_
     refine then_r ?_
     obtain rfl := sinj hm
     refine post_r _ F rfl (ar_cons (resA rfl tu44 rfl (box_ptr (cells := [vt_1]) 0 rfl 0 rfl (lb rfl) w S) ts44) (ar_cons (resT rfl) ar_nil)) ?_
     replace S : St g2 [] fr w := St.tail [] _ S
     exact ⟨_, rfl, g2, vt_1, l2, S, (ht_1.mono l2), rfl⟩
    ·refine wp_condF F rfl hc4 ?_
     refine wp_skip ?_
     refine then_n ?_
     refine wp_seq ?_
     refine wp_region_lit ?_
     refine wE (ev_loadA tu44 rfl (cs := [vt_1]) ts44 rfl (box_ptr (cells := [vt_1]) 2 rfl 0 rfl (lb rfl))) F S rfl fun a F=>?_
     refine wE (ev_move rfl) F S rfl fun a F=>?_
     obtain ⟨y5, hy5, hm⟩ := bind_some hm
     refine wl_call0 (wn rfl) rfl F rfl (changeforgeref2_without_ok (fr := (fl [[bx b3 #[nilS] 44], [bx b2 #[.i6 c_.Kind, .string c_.Path, .string c_.To, vc_1, vc_2] 27], [bx b1 #[vt_1] 44]] fr)) t_ vt_1 (ht_1.mono l2) y2 S hy5) rfl tc93 rfl rfl ?_; clear F a S
     rintro _ a w ⟨g4, v3, c1, l4, S, h3, rfl⟩ F; replace S : St g4 [c1, [bx b3 #[nilS] 44], [bx b2 #[.i6 c_.Kind, .string c_.Path, .string c_.To, vc_1, vc_2] 27], [bx b1 #[vt_1] 44]] fr w := S
     refine wl_storeC (wn rfl) rfl F S rfl rfl (vs := [v3]) rfl ts44 (one_cons (OwnS.one h3) one_nil) (k := 1) rfl (lb rfl) (c' := #[v3]) rfl rfl ?_; clear S; intro w S
     refine wE (ev_assign rfl) F S rfl fun a F=>?_
     refine wpList_nil ?_
     refine then_n ?_
     refine wp_ret ?_
     refine then_r ?_
     obtain rfl := sinj hm
     obtain ⟨g5, l5, S, h4⟩ : ∃ gz, Le g4 gz ∧ St gz [[bx b3 #[v3] 44], [bx b2 #[.i6 c_.Kind, .string c_.Path, .string c_.To, vc_1, vc_2] 27], [bx b1 #[vt_1] 44]] fr w ∧ RepSl gz y5.Files v3 := ⟨_, Le.add _ _, S.freeze 0 rfl, OwnS.freeze (S.front 0 rfl) h3⟩
     refine post_r _ F rfl (ar_cons (resA rfl tu44 rfl (box_ptr (cells := [v3]) 0 rfl 0 rfl (lb rfl) w S) ts44) (ar_cons (resT rfl) ar_nil)) ?_
     replace S : St g5 [] fr w := St.tail [] _ S
     exact ⟨_, rfl, g5, v3, ((l2.trans l4).trans l5), S, h4, rfl⟩
   ·refine wp_condF F rfl hc3 ?_
    refine wp_skip ?_
    refine then_n ?_
    refine wp_seq ?_
    refine wp_seq ?_
    refine wp_region_lit ?_
    refine wE (ev_fieldAddr' tu27 tf27_0 (z := 0) ts3 rfl ⟨_, rfl⟩ rfl) F S rfl fun a F=>?_
    refine wE (ev_load1 tu3 rfl rfl (box_ptr (cells := [.i6 c_.Kind]) 1 rfl 0 rfl (lb rfl))) F S rfl fun a F=>?_
    refine wE (ev_int rfl rfl (bo_eql _ _ _ _)) F S rfl fun a F=>?_
    refine wpList_nil ?_
    refine then_n ?_
    obtain ⟨hc5, hm⟩ | ⟨hc5, hm⟩ := ite_or hm
    ·refine wp_condT F rfl hc5 ?_
     refine wp_seq ?_
     refine wp_dv [] mo S ?_; clear S; intro ok1 w S
     refine dv_ev ok1 0 rfl (ev_loadA tu44 rfl (cs := [vt_1]) ts44 rfl (box_ptr (cells := [vt_1]) 2 rfl 0 rfl (lb rfl))) F S rfl fun a F=>?_
     refine dv_et ok1 1 rfl (ev_move rfl) F rfl fun a F=>?_
     refine dv_et ok1 3 rfl (ev_fieldAddr' tu27 tf27_2 (z := 0) ts9 rfl ⟨_, rfl⟩ rfl) F rfl fun a F=>?_
     refine dv_ev ok1 4 rfl (ev_load1 tu9 rfl rfl (box_ptr (cells := [.string c_.To]) 1 rfl 2 rfl (lb rfl))) F S rfl fun a F=>?_
     refine dv_et ok1 5 rfl (ev_fieldAddr' tu44 tf44_0 (z := 0) ts42 rfl ⟨_, rfl⟩ rfl) F rfl fun a F=>?_
     refine dv_ev ok1 6 rfl (ev_load1 tu42 rfl rfl (box_ptr (cells := [vt_1]) 2 rfl 0 rfl (lb rfl))) F S rfl fun a F=>?_
     refine dv_et ok1 7 rfl (ev_move rfl) F rfl fun a F=>?_
     obtain ⟨y6, hy6, hm⟩ := bind_some hm
     obtain ⟨cs2, hr2, hp3⟩ := elemS (ht_1.mono l2) hy6
     obtain ⟨v4, rfl, h5⟩ := rep_File hr2
     refine dv_et ok1 8 rfl (ev_idxS (ht_1.mono l2) hy6 tu42 ts88 rfl rfl) F rfl fun a F=>?_
     have hp4 := PtrC.field hp3 1 1 (lb rfl)
     have hp4 : PtrC g2 (addP (elemP vt_1 y2 2) 1) [v4] := hp4
     refine dv_et ok1 9 rfl (ev_fieldAddr' tu88 tf88_1 (z := 0) ts22 rfl hp3.ptr rfl) F rfl fun a F=>?_
     refine dv_ev ok1 10 rfl (ev_load1 tu22 rfl rfl (ptr_mono (cks := [[bx b3 #[nilS] 44], [bx b2 #[.i6 c_.Kind, .string c_.Path, .string c_.To, vc_1, vc_2] 27], [bx b1 #[vt_1] 44]]) (fr := fr) hp4 (Le.refl _))) F S rfl fun a F=>?_
     refine dv_et ok1 11 rfl (ev_build (parts := [(0, .tmp 52), (1, .tmp 58)]) (vs := [(0, .string c_.To), (1, v4)]) rfl (fun w => tb88_0_1 c_.To v4 (RepSl.isSl h5) w)) F rfl fun a F=>?_
     refine dv_op ok1 2 rfl [(10, v4), (6, vt_1), (4, .string c_.To)] ?_
     obtain ⟨y7, hy7, hm⟩ := bind_some hm
     refine wl_call0 (wn rfl) rfl F rfl (changeforgeref2_without_ok (fr := (fl [[bx b3 #[nilS] 44], [bx b2 #[.i6 c_.Kind, .string c_.Path, .string c_.To, vc_1, vc_2] 27], [bx b1 #[vt_1] 44]] fr)) t_ vt_1 (ht_1.mono l2) y2 S hy7) rfl tc93 rfl rfl ?_; clear F a S
     rintro _ a w ⟨g6, v5, c2, l6, S, h6, rfl⟩ F; replace S : St g6 [c2, [bx b3 #[nilS] 44], [bx b2 #[.i6 c_.Kind, .string c_.Path, .string c_.To, vc_1, vc_2] 27], [bx b1 #[vt_1] 44]] fr w := S
     refine dv_nx ⟨yl_ev rfl rfl (ev_load1 tu22 rfl rfl (ptr_mono (cks := [c2, [bx b3 #[nilS] 44], [bx b2 #[.i6 c_.Kind, .string c_.Path, .string c_.To, vc_1, vc_2] 27], [bx b1 #[vt_1] 44]]) (fr := fr) hp4 l6)) F S, yl_ev rfl rfl (ev_load1 tu42 rfl rfl (box_ptr (cells := [vt_1]) 3 rfl 0 rfl (lb rfl))) F S, yl_ev rfl rfl (ev_load1 tu9 rfl rfl (box_ptr (cells := [.string c_.To]) 2 rfl 2 rfl (lb rfl))) F S, trivial⟩ ?_
     refine dv_op ok1 12 rfl [] ?_
     obtain ⟨g7, l7, S, h7⟩ : ∃ gz, Le g6 gz ∧ St gz [[bx b3 #[nilS] 44], [bx b2 #[.i6 c_.Kind, .string c_.Path, .string c_.To, vc_1, vc_2] 27], [bx b1 #[vt_1] 44]] fr w ∧ RepSl gz y7.Files v5 := ⟨_, Le.add _ _, S.freeze 0 rfl, OwnS.freeze (S.front 0 rfl) h6⟩
     obtain ⟨y8, hy8, hm⟩ := bind_some hm
     refine wl_call0 (wn rfl) rfl F rfl (changeforgeref2_with_ok (fr := (fl [[bx b3 #[nilS] 44], [bx b2 #[.i6 c_.Kind, .string c_.Path, .string c_.To, vc_1, vc_2] 27], [bx b1 #[vt_1] 44]] fr)) y7 v5 h7 ({ Path := c_.To, Lines := y6.Lines } : File) v4 (h5.mono (l6.trans l7)) S hy8) rfl tc90 rfl rfl ?_; clear F a S
     rintro _ a w ⟨g8, v6, l8, S, h8, rfl⟩ F; replace S : St g8 [[bx b3 #[nilS] 44], [bx b2 #[.i6 c_.Kind, .string c_.Path, .string c_.To, vc_1, vc_2] 27], [bx b1 #[vt_1] 44]] fr w := S
     refine dv_nx trivial ?_
     refine dv_et ok1 13 rfl (ev_extract rfl rfl) F rfl fun a F=>?_
     refine dv_et ok1 14 rfl (ev_extract rfl rfl) F rfl fun a F=>?_
     refine dv_op ok1 15 rfl [] ?_
     refine wl_storeC (wn rfl) rfl F S rfl rfl (vs := [v6]) rfl ts44 (one_cons h8.one one_nil) (k := 0) rfl (lb rfl) (c' := #[v6]) rfl rfl ?_; clear S; intro w S
     refine dv_nx trivial ?_
     refine dv_et ok1 16 rfl (ev_assign rfl) F rfl fun a F=>?_
     refine dv_fin ok1 ?_
     refine then_n ?_
     refine wp_ret ?_
     refine then_r ?_
     obtain rfl := sinj hm
     refine post_r _ F rfl (ar_cons (resA rfl tu44 rfl (box_ptr (cells := [v6]) 0 rfl 0 rfl (lb rfl) w S) ts44) (ar_cons (resT rfl) ar_nil)) ?_
     replace S : St g8 [] fr w := St.tail [] _ S
     exact ⟨_, rfl, g8, v6, (((l2.trans l6).trans l7).trans l8), S, h8, rfl⟩
    ·refine wp_condF F rfl hc5 ?_
     refine wp_skip ?_
     refine then_n ?_
     refine wp_seq ?_
     refine wp_dv [] mo S ?_; clear S; intro ok2 w S
     refine dv_et ok2 0 rfl (ev_fieldAddr' tu27 tf27_4 (z := 0) ts25 rfl ⟨_, rfl⟩ rfl) F rfl fun a F=>?_
     refine dv_ev ok2 1 rfl (ev_loadA tu25 rfl (cs := [vc_2]) ts25 rfl (box_ptr (cells := [vc_2]) 1 rfl 4 rfl (lb rfl))) F S rfl fun a F=>?_
     refine dv_et ok2 2 rfl (ev_fieldAddr' tu44 tf44_0 (z := 0) ts42 rfl ⟨_, rfl⟩ rfl) F rfl fun a F=>?_
     refine dv_ev ok2 3 rfl (ev_load1 tu42 rfl rfl (box_ptr (cells := [vt_1]) 2 rfl 0 rfl (lb rfl))) F S rfl fun a F=>?_
     refine dv_et ok2 4 rfl (ev_move rfl) F rfl fun a F=>?_
     obtain ⟨y9, hy9, hm⟩ := bind_some hm
     obtain ⟨cs3, hr3, hp5⟩ := elemS (ht_1.mono l2) hy9
     obtain ⟨v7, rfl, h9⟩ := rep_File hr3
     refine dv_et ok2 5 rfl (ev_idxS (ht_1.mono l2) hy9 tu42 ts88 rfl rfl) F rfl fun a F=>?_
     have hp6 := PtrC.field hp5 1 1 (lb rfl)
     have hp6 : PtrC g2 (addP (elemP vt_1 y2 2) 1) [v7] := hp6
     refine dv_et ok2 6 rfl (ev_fieldAddr' tu88 tf88_1 (z := 0) ts22 rfl hp5.ptr rfl) F rfl fun a F=>?_
     refine dv_ev ok2 7 rfl (ev_load1 tu22 rfl rfl (ptr_mono (cks := [[bx b3 #[nilS] 44], [bx b2 #[.i6 c_.Kind, .string c_.Path, .string c_.To, vc_1, vc_2] 27], [bx b1 #[vt_1] 44]]) (fr := fr) hp6 (Le.refl _))) F S rfl fun a F=>?_
     obtain ⟨y10, hy10, hm⟩ := bind_some hm
     refine dv_cut [0, 1, 2, 3, 4, 5, 6, 7, 8, 9, 10, 11, 12, 13] [] (fun a w => ∃ (v9 : Value) (b5 : Nat) (c4 : Hl) (g10 : Gh), Fr 91 a [(7, v9), (8, bp b5 0), (74, .agg #[.i6 y10.2.Code, .i6 y10.2.Index]), (6, .i6 y2), (4, bp b3 0), (3, bp b2 0), (2, bp b1 0)] ∧ Le g2 g10 ∧ St g10 [c4, [bx b5 #[.i6 0, .i6 0] 29], [bx b3 #[nilS] 44], [bx b2 #[.i6 c_.Kind, .string c_.Path, .string c_.To, vc_1, vc_2] 27], [bx b1 #[vt_1] 44]] fr w ∧ OwnS g10 y10.1 v9 c4 ∧ changeforgeref2_Change.j1 t_ c_ y2 y10 = some r) ?_ ?_
     ·intro HJ
      refine dv_fork ok2 8 [12] (fk 8 rfl [] ?_ (fk 12 rfl [(7, v7), (3, vt_1), (1, .agg #[vc_2])] ?_ trivial))
      ·refine wl_call0 (wn rfl) rfl F rfl (changeforgeref1_Apply_ok (fr := (fl [[bx b3 #[nilS] 44], [bx b2 #[.i6 c_.Kind, .string c_.Path, .string c_.To, vc_1, vc_2] 27], [bx b1 #[vt_1] 44]] fr)) c_.Patch vc_2 (hc_2.mono l2) y9.Lines v7 h9 S hy10) rfl tc94 rfl rfl ?_; clear F a S
       rintro _ a w ⟨g9, v8, c3, l9, S, h10, rfl⟩ F; replace S : St g9 [c3, [bx b3 #[nilS] 44], [bx b2 #[.i6 c_.Kind, .string c_.Path, .string c_.To, vc_1, vc_2] 27], [bx b1 #[vt_1] 44]] fr w := S
       refine dv_nx trivial ?_
       refine dv_et ok2 9 rfl (ev_move rfl) F rfl fun a F=>?_
       refine dv_et ok2 10 rfl (ev_extract rfl rfl) F rfl fun a F=>?_
       refine dv_et ok2 11 rfl (ev_extract rfl rfl) F rfl fun a F=>?_
       refine dv_op ok2 12 rfl [] ?_
       refine wl_alloc (wn rfl) rfl tz29 (cs := [.i6 0, .i6 0]) rfl F S rfl rfl ?_; clear F a S; rintro b4 a w F S
       refine dv_nx trivial ?_
       refine dv_et ok2 13 rfl (ev_assign rfl) F rfl fun a F=>?_
       refine dv_join (HJ _ _ ?_)
       replace S : St g9 [c3, [bx b4 #[.i6 0, .i6 0] 29], [bx b3 #[nilS] 44], [bx b2 #[.i6 c_.Kind, .string c_.Path, .string c_.To, vc_1, vc_2] 27], [bx b1 #[vt_1] 44]] fr w := St.tail [c3, [bx b4 #[.i6 0, .i6 0] 29], [bx b3 #[nilS] 44], [bx b2 #[.i6 c_.Kind, .string c_.Path, .string c_.To, vc_1, vc_2] 27], [bx b1 #[vt_1] 44]] _ (((((S.frontC 4 rfl).frontC 4 rfl).frontC 4 rfl).frontC 3 rfl).frontC 5 rfl)
       exact ⟨v8, b4, c3, g9, F.sub ⟨rfl, rfl, rfl, rfl, rfl, rfl, rfl, trivial⟩, l9, S, h10, hm⟩
      ·refine wl_alloc (wn rfl) rfl tz29 (cs := [.i6 0, .i6 0]) rfl F S rfl rfl ?_; clear F a S; rintro b4 a w F S
       refine dv_nx ⟨yl_ev rfl rfl (ev_load1 tu22 rfl rfl (ptr_mono (cks := [[bx b4 #[.i6 0, .i6 0] 29], [bx b3 #[nilS] 44], [bx b2 #[.i6 c_.Kind, .string c_.Path, .string c_.To, vc_1, vc_2] 27], [bx b1 #[vt_1] 44]]) (fr := fr) hp6 (Le.refl _))) F S, yl_ev rfl rfl (ev_load1 tu42 rfl rfl (box_ptr (cells := [vt_1]) 3 rfl 0 rfl (lb rfl))) F S, yl_ev rfl rfl (ev_loadA tu25 rfl (cs := [vc_2]) ts25 rfl (box_ptr (cells := [vc_2]) 2 rfl 4 rfl (lb rfl))) F S, trivial⟩ ?_
       refine dv_op ok2 8 rfl [] ?_
       refine wl_call0 (wn rfl) rfl F rfl (changeforgeref1_Apply_ok (fr := (fl [[bx b4 #[.i6 0, .i6 0] 29], [bx b3 #[nilS] 44], [bx b2 #[.i6 c_.Kind, .string c_.Path, .string c_.To, vc_1, vc_2] 27], [bx b1 #[vt_1] 44]] fr)) c_.Patch vc_2 (hc_2.mono l2) y9.Lines v7 h9 S hy10) rfl tc94 rfl rfl ?_; clear F a S
       rintro _ a w ⟨g9, v8, c3, l9, S, h10, rfl⟩ F; replace S : St g9 [c3, [bx b4 #[.i6 0, .i6 0] 29], [bx b3 #[nilS] 44], [bx b2 #[.i6 c_.Kind, .string c_.Path, .string c_.To, vc_1, vc_2] 27], [bx b1 #[vt_1] 44]] fr w := S
       refine dv_nx trivial ?_
       refine dv_et ok2 9 rfl (ev_move rfl) F rfl fun a F=>?_
       refine dv_et ok2 10 rfl (ev_extract rfl rfl) F rfl fun a F=>?_
       refine dv_et ok2 11 rfl (ev_extract rfl rfl) F rfl fun a F=>?_
       refine dv_et ok2 13 rfl (ev_assign rfl) F rfl fun a F=>?_
       refine dv_join (HJ _ _ ?_)
       exact ⟨v8, b4, c3, g9, F.sub ⟨rfl, rfl, rfl, rfl, rfl, rfl, rfl, trivial⟩, l9, S, h10, hm⟩
     ·clear F S hm; rintro a w ⟨v9, b5, c4, g10, F, l10, S, h11, hm⟩
      refine dv_op ok2 14 rfl [] ?_
      refine wl_storeC (wn rfl) rfl F S rfl rfl (vs := [.i6 y10.2.Code, .i6 y10.2.Index]) rfl ts29 (one_cons rfl (one_cons rfl one_nil)) (k := 1) rfl (lb rfl) (c' := #[.i6 y10.2.Code, .i6 y10.2.Index]) rfl rfl ?_; clear S; intro w S
      refine dv_nx trivial ?_
      refine dv_fin ok2 ?_
      refine then_n ?_
      refine wp_seq ?_
      refine wp_seq ?_
      refine wp_region_lit ?_
      refine wE (ev_fieldAddr' tu29 tf29_0 (z := 0) ts3 rfl ⟨_, rfl⟩ rfl) F S rfl fun a F=>?_
      refine wE (ev_load1 tu3 rfl rfl (box_ptr (cells := [.i6 y10.2.Code]) 1 rfl 0 rfl (lb rfl))) F S rfl fun a F=>?_
      refine wE (ev_int rfl rfl (bo_neq _ _ _ _)) F S rfl fun a F=>?_
      refine wpList_nil ?_
      refine then_n ?_
      obtain ⟨hc6, hm⟩ | ⟨hc6, hm⟩ := ite_or hm
      ·refine wp_condT F rfl hc6 ?_
       refine wp_seq ?_
       refine wp_dv [] mo S ?_; clear S; intro ok3 w S
       refine dv_ev ok3 0 rfl (ev_loadA tu44 rfl (cs := [vt_1]) ts44 rfl (box_ptr (cells := [vt_1]) 4 rfl 0 rfl (lb rfl))) F S rfl fun a F=>?_
       refine dv_et ok3 1 rfl (ev_fieldAddr' tu29 tf29_0 (z := 0) ts3 rfl ⟨_, rfl⟩ rfl) F rfl fun a F=>?_
       refine dv_ev ok3 2 rfl (ev_load1 tu3 rfl rfl (box_ptr (cells := [.i6 y10.2.Code]) 1 rfl 0 rfl (lb rfl))) F S rfl fun a F=>?_
       refine dv_op ok3 3 rfl [(2, .i6 y10.2.Code)] ?_
       refine wl_storeC (wn rfl) rfl F S rfl rfl (vs := [vt_1]) rfl ts44 (one_cons ht_1.one one_nil) (k := 2) rfl (lb rfl) (c' := #[vt_1]) rfl rfl ?_; clear S; intro w S
       refine dv_nx ⟨yl_ev rfl rfl (ev_load1 tu3 rfl rfl (box_ptr (cells := [.i6 y10.2.Code]) 1 rfl 0 rfl (lb rfl))) F S, trivial⟩ ?_
       refine dv_et ok3 4 rfl (ev_assign rfl) F rfl fun a F=>?_
       refine dv_fin ok3 ?_
       refine then_n ?_
       refine wp_ret ?_
       refine then_r ?_
       obtain rfl := sinj hm
       refine post_r _ F rfl (ar_cons (resA rfl tu44 rfl (box_ptr (cells := [vt_1]) 2 rfl 0 rfl (lb rfl) w S) ts44) (ar_cons (resT rfl) ar_nil)) ?_
       replace S : St g10 [] fr w := St.tail [] _ S
       exact ⟨_, rfl, g10, vt_1, (l2.trans l10), S, (ht_1.mono (l2.trans l10)), rfl⟩
      ·refine wp_condF F rfl hc6 ?_
       refine wp_skip ?_
       refine then_n ?_
       refine wp_seq ?_
       refine wp_dv [] mo S ?_; clear S; intro ok4 w S
       refine dv_ev ok4 0 rfl (ev_loadA tu44 rfl (cs := [vt_1]) ts44 rfl (box_ptr (cells := [vt_1]) 4 rfl 0 rfl (lb rfl))) F S rfl fun a F=>?_
       refine dv_et ok4 1 rfl (ev_move rfl) F rfl fun a F=>?_
       refine dv_et ok4 3 rfl (ev_fieldAddr' tu27 tf27_1 (z := 0) ts9 rfl ⟨_, rfl⟩ rfl) F rfl fun a F=>?_
       refine dv_ev ok4 4 rfl (ev_load1 tu9 rfl rfl (box_ptr (cells := [.string c_.Path]) 3 rfl 1 rfl (lb rfl))) F S rfl fun a F=>?_
       refine dv_et ok4 5 rfl (ev_move rfl) F rfl fun a F=>?_
       refine dv_et ok4 6 rfl (ev_build (parts := [(0, .tmp 85), (1, .tmp 86)]) (vs := [(0, .string c_.Path), (1, v9)]) rfl (fun w => tb88_0_1 c_.Path v9 (OwnS.isSl h11) w)) F rfl fun a F=>?_
       refine dv_op ok4 2 rfl [(4, .string c_.Path)] ?_
       obtain ⟨y11, hy11, hm⟩ := bind_some hm
       refine wl_call0 (wn rfl) rfl F rfl (changeforgeref2_without_ok (fr := (fl [c4, [bx b5 #[.i6 y10.2.Code, .i6 y10.2.Index] 29], [bx b3 #[nilS] 44], [bx b2 #[.i6 c_.Kind, .string c_.Path, .string c_.To, vc_1, vc_2] 27], [bx b1 #[vt_1] 44]] fr)) t_ vt_1 (ht_1.mono (l2.trans l10)) y2 S hy11) rfl tc93 rfl rfl ?_; clear F a S
       rintro _ a w ⟨g11, v10, c5, l11, S, h12, rfl⟩ F; replace S : St g11 [c5, c4, [bx b5 #[.i6 y10.2.Code, .i6 y10.2.Index] 29], [bx b3 #[nilS] 44], [bx b2 #[.i6 c_.Kind, .string c_.Path, .string c_.To, vc_1, vc_2] 27], [bx b1 #[vt_1] 44]] fr w := S
       refine dv_nx ⟨yl_ev rfl rfl (ev_load1 tu9 rfl rfl (box_ptr (cells := [.string c_.Path]) 4 rfl 1 rfl (lb rfl))) F S, trivial⟩ ?_
       refine dv_op ok4 7 rfl [] ?_
       obtain ⟨g12, l12, S, h13⟩ : ∃ gz, Le g11 gz ∧ St gz [c4, [bx b5 #[.i6 y10.2.Code, .i6 y10.2.Index] 29], [bx b3 #[nilS] 44], [bx b2 #[.i6 c_.Kind, .string c_.Path, .string c_.To, vc_1, vc_2] 27], [bx b1 #[vt_1] 44]] fr w ∧ RepSl gz y11.Files v10 := ⟨_, Le.add _ _, S.freeze 0 rfl, OwnS.freeze (S.front 0 rfl) h12⟩
       obtain ⟨g13, l13, S, h14⟩ : ∃ gz, Le g12 gz ∧ St gz [[bx b5 #[.i6 y10.2.Code, .i6 y10.2.Index] 29], [bx b3 #[nilS] 44], [bx b2 #[.i6 c_.Kind, .string c_.Path, .string c_.To, vc_1, vc_2] 27], [bx b1 #[vt_1] 44]] fr w ∧ RepSl gz y10.1 v9 := ⟨_, Le.add _ _, S.freeze 0 rfl, OwnS.freeze (S.front 0 rfl) (h11.mono (l11.trans l12))⟩
       obtain ⟨y12, hy12, hm⟩ := bind_some hm
       refine wl_call0 (wn rfl) rfl F rfl (changeforgeref2_with_ok (fr := (fl [[bx b5 #[.i6 y10.2.Code, .i6 y10.2.Index] 29], [bx b3 #[nilS] 44], [bx b2 #[.i6 c_.Kind, .string c_.Path, .string c_.To, vc_1, vc_2] 27], [bx b1 #[vt_1] 44]] fr)) y11 v10 (h13.mono l13) ({ Path := c_.Path, Lines := y10.1 } : File) v9 h14 S hy12) rfl tc90 rfl rfl ?_; clear F a S
       rintro _ a w ⟨g14, v11, l14, S, h15, rfl⟩ F; replace S : St g14 [[bx b5 #[.i6 y10.2.Code, .i6 y10.2.Index] 29], [bx b3 #[nilS] 44], [bx b2 #[.i6 c_.Kind, .string c_.Path, .string c_.To, vc_1, vc_2] 27], [bx b1 #[vt_1] 44]] fr w := S
       refine dv_nx trivial ?_
       refine dv_et ok4 8 rfl (ev_extract rfl rfl) F rfl fun a F=>?_
       refine dv_et ok4 9 rfl (ev_extract rfl rfl) F rfl fun a F=>?_
       refine dv_op ok4 10 rfl [] ?_
       refine wl_storeC (wn rfl) rfl F S rfl rfl (vs := [v11]) rfl ts44 (one_cons h15.one one_nil) (k := 1) rfl (lb rfl) (c' := #[v11]) rfl rfl ?_; clear S; intro w S
       refine dv_nx trivial ?_
       refine dv_et ok4 11 rfl (ev_assign rfl) F rfl fun a F=>?_
       refine dv_fin ok4 ?_
       refine then_n ?_
       refine wp_ret ?_
       obtain rfl := sinj hm
       refine post_r _ F rfl (ar_cons (resA rfl tu44 rfl (box_ptr (cells := [v11]) 1 rfl 0 rfl (lb rfl) w S) ts44) (ar_cons (resT rfl) ar_nil)) ?_
       replace S : St g14 [] fr w := St.tail [] _ S
       exact ⟨_, rfl, g14, v11, (((((l2.trans l10).trans l11).trans l12).trans l13).trans l14), S, h15, rfl⟩

theorem changeforgeref2_ApplyTree_ok {g : Gh} {fr : Hl} {w : World} {r : FileTree × Fault} (p_ : TreePatch) (vp_1 : Value) (hp_1 : RepSl g p_.Changes vp_1) (t_ : FileTree) (vt_1 : Value) (ht_1 : RepSl g t_.Files vt_1) (S : St g [] fr w) (hm : changeforgeref2_ApplyTree p_ t_ = some r) :
  Calls Tryd.prog 19 [.agg #[vp_1], .agg #[vt_1]].toArray w (fun en w' => ∃ v, en = .returned v ∧ ∃ (g' : Gh) (v1 : Value), Le g g' ∧ St g' [] fr w' ∧ RepSl g' r.1.Files v1 ∧ .tuple #[.agg #[v1], .agg #[.i6 r.2.Code, .i6 r.2.Index]] = v) := by
 unfold changeforgeref2_ApplyTree at hm
 refine calls_enter (fn := Tryd.f19) Tryd.func19 rfl Tryd.ntmps19 (lb rfl) ?_
 intro a F
 replace F : Fr 51 a [(0, .agg #[vp_1]), (1, .agg #[vt_1])] := F
 refine wp_seq ?_
 refine wp_region_lit ?_
 refine wl_boxC (wn rfl) rfl rfl rfl F S rfl rfl ?_; clear F a S; rintro b1 a w F S
 refine wl_boxC (wn rfl) rfl rfl rfl F S rfl rfl ?_; clear F a S; rintro b2 a w F S
 refine wl_alloc (wn rfl) rfl tz44 (cs := [nilS]) rfl F S rfl rfl ?_; clear F a S; rintro b3 a w F S
 refine wl_alloc (wn rfl) rfl tz29 (cs := [.i6 0, .i6 0]) rfl F S rfl rfl ?_; clear F a S; rintro b4 a w F S
 refine wpList_nil ?_
 refine then_n ?_
 refine wp_seq ?_
 refine wp_seq ?_
 refine wp_region_lit ?_
 refine wE (ev_loadA tu41 rfl (cs := [vp_1]) ts41 rfl (box_ptr (cells := [vp_1]) 3 rfl 0 rfl (lb rfl))) F S rfl fun a F=>?_
 obtain ⟨y1, hy1, hm⟩ := bind_some hm
 refine wl_call0 (wn rfl) rfl F rfl (changeforgeref2_TreePatchFault_ok (fr := (fl [[bx b4 #[.i6 0, .i6 0] 29], [bx b3 #[nilS] 44], [bx b2 #[vt_1] 44], [bx b1 #[vp_1] 41]] fr)) p_ vp_1 hp_1 S hy1) rfl tc25 rfl rfl ?_; clear F a S
 rintro _ a w ⟨g1, l1, S, rfl⟩ F; replace S : St g1 [[bx b4 #[.i6 0, .i6 0] 29], [bx b3 #[nilS] 44], [bx b2 #[vt_1] 44], [bx b1 #[vp_1] 41]] fr w := S
 refine wl_alloc (wn rfl) rfl tz29 (cs := [.i6 0, .i6 0]) rfl F S rfl rfl ?_; clear F a S; rintro b5 a w F S
 refine wl_storeC (wn rfl) rfl F S rfl rfl (vs := [.i6 y1.Code, .i6 y1.Index]) rfl ts29 (one_cons rfl (one_cons rfl one_nil)) (k := 0) rfl (lb rfl) (c' := #[.i6 y1.Code, .i6 y1.Index]) rfl rfl ?_; clear S; intro w S
 refine wpList_nil ?_
 refine then_n ?_
 refine wp_seq ?_
 refine wp_region_lit ?_
 refine wE (ev_fieldAddr' tu29 tf29_0 (z := 0) ts3 rfl ⟨_, rfl⟩ rfl) F S rfl fun a F=>?_
 refine wE (ev_load1 tu3 rfl rfl (box_ptr (cells := [.i6 y1.Code]) 0 rfl 0 rfl (lb rfl))) F S rfl fun a F=>?_
 refine wE (ev_int rfl rfl (bo_neq _ _ _ _)) F S rfl fun a F=>?_
 refine wpList_nil ?_
 refine then_n ?_
 obtain ⟨hc1, hm⟩ | ⟨hc1, hm⟩ := ite_or hm
 ·refine wp_condT F rfl hc1 ?_
  refine wp_seq ?_
  refine wp_dv [] mo S ?_; clear S; intro ok1 w S
  refine dv_et ok1 0 rfl (ev_build (parts := []) (vs := []) rfl (fun w => tb44_  w)) F rfl fun a F=>?_
  refine dv_ev ok1 1 rfl (ev_loadA tu29 rfl (cs := [.i6 y1.Code, .i6 y1.Index]) ts29 rfl (box_ptr (cells := [.i6 y1.Code, .i6 y1.Index]) 0 rfl 0 rfl (lb rfl))) F S rfl fun a F=>?_
  refine dv_op ok1 2 rfl [(1, .agg #[.i6 y1.Code, .i6 y1.Index])] ?_
  refine wl_storeC (wn rfl) rfl F S rfl rfl (vs := [nilS]) rfl ts44 (one_cons rfl one_nil) (k := 2) rfl (lb rfl) (c' := #[nilS]) rfl rfl ?_; clear S; intro w S
  refine dv_nx ⟨yl_ev rfl rfl (ev_loadA tu29 rfl (cs := [.i6 y1.Code, .i6 y1.Index]) ts29 rfl (box_ptr (cells := [.i6 y1.Code, .i6 y1.Index]) 0 rfl 0 rfl (lb rfl))) F S, trivial⟩ ?_
  refine dv_op ok1 3 rfl [] ?_
  refine wl_storeC (wn rfl) rfl F S rfl rfl (vs := [.i6 y1.Code, .i6 y1.Index]) rfl ts29 (one_cons rfl (one_cons rfl one_nil)) (k := 1) rfl (lb rfl) (c' := #[.i6 y1.Code, .i6 y1.Index]) rfl rfl ?_; clear S; intro w S
  refine dv_nx trivial ?_
  refine dv_fin ok1 ?_
  refine then_n ?_
  refine wp_ret ?_
  refine then_r ?_
  obtain rfl := sinj hm
  refine post_r _ F rfl (ar_cons (resA rfl tu44 rfl (box_ptr (cells := [nilS]) 2 rfl 0 rfl (lb rfl) w S) ts44) (ar_cons (resA rfl tu29 rfl (box_ptr (cells := [.i6 y1.Code, .i6 y1.Index]) 1 rfl 0 rfl (lb rfl) w S) ts29) ar_nil)) ?_
  replace S : St g1 [] fr w := St.tail [] _ S
  exact ⟨_, rfl, g1, (nilS), l1, S, (RepSl.nil _), rfl⟩
 ·refine wp_condF F rfl hc1 ?_
  refine wp_skip ?_
  refine then_n ?_
  refine wp_seq ?_
  refine wp_seq ?_
  refine wp_region_lit ?_
  refine wE (ev_loadA tu44 rfl (cs := [vt_1]) ts44 rfl (box_ptr (cells := [vt_1]) 3 rfl 0 rfl (lb rfl))) F S rfl fun a F=>?_
  obtain ⟨y2, hy2, hm⟩ := bind_some hm
  refine wl_call0 (wn rfl) rfl F rfl (changeforgeref2_TreeFault_ok (fr := (fl [[bx b5 #[.i6 y1.Code, .i6 y1.Index] 29], [bx b4 #[.i6 0, .i6 0] 29], [bx b3 #[nilS] 44], [bx b2 #[vt_1] 44], [bx b1 #[vp_1] 41]] fr)) t_ vt_1 (ht_1.mono l1) S hy2) rfl tc23 rfl rfl ?_; clear F a S
  rintro _ a w ⟨g2, l2, S, rfl⟩ F; replace S : St g2 [[bx b5 #[.i6 y1.Code, .i6 y1.Index] 29], [bx b4 #[.i6 0, .i6 0] 29], [bx b3 #[nilS] 44], [bx b2 #[vt_1] 44], [bx b1 #[vp_1] 41]] fr w := S
  refine wl_alloc (wn rfl) rfl tz29 (cs := [.i6 0, .i6 0]) rfl F S rfl rfl ?_; clear F a S; rintro b6 a w F S
  refine wl_storeC (wn rfl) rfl F S rfl rfl (vs := [.i6 y2.Code, .i6 y2.Index]) rfl ts29 (one_cons rfl (one_cons rfl one_nil)) (k := 0) rfl (lb rfl) (c' := #[.i6 y2.Code, .i6 y2.Index]) rfl rfl ?_; clear S; intro w S
  refine wpList_nil ?_
  refine then_n ?_
  refine wp_seq ?_
  refine wp_region_lit ?_
  refine wE (ev_fieldAddr' tu29 tf29_0 (z := 0) ts3 rfl ⟨_, rfl⟩ rfl) F S rfl fun a F=>?_
  refine wE (ev_load1 tu3 rfl rfl (box_ptr (cells := [.i6 y2.Code]) 0 rfl 0 rfl (lb rfl))) F S rfl fun a F=>?_
  refine wE (ev_int rfl rfl (bo_neq _ _ _ _)) F S rfl fun a F=>?_
  refine wpList_nil ?_
  refine then_n ?_
  obtain ⟨hc2, hm⟩ | ⟨hc2, hm⟩ := ite_or hm
  ·refine wp_condT F rfl hc2 ?_
   refine wp_seq ?_
   refine wp_region_lit ?_
   refine wE (ev_build (parts := []) (vs := []) rfl (fun w => tb44_  w)) F S rfl fun a F=>?_
   refine wE (ev_fieldAddr' tu29 tf29_0 (z := 0) ts3 rfl ⟨_, rfl⟩ rfl) F S rfl fun a F=>?_
   refine wE (ev_load1 tu3 rfl rfl (box_ptr (cells := [.i6 y2.Code]) 0 rfl 0 rfl (lb rfl))) F S rfl fun a F=>?_
   obtain ⟨y3, hy3, hm⟩ := bind_some hm
   refine wl_call0 (wn rfl) rfl F rfl (changeforgeref1_At_ok (fr := (fl [[bx b6 #[.i6 y2.Code, .i6 y2.Index] 29], [bx b5 #[.i6 y1.Code, .i6 y1.Index] 29], [bx b4 #[.i6 0, .i6 0] 29], [bx b3 #[nilS] 44], [bx b2 #[vt_1] 44], [bx b1 #[vp_1] 41]] fr)) y2.Code (-2) S hy3) rfl tc36 rfl rfl ?_; clear F a S
   rintro _ a w ⟨g3, l3, S, rfl⟩ F; replace S : St g3 [[bx b6 #[.i6 y2.Code, .i6 y2.Index] 29], [bx b5 #[.i6 y1.Code, .i6 y1.Index] 29], [bx b4 #[.i6 0, .i6 0] 29], [bx b3 #[nilS] 44], [bx b2 #[vt_1] 44], [bx b1 #[vp_1] 41]] fr w := S
   refine wl_storeC (wn rfl) rfl F S rfl rfl (vs := [nilS]) rfl ts44 (one_cons rfl one_nil) (k := 3) rfl (lb rfl) (c' := #[nilS]) rfl rfl ?_; clear S; intro w S
   refine wl_storeC (wn rfl) rfl F S rfl rfl (vs := [.i6 y3.Code, .i6 y3.Index]) rfl ts29 (one_cons rfl (one_cons rfl one_nil)) (k := 2) rfl (lb rfl) (c' := #[.i6 y3.Code, .i6 y3.Index]) rfl rfl ?_; clear S; intro w S
   refine wpList_nil ?_
   refine then_n ?_
   refine wp_ret ?_
   refine then_r ?_
   obtain rfl := sinj hm
   refine post_r _ F rfl (ar_cons (resA rfl tu44 rfl (box_ptr (cells := [nilS]) 3 rfl 0 rfl (lb rfl) w S) ts44) (ar_cons (resA rfl tu29 rfl (box_ptr (cells := [.i6 y3.Code, .i6 y3.Index]) 2 rfl 0 rfl (lb rfl) w S) ts29) ar_nil)) ?_
   replace S : St g3 [] fr w := St.tail [] _ S
   exact ⟨_, rfl, g3, (nilS), ((l1.trans l2).trans l3), S, (RepSl.nil _), rfl⟩
  ·refine wp_condF F rfl hc2 ?_
   refine wp_skip ?_
   refine then_n ?_
   refine wp_seq ?_
   refine wp_region_lit ?_
   refine wE (ev_assign rfl) F S rfl fun a F=>?_
   refine wpList_nil ?_
   refine then_n ?_
   refine wp_cut (fun a w => ∃ (x1 : List File) (v1 : Value) (g4 : Gh), Fr 51 a [(5, bp b4 0), (4, bp b3 0), (3, bp b2 0)] ∧ Le g2 g4 ∧ St g4 [[bx b4 #[.i6 0, .i6 0] 29], [bx b3 #[nilS] 44], [bx b2 #[v1] 44]] fr w ∧ RepSl g4 x1 v1 ∧ changeforgeref2_ApplyTree.j1 x1 = some r) ?_ ?_
   ·refine wp_seq ?_
    refine wp_region_lit ?_
    refine wE (ev_assign rfl) F S rfl fun a F=>?_
    refine wpList_nil ?_
    refine then_n ?_
    refine wp_block ?_
    obtain ⟨r1, hr1, hm⟩ := bind_some hm
    have hmo1 := hm; clear hm
    refine wp_iter (σ := Int × (List File)) (ρ := (FileTree × Fault) ⊕ (List File)) (m := fun s => changeforgeref2_ApplyTree.l1 p_ s.1 s.2) (I := fun s a w => match s with | (x2, x3) => ∃ (v2 : Value) (g5 : Gh), Fr 51 a [(9, .i6 x2), (5, bp b4 0), (4, bp b3 0), (3, bp b2 0), (2, bp b1 0)] ∧ Le g2 g5 ∧ St g5 [[bx b4 #[.i6 0, .i6 0] 29], [bx b3 #[nilS] 44], [bx b2 #[v2] 44], [bx b1 #[vp_1] 41]] fr w ∧ RepSl g5 x3 v2) hr1 ?_ ?_
    ·dsimp only
     replace S : St g2 [[bx b4 #[.i6 0, .i6 0] 29], [bx b3 #[nilS] 44], [bx b2 #[vt_1] 44], [bx b1 #[vp_1] 41]] fr w := St.tail [[bx b4 #[.i6 0, .i6 0] 29], [bx b3 #[nilS] 44], [bx b2 #[vt_1] 44], [bx b1 #[vp_1] 41]] _ ((((S.frontC 5 rfl).frontC 5 rfl).frontC 5 rfl).frontC 5 rfl)
     exact ⟨vt_1, g2, F.sub ⟨rfl, rfl, rfl, rfl, rfl, trivial⟩, (Le.refl _), S, (ht_1.mono (l1.trans l2))⟩
    ·clear F S; rintro ⟨x2, x3⟩ a w x4 ⟨v2, g5, F, l5, S, h2⟩ hx1 hfin1
     have hm : changeforgeref2_ApplyTree.l1 p_ x2 x3 = some x4 := hx1; clear hx1
     unfold changeforgeref2_ApplyTree.l1 at hm
     refine wp_seq ?_
     refine wp_seq ?_
     refine wp_region_lit ?_
     refine wE (ev_move rfl) F S rfl fun a F=>?_
     refine wE (ev_fieldAddr' tu41 tf41_0 (z := 0) ts39 rfl ⟨_, rfl⟩ rfl) F S rfl fun a F=>?_
     refine wE (ev_load1 tu39 rfl rfl (box_ptr (cells := [vp_1]) 3 rfl 0 rfl (lb rfl))) F S rfl fun a F=>?_
     refine wE (ev_lenSh hp_1 rfl tu39) F S rfl fun a F=>?_
     refine wE (ev_int rfl rfl (bo_lss _ _ _ _)) F S rfl fun a F=>?_
     refine wpList_nil ?_
     refine then_n ?_
     obtain ⟨hc3, hm⟩ | ⟨hc3, hm⟩ := ite_or hm
     ·refine wp_condT F rfl hc3 ?_
      refine wp_skip ?_
      refine then_n ?_
      refine wp_seq ?_
      refine wp_block ?_
      refine wp_seq ?_
      refine wp_dv [] mo S ?_; clear S; intro ok2 w S
      refine dv_ev ok2 0 rfl (ev_loadA tu44 rfl (cs := [v2]) ts44 rfl (box_ptr (cells := [v2]) 2 rfl 0 rfl (lb rfl))) F S rfl fun a F=>?_
      refine dv_et ok2 1 rfl (ev_fieldAddr' tu41 tf41_0 (z := 0) ts39 rfl ⟨_, rfl⟩ rfl) F rfl fun a F=>?_
      refine dv_ev ok2 2 rfl (ev_load1 tu39 rfl rfl (box_ptr (cells := [vp_1]) 3 rfl 0 rfl (lb rfl))) F S rfl fun a F=>?_
      refine dv_et ok2 3 rfl (ev_move rfl) F rfl fun a F=>?_
      obtain ⟨y4, hy4, hm⟩ := bind_some hm
      obtain ⟨cs1, hr2, hp1⟩ := elemS (hp_1.mono ((l1.trans l2).trans l5)) hy4
      obtain ⟨v3, v4, rfl, h3, h4⟩ := rep_TreeChange hr2
      refine dv_et ok2 4 rfl (ev_idxS (hp_1.mono ((l1.trans l2).trans l5)) hy4 tu39 ts27 rfl rfl) F rfl fun a F=>?_
      refine dv_ev ok2 5 rfl (ev_loadA tu27 rfl (cs := [.i6 y4.Kind, .string y4.Path, .string y4.To, v3, v4]) ts27 rfl (ptr_mono (cks := [[bx b4 #[.i6 0, .i6 0] 29], [bx b3 #[nilS] 44], [bx b2 #[v2] 44], [bx b1 #[vp_1] 41]]) (fr := fr) hp1 (Le.refl _))) F S rfl fun a F=>?_
      refine dv_op ok2 6 rfl [] ?_
      obtain ⟨y5, hy5, hm⟩ := bind_some hm
      refine wl_call0 (wn rfl) rfl F rfl (changeforgeref2_Change_ok (fr := (fl [[bx b4 #[.i6 0, .i6 0] 29], [bx b3 #[nilS] 44], [bx b2 #[v2] 44], [bx b1 #[vp_1] 41]] fr)) ({ Files := x3 } : FileTree) v2 h2 y4 v3 h3 v4 h4 S hy5) rfl tc50 rfl rfl ?_; clear F a S
      rintro _ a w ⟨g6, v5, l6, S, h5, rfl⟩ F; replace S : St g6 [[bx b4 #[.i6 0, .i6 0] 29], [bx b3 #[nilS] 44], [bx b2 #[v2] 44], [bx b1 #[vp_1] 41]] fr w := S
      refine dv_nx trivial ?_
      refine dv_et ok2 7 rfl (ev_move rfl) F rfl fun a F=>?_
      refine dv_et ok2 8 rfl (ev_extract rfl rfl) F rfl fun a F=>?_
      refine dv_et ok2 9 rfl (ev_extract rfl rfl) F rfl fun a F=>?_
      refine dv_op ok2 10 rfl [] ?_
      refine wl_storeC (wn rfl) rfl F S rfl rfl (vs := [v5]) rfl ts44 (one_cons h5.one one_nil) (k := 2) rfl (lb rfl) (c' := #[v5]) rfl rfl ?_; clear S; intro w S
      refine dv_nx trivial ?_
      refine dv_et ok2 11 rfl (ev_assign rfl) F rfl fun a F=>?_
      refine dv_fin ok2 ?_
      refine then_n ?_
      refine wp_seq ?_
      refine wp_region_lit ?_
      refine wE (ev_move rfl) F S rfl fun a F=>?_
      refine wE (ev_int rfl rfl (bo_neq _ _ _ _)) F S rfl fun a F=>?_
      refine wpList_nil ?_
      refine then_n ?_
      obtain ⟨hc4, hm⟩ | ⟨hc4, hm⟩ := ite_or hm
      ·refine wp_condT F rfl hc4 ?_
       refine wp_seq ?_
       refine wp_region_lit ?_
       refine wE (ev_build (parts := []) (vs := []) rfl (fun w => tb44_  w)) F S rfl fun a F=>?_
       refine wE (ev_move rfl) F S rfl fun a F=>?_
       refine wE (ev_move rfl) F S rfl fun a F=>?_
       obtain ⟨y6, hy6, hm⟩ := bind_some hm
       refine wl_call0 (wn rfl) rfl F rfl (changeforgeref1_At_ok (fr := (fl [[bx b4 #[.i6 0, .i6 0] 29], [bx b3 #[nilS] 44], [bx b2 #[v5] 44], [bx b1 #[vp_1] 41]] fr)) y5.2 x2 S hy6) rfl tc36 rfl rfl ?_; clear F a S
       rintro _ a w ⟨g7, l7, S, rfl⟩ F; replace S : St g7 [[bx b4 #[.i6 0, .i6 0] 29], [bx b3 #[nilS] 44], [bx b2 #[v5] 44], [bx b1 #[vp_1] 41]] fr w := S
       refine wl_storeC (wn rfl) rfl F S rfl rfl (vs := [nilS]) rfl ts44 (one_cons rfl one_nil) (k := 1) rfl (lb rfl) (c' := #[nilS]) rfl rfl ?_; clear S; intro w S
       refine wl_storeC (wn rfl) rfl F S rfl rfl (vs := [.i6 y6.Code, .i6 y6.Index]) rfl ts29 (one_cons rfl (one_cons rfl one_nil)) (k := 0) rfl (lb rfl) (c' := #[.i6 y6.Code, .i6 y6.Index]) rfl rfl ?_; clear S; intro w S
       refine wpList_nil ?_
       refine then_n ?_
       refine wp_ret ?_
       refine inb_r ?_
       refine then_r ?_
       refine then_r ?_
       refine inb_r ?_
       refine then_r ?_
       obtain rfl := sinj hm
       obtain rfl := hfin1 _ rfl
       clear hm
       have hm : (some (({ Files := [] } : FileTree), y6) : Option (FileTree × Fault)) = some _ := hmo1
       obtain rfl := sinj hm
       refine post_r _ F rfl (ar_cons (resA rfl tu44 rfl (box_ptr (cells := [nilS]) 1 rfl 0 rfl (lb rfl) w S) ts44) (ar_cons (resA rfl tu29 rfl (box_ptr (cells := [.i6 y6.Code, .i6 y6.Index]) 0 rfl 0 rfl (lb rfl) w S) ts29) ar_nil)) ?_
       replace S : St g7 [] fr w := St.tail [] _ S
       exact ⟨_, rfl, g7, (nilS), ((((l1.trans l2).trans l5).trans l6).trans l7), S, (RepSl.nil _), rfl⟩
      ·refine wp_condF F rfl hc4 ?_
       refine wp_skip ?_
       refine inb_n ?_
       refine then_n ?_
       refine wp_region_lit ?_
       refine wE (ev_move rfl) F S rfl fun a F=>?_
       obtain ⟨z1, hz1, hm⟩ := bind_some hm
       refine wE (ev_int rfl rfl (bo_add hz1)) F S rfl fun a F=>?_
       refine wE (ev_assign rfl) F S rfl fun a F=>?_
       refine wpList_nil ?_
       refine then_n ?_
       obtain rfl := sinj hm
       refine ⟨_, rfl, ?_⟩
       dsimp only
       exact ⟨v5, g6, F.sub ⟨rfl, rfl, rfl, rfl, rfl, trivial⟩, (l5.trans l6), S, h5⟩
     ·refine wp_condF F rfl hc3 ?_
      refine wp_exit ?_
      refine then_e ?_
      refine then_e ?_
      refine inb_x ?_
      refine then_n ?_
      obtain rfl := sinj hm
      obtain rfl := hfin1 _ rfl
      clear hm
      have hm : (changeforgeref2_ApplyTree.j1 x3 : Option (FileTree × Fault)) = some _ := hmo1
      replace S : St g5 [[bx b4 #[.i6 0, .i6 0] 29], [bx b3 #[nilS] 44], [bx b2 #[v2] 44]] fr w := St.tail [[bx b4 #[.i6 0, .i6 0] 29], [bx b3 #[nilS] 44], [bx b2 #[v2] 44]] _ (((S.frontC 2 rfl).frontC 2 rfl).frontC 2 rfl)
      exact ⟨x3, v2, g5, F.sub ⟨rfl, rfl, rfl, trivial⟩, l5, S, h2, hm⟩
   ·clear F S hm; rintro a w ⟨x1, v1, g4, F, l4, S, h1, hm⟩
    refine wp_seq ?_
    refine wp_region_lit ?_
    refine wE (ev_loadA tu44 rfl (cs := [v1]) ts44 rfl (box_ptr (cells := [v1]) 2 rfl 0 rfl (lb rfl))) F S rfl fun a F=>?_
    refine wE (ev_build (parts := []) (vs := []) rfl (fun w => tb29_  w)) F S rfl fun a F=>?_
    refine wl_storeC (wn rfl) rfl F S rfl rfl (vs := [v1]) rfl ts44 (one_cons h1.one one_nil) (k := 1) rfl (lb rfl) (c' := #[v1]) rfl rfl ?_; clear S; intro w S
    refine wl_storeC (wn rfl) rfl F S rfl rfl (vs := [.i6 0, .i6 0]) rfl ts29 (one_cons rfl (one_cons rfl one_nil)) (k := 0) rfl (lb rfl) (c' := #[.i6 0, .i6 0]) rfl rfl ?_; clear S; intro w S
    refine wpList_nil ?_
    refine then_n ?_
    refine wp_ret ?_
    obtain rfl := sinj hm
    refine post_r _ F rfl (ar_cons (resA rfl tu44 rfl (box_ptr (cells := [v1]) 1 rfl 0 rfl (lb rfl) w S) ts44) (ar_cons (resA rfl tu29 rfl (box_ptr (cells := [.i6 0, .i6 0]) 0 rfl 0 rfl (lb rfl) w S) ts29) ar_nil)) ?_
    replace S : St g4 [] fr w := St.tail [] _ S
    exact ⟨_, rfl, g4, v1, ((l1.trans l2).trans l4), S, h1, rfl⟩

theorem changeforgelaw2_TreepatchMatchesSpec_ok {g : Gh} {fr : Hl} {w : World} {r : Bool} (p_ : TreePatch) (vp_1 : Value) (hp_1 : RepSl g p_.Changes vp_1) (t_ : FileTree) (vt_1 : Value) (ht_1 : RepSl g t_.Files vt_1) (path : ByteArray) (S : St g [] fr w) (hm : changeforgelaw2_TreepatchMatchesSpec p_ t_ path = some r) :
  Calls Tryd.prog 6 [.agg #[vp_1], .agg #[vt_1], .string path].toArray w (fun en w' => ∃ v, en = .returned v ∧ ∃ (g' : Gh), Le g g' ∧ St g' [] fr w' ∧ .bool r = v) := by
 unfold changeforgelaw2_TreepatchMatchesSpec at hm
 refine calls_enter (fn := Tryd.f6) Tryd.func6 rfl Tryd.ntmps6 (lb rfl) ?_
 intro a F
 replace F : Fr 55 a [(0, .agg #[vp_1]), (1, .agg #[vt_1]), (2, .string path)] := F
 refine wp_seq ?_
 refine wp_region_lit ?_
 refine wl_boxC (wn rfl) rfl rfl rfl F S rfl rfl ?_; clear F a S; rintro b1 a w F S
 refine wl_boxC (wn rfl) rfl rfl rfl F S rfl rfl ?_; clear F a S; rintro b2 a w F S
 refine wE (ev_assign rfl) F S rfl fun a F=>?_
 refine wpList_nil ?_
 refine then_n ?_
 refine wp_seq ?_
 refine wp_region_lit ?_
 refine wE (ev_loadA tu41 rfl (cs := [vp_1]) ts41 rfl (box_ptr (cells := [vp_1]) 1 rfl 0 rfl (lb rfl))) F S rfl fun a F=>?_
 refine wE (ev_loadA tu44 rfl (cs := [vt_1]) ts44 rfl (box_ptr (cells := [vt_1]) 0 rfl 0 rfl (lb rfl))) F S rfl fun a F=>?_
 obtain ⟨y1, hy1, hm⟩ := bind_some hm
 refine wl_call0 (wn rfl) rfl F rfl (treepatch_Apply_ok (fr := (fl [[bx b2 #[vt_1] 44], [bx b1 #[vp_1] 41]] fr)) p_ vp_1 hp_1 t_ vt_1 ht_1 S hy1) rfl tc18 rfl rfl ?_; clear F a S
 rintro _ a w ⟨g1, v1, c1, l1, S, h1, rfl⟩ F; replace S : St g1 [c1, [bx b2 #[vt_1] 44], [bx b1 #[vp_1] 41]] fr w := S
 refine wE (ev_move rfl) F S rfl fun a F=>?_
 refine wE (ev_extract rfl rfl) F S rfl fun a F=>?_
 refine wE (ev_extract rfl rfl) F S rfl fun a F=>?_
 refine wl_alloc (wn rfl) rfl tz44 (cs := [nilS]) rfl F S rfl rfl ?_; clear F a S; rintro b3 a w F S
 refine wl_alloc (wn rfl) rfl tz29 (cs := [.i6 0, .i6 0]) rfl F S rfl rfl ?_; clear F a S; rintro b4 a w F S
 refine wl_storeC (wn rfl) rfl F S rfl rfl (vs := [v1]) rfl ts44 (one_cons (OwnS.one h1) one_nil) (k := 1) rfl (lb rfl) (c' := #[v1]) rfl rfl ?_; clear S; intro w S
 refine wl_storeC (wn rfl) rfl F S rfl rfl (vs := [.i6 y1.2.Code, .i6 y1.2.Index]) rfl ts29 (one_cons rfl (one_cons rfl one_nil)) (k := 0) rfl (lb rfl) (c' := #[.i6 y1.2.Code, .i6 y1.2.Index]) rfl rfl ?_; clear S; intro w S
 refine wpList_nil ?_
 refine then_n ?_
 refine wp_seq ?_
 refine wp_region_lit ?_
 refine wE (ev_loadA tu41 rfl (cs := [vp_1]) ts41 rfl (box_ptr (cells := [vp_1]) 4 rfl 0 rfl (lb rfl))) F S rfl fun a F=>?_
 refine wE (ev_loadA tu44 rfl (cs := [vt_1]) ts44 rfl (box_ptr (cells := [vt_1]) 3 rfl 0 rfl (lb rfl))) F S rfl fun a F=>?_
 obtain ⟨y2, hy2, hm⟩ := bind_some hm
 refine wl_call0 (wn rfl) rfl F rfl (changeforgeref2_ApplyTree_ok (fr := (fl [[bx b4 #[.i6 y1.2.Code, .i6 y1.2.Index] 29], [bx b3 #[v1] 44], c1, [bx b2 #[vt_1] 44], [bx b1 #[vp_1] 41]] fr)) p_ vp_1 (hp_1.mono l1) t_ vt_1 (ht_1.mono l1) S hy2) rfl tc19 rfl rfl ?_; clear F a S
 rintro _ a w ⟨g2, v2, l2, S, h2, rfl⟩ F; replace S : St g2 [[bx b4 #[.i6 y1.2.Code, .i6 y1.2.Index] 29], [bx b3 #[v1] 44], c1, [bx b2 #[vt_1] 44], [bx b1 #[vp_1] 41]] fr w := S
 refine wE (ev_move rfl) F S rfl fun a F=>?_
 refine wE (ev_extract rfl rfl) F S rfl fun a F=>?_
 refine wE (ev_extract rfl rfl) F S rfl fun a F=>?_
 refine wl_alloc (wn rfl) rfl tz44 (cs := [nilS]) rfl F S rfl rfl ?_; clear F a S; rintro b5 a w F S
 refine wl_alloc (wn rfl) rfl tz29 (cs := [.i6 0, .i6 0]) rfl F S rfl rfl ?_; clear F a S; rintro b6 a w F S
 refine wl_storeC (wn rfl) rfl F S rfl rfl (vs := [v2]) rfl ts44 (one_cons h2.one one_nil) (k := 1) rfl (lb rfl) (c' := #[v2]) rfl rfl ?_; clear S; intro w S
 refine wl_storeC (wn rfl) rfl F S rfl rfl (vs := [.i6 y2.2.Code, .i6 y2.2.Index]) rfl ts29 (one_cons rfl (one_cons rfl one_nil)) (k := 0) rfl (lb rfl) (c' := #[.i6 y2.2.Code, .i6 y2.2.Index]) rfl rfl ?_; clear S; intro w S
 refine wpList_nil ?_
 refine then_n ?_
 refine wp_seq ?_
 obtain ⟨g3, l3, S, h3⟩ : ∃ gz, Le g2 gz ∧ St gz [[bx b6 #[.i6 y2.2.Code, .i6 y2.2.Index] 29], [bx b5 #[v2] 44], [bx b4 #[.i6 y1.2.Code, .i6 y1.2.Index] 29], [bx b3 #[v1] 44], [bx b2 #[vt_1] 44], [bx b1 #[vp_1] 41]] fr w ∧ RepSl gz y1.1.Files v1 := ⟨_, Le.add _ _, S.freeze 4 rfl, OwnS.freeze (S.front 4 rfl) (h1.mono l2)⟩
 refine wp_quiet mo (by kernel_rfl) S ?_
 refine wq_ev (wn rfl) (ev_move rfl) F rfl rfl ?_; clear F a; intro a F
 obtain ⟨y3, hy3, hm⟩ := bind_some hm
 refine wq_call (wn rfl) rfl (xs := [.tmp 23]) (vs := [.string path]) (cap := []) F rfl rfl tc20 (v := .bool y3) (fun w S => (treepatch_ValidPath_ok (g := g3) (fr := (fl [[bx b6 #[.i6 y2.2.Code, .i6 y2.2.Index] 29], [bx b5 #[v2] 44], [bx b4 #[.i6 y1.2.Code, .i6 y1.2.Index] 29], [bx b3 #[v1] 44], [bx b2 #[vt_1] 44], [bx b1 #[vp_1] 41]] fr)) (w := w) path S hy3).mono (by rintro en w' ⟨_, rfl, g2, l2, S2, rfl⟩; exact ⟨rfl, S2.weak l2⟩)) rfl rfl ?_; clear F a; intro a F
 refine wq_ev (wn rfl) (ev_move rfl) F rfl rfl ?_; clear F a; intro a F
 obtain ⟨y4, hy4, hm⟩ := bind_some hm
 refine wq_call (wn rfl) rfl (xs := [.tmp 25]) (vs := [.string path]) (cap := []) F rfl rfl tc21 (v := .bool y4) (fun w S => (changeforgeref2_PathValid_ok (g := g3) (fr := (fl [[bx b6 #[.i6 y2.2.Code, .i6 y2.2.Index] 29], [bx b5 #[v2] 44], [bx b4 #[.i6 y1.2.Code, .i6 y1.2.Index] 29], [bx b3 #[v1] 44], [bx b2 #[vt_1] 44], [bx b1 #[vp_1] 41]] fr)) (w := w) path S hy4).mono (by rintro en w' ⟨_, rfl, g2, l2, S2, rfl⟩; exact ⟨rfl, S2.weak l2⟩)) rfl rfl ?_; clear F a; intro a F
 refine wq_ev (wn rfl) (ev_eqB tu4 rfl rfl) F rfl rfl ?_; clear F a; intro a F
 refine wq_ev (wn rfl) (ev_move rfl) F rfl rfl ?_; clear F a; intro a F
 obtain ⟨x1, hx1, hm⟩ := bind_some hm
 refine wq_cut 6 (fun a => Fr 55 a [(34, .bool x1), (10, bp b6 0), (9, bp b5 0), (8, bp b4 0), (7, bp b3 0), (6, .bool false), (3, bp b1 0)]) ?_ ?_
 ·clear hm; obtain ⟨hc1, hm⟩ | ⟨hc1, hm⟩ := ite_or hx1
  ·refine wq_ev (wg F rfl rfl rfl rfl hc1) (ev_loadA tu44 rfl (cs := [vt_1]) ts44 rfl (box_ptr (cells := [vt_1]) 4 rfl 0 rfl (lb rfl))) F rfl rfl ?_; clear F a; intro a F
   obtain ⟨y5, hy5, hm⟩ := bind_some hm
   refine wq_call (wg F rfl rfl rfl rfl hc1) rfl (xs := [.tmp 29]) (vs := [.agg #[vt_1]]) (cap := []) F rfl rfl tc22 (v := .agg #[.i6 y5.Code, .i6 y5.Index]) (fun w S => (treepatch_Validate_ok (g := g3) (fr := (fl [[bx b6 #[.i6 y2.2.Code, .i6 y2.2.Index] 29], [bx b5 #[v2] 44], [bx b4 #[.i6 y1.2.Code, .i6 y1.2.Index] 29], [bx b3 #[v1] 44], [bx b2 #[vt_1] 44], [bx b1 #[vp_1] 41]] fr)) (w := w) t_ vt_1 (ht_1.mono ((l1.trans l2).trans l3)) S hy5).mono (by rintro en w' ⟨_, rfl, g2, l2, S2, rfl⟩; exact ⟨rfl, S2.weak l2⟩)) rfl rfl ?_; clear F a; intro a F
   refine wq_ev (wg F rfl rfl rfl rfl hc1) (ev_loadA tu44 rfl (cs := [vt_1]) ts44 rfl (box_ptr (cells := [vt_1]) 4 rfl 0 rfl (lb rfl))) F rfl rfl ?_; clear F a; intro a F
   obtain ⟨y6, hy6, hm⟩ := bind_some hm
   refine wq_call (wg F rfl rfl rfl rfl hc1) rfl (xs := [.tmp 31]) (vs := [.agg #[vt_1]]) (cap := []) F rfl rfl tc23 (v := .agg #[.i6 y6.Code, .i6 y6.Index]) (fun w S => (changeforgeref2_TreeFault_ok (g := g3) (fr := (fl [[bx b6 #[.i6 y2.2.Code, .i6 y2.2.Index] 29], [bx b5 #[v2] 44], [bx b4 #[.i6 y1.2.Code, .i6 y1.2.Index] 29], [bx b3 #[v1] 44], [bx b2 #[vt_1] 44], [bx b1 #[vp_1] 41]] fr)) (w := w) t_ vt_1 (ht_1.mono ((l1.trans l2).trans l3)) S hy6).mono (by rintro en w' ⟨_, rfl, g2, l2, S2, rfl⟩; exact ⟨rfl, S2.weak l2⟩)) rfl rfl ?_; clear F a; intro a F
   refine wq_ev (wg F rfl rfl rfl rfl hc1) (ev_eqS tu29 tqa29 tqb29 tqc29 (xs := [.i6 y5.Code, .i6 y5.Index]) (ys := [.i6 y6.Code, .i6 y6.Index]) rfl rfl ⟨_, _, rfl, by decide, ⟨_, _, rfl, rfl, leaf_int tu3⟩, ⟨_, _, rfl, by decide, ⟨_, _, rfl, rfl, leaf_int tu3⟩, rfl⟩⟩) F rfl rfl ?_; clear F a; intro a F
   refine wq_ev (wn rfl) (ev_pickT rfl hc1 rfl) F rfl rfl ?_; clear F a; intro a F
   obtain rfl := sinj hm
   refine wq_nil ?_; exact F.sub ⟨rfl, rfl, rfl, rfl, rfl, rfl, rfl, trivial⟩
  ·refine wq_skip rfl rfl rfl rfl (ne_tf hc1) F rfl rfl ?_; clear F a; intro a F
   refine wq_skip rfl rfl rfl rfl (ne_tf hc1) F rfl rfl ?_; clear F a; intro a F
   refine wq_skip rfl rfl rfl rfl (ne_tf hc1) F rfl rfl ?_; clear F a; intro a F
   refine wq_skip rfl rfl rfl rfl (ne_tf hc1) F rfl rfl ?_; clear F a; intro a F
   refine wq_skip rfl rfl rfl rfl (ne_tf hc1) F rfl rfl ?_; clear F a; intro a F
   refine wq_ev (wn rfl) (ev_pickF rfl hc1 rfl) F rfl rfl ?_; clear F a; intro a F
   obtain rfl := sinj hm
   refine wq_nil ?_; exact F.sub ⟨rfl, rfl, rfl, rfl, rfl, rfl, rfl, trivial⟩
 clear F; intro a F
 refine wq_ev (wn rfl) (ev_move rfl) F rfl rfl ?_; clear F a; intro a F
 obtain ⟨x2, hx2, hm⟩ := bind_some hm
 refine wq_cut 6 (fun a => Fr 55 a [(41, .bool x2), (10, bp b6 0), (9, bp b5 0), (8, bp b4 0), (7, bp b3 0), (6, .bool false)]) ?_ ?_
 ·clear hm; obtain ⟨hc2, hm⟩ | ⟨hc2, hm⟩ := ite_or hx2
  ·refine wq_ev (wg F rfl rfl rfl rfl hc2) (ev_loadA tu41 rfl (cs := [vp_1]) ts41 rfl (box_ptr (cells := [vp_1]) 5 rfl 0 rfl (lb rfl))) F rfl rfl ?_; clear F a; intro a F
   obtain ⟨y7, hy7, hm⟩ := bind_some hm
   refine wq_call (wg F rfl rfl rfl rfl hc2) rfl (xs := [.tmp 36]) (vs := [.agg #[vp_1]]) (cap := []) F rfl rfl tc24 (v := .agg #[.i6 y7.Code, .i6 y7.Index]) (fun w S => (treepatch_ValidatePatch_ok (g := g3) (fr := (fl [[bx b6 #[.i6 y2.2.Code, .i6 y2.2.Index] 29], [bx b5 #[v2] 44], [bx b4 #[.i6 y1.2.Code, .i6 y1.2.Index] 29], [bx b3 #[v1] 44], [bx b2 #[vt_1] 44], [bx b1 #[vp_1] 41]] fr)) (w := w) p_ vp_1 (hp_1.mono ((l1.trans l2).trans l3)) S hy7).mono (by rintro en w' ⟨_, rfl, g2, l2, S2, rfl⟩; exact ⟨rfl, S2.weak l2⟩)) rfl rfl ?_; clear F a; intro a F
   refine wq_ev (wg F rfl rfl rfl rfl hc2) (ev_loadA tu41 rfl (cs := [vp_1]) ts41 rfl (box_ptr (cells := [vp_1]) 5 rfl 0 rfl (lb rfl))) F rfl rfl ?_; clear F a; intro a F
   obtain ⟨y8, hy8, hm⟩ := bind_some hm
   refine wq_call (wg F rfl rfl rfl rfl hc2) rfl (xs := [.tmp 38]) (vs := [.agg #[vp_1]]) (cap := []) F rfl rfl tc25 (v := .agg #[.i6 y8.Code, .i6 y8.Index]) (fun w S => (changeforgeref2_TreePatchFault_ok (g := g3) (fr := (fl [[bx b6 #[.i6 y2.2.Code, .i6 y2.2.Index] 29], [bx b5 #[v2] 44], [bx b4 #[.i6 y1.2.Code, .i6 y1.2.Index] 29], [bx b3 #[v1] 44], [bx b2 #[vt_1] 44], [bx b1 #[vp_1] 41]] fr)) (w := w) p_ vp_1 (hp_1.mono ((l1.trans l2).trans l3)) S hy8).mono (by rintro en w' ⟨_, rfl, g2, l2, S2, rfl⟩; exact ⟨rfl, S2.weak l2⟩)) rfl rfl ?_; clear F a; intro a F
   refine wq_ev (wg F rfl rfl rfl rfl hc2) (ev_eqS tu29 tqa29 tqb29 tqc29 (xs := [.i6 y7.Code, .i6 y7.Index]) (ys := [.i6 y8.Code, .i6 y8.Index]) rfl rfl ⟨_, _, rfl, by decide, ⟨_, _, rfl, rfl, leaf_int tu3⟩, ⟨_, _, rfl, by decide, ⟨_, _, rfl, rfl, leaf_int tu3⟩, rfl⟩⟩) F rfl rfl ?_; clear F a; intro a F
   refine wq_ev (wn rfl) (ev_pickT rfl hc2 rfl) F rfl rfl ?_; clear F a; intro a F
   obtain rfl := sinj hm
   refine wq_nil ?_; exact F.sub ⟨rfl, rfl, rfl, rfl, rfl, rfl, trivial⟩
  ·refine wq_skip rfl rfl rfl rfl (ne_tf hc2) F rfl rfl ?_; clear F a; intro a F
   refine wq_skip rfl rfl rfl rfl (ne_tf hc2) F rfl rfl ?_; clear F a; intro a F
   refine wq_skip rfl rfl rfl rfl (ne_tf hc2) F rfl rfl ?_; clear F a; intro a F
   refine wq_skip rfl rfl rfl rfl (ne_tf hc2) F rfl rfl ?_; clear F a; intro a F
   refine wq_skip rfl rfl rfl rfl (ne_tf hc2) F rfl rfl ?_; clear F a; intro a F
   refine wq_ev (wn rfl) (ev_pickF rfl hc2 rfl) F rfl rfl ?_; clear F a; intro a F
   obtain rfl := sinj hm
   refine wq_nil ?_; exact F.sub ⟨rfl, rfl, rfl, rfl, rfl, rfl, trivial⟩
 clear F; intro a F
 refine wq_ev (wn rfl) (ev_move rfl) F rfl rfl ?_; clear F a; intro a F
 obtain ⟨x3, hx3, hm⟩ := bind_some hm
 refine wq_cut 4 (fun a => Fr 55 a [(46, .bool x3), (10, bp b6 0), (8, bp b4 0), (6, .bool false)]) ?_ ?_
 ·clear hm; obtain ⟨hc3, hm⟩ | ⟨hc3, hm⟩ := ite_or hx3
  ·refine wq_ev (wg F rfl rfl rfl rfl hc3) (ev_loadA tu44 rfl (cs := [v1]) ts44 rfl (box_ptr (cells := [v1]) 3 rfl 0 rfl (lb rfl))) F rfl rfl ?_; clear F a; intro a F
   refine wq_ev (wg F rfl rfl rfl rfl hc3) (ev_loadA tu44 rfl (cs := [v2]) ts44 rfl (box_ptr (cells := [v2]) 1 rfl 0 rfl (lb rfl))) F rfl rfl ?_; clear F a; intro a F
   obtain ⟨y9, hy9, hm⟩ := bind_some hm
   refine wq_call (wg F rfl rfl rfl rfl hc3) rfl (xs := [.tmp 43, .tmp 44]) (vs := [.agg #[v1], .agg #[v2]]) (cap := []) F rfl rfl tc26 (v := .bool y9) (fun w S => (changeforgeequal_Tree_ok (g := g3) (fr := (fl [[bx b6 #[.i6 y2.2.Code, .i6 y2.2.Index] 29], [bx b5 #[v2] 44], [bx b4 #[.i6 y1.2.Code, .i6 y1.2.Index] 29], [bx b3 #[v1] 44], [bx b2 #[vt_1] 44], [bx b1 #[vp_1] 41]] fr)) (w := w) y1.1 v1 h3 y2.1 v2 (h2.mono l3) S hy9).mono (by rintro en w' ⟨_, rfl, g2, l2, S2, rfl⟩; exact ⟨rfl, S2.weak l2⟩)) rfl rfl ?_; clear F a; intro a F
   refine wq_ev (wn rfl) (ev_pickT rfl hc3 rfl) F rfl rfl ?_; clear F a; intro a F
   obtain rfl := sinj hm
   refine wq_nil ?_; exact F.sub ⟨rfl, rfl, rfl, rfl, trivial⟩
  ·refine wq_skip rfl rfl rfl rfl (ne_tf hc3) F rfl rfl ?_; clear F a; intro a F
   refine wq_skip rfl rfl rfl rfl (ne_tf hc3) F rfl rfl ?_; clear F a; intro a F
   refine wq_skip rfl rfl rfl rfl (ne_tf hc3) F rfl rfl ?_; clear F a; intro a F
   refine wq_ev (wn rfl) (ev_pickF rfl hc3 rfl) F rfl rfl ?_; clear F a; intro a F
   obtain rfl := sinj hm
   refine wq_nil ?_; exact F.sub ⟨rfl, rfl, rfl, rfl, trivial⟩
 clear F; intro a F
 refine wq_ev (wn rfl) (ev_move rfl) F rfl rfl ?_; clear F a; intro a F
 obtain ⟨x4, hx4, hm⟩ := bind_some hm
 refine wq_cut 4 (fun a => Fr 55 a [(51, .bool x4), (6, .bool false)]) ?_ ?_
 ·clear hm; obtain ⟨hc4, hm⟩ | ⟨hc4, hm⟩ := ite_or hx4
  ·refine wq_ev (wg F rfl rfl rfl rfl hc4) (ev_loadA tu29 rfl (cs := [.i6 y1.2.Code, .i6 y1.2.Index]) ts29 rfl (box_ptr (cells := [.i6 y1.2.Code, .i6 y1.2.Index]) 2 rfl 0 rfl (lb rfl))) F rfl rfl ?_; clear F a; intro a F
   refine wq_ev (wg F rfl rfl rfl rfl hc4) (ev_loadA tu29 rfl (cs := [.i6 y2.2.Code, .i6 y2.2.Index]) ts29 rfl (box_ptr (cells := [.i6 y2.2.Code, .i6 y2.2.Index]) 0 rfl 0 rfl (lb rfl))) F rfl rfl ?_; clear F a; intro a F
   refine wq_ev (wg F rfl rfl rfl rfl hc4) (ev_eqS tu29 tqa29 tqb29 tqc29 (xs := [.i6 y1.2.Code, .i6 y1.2.Index]) (ys := [.i6 y2.2.Code, .i6 y2.2.Index]) rfl rfl ⟨_, _, rfl, by decide, ⟨_, _, rfl, rfl, leaf_int tu3⟩, ⟨_, _, rfl, by decide, ⟨_, _, rfl, rfl, leaf_int tu3⟩, rfl⟩⟩) F rfl rfl ?_; clear F a; intro a F
   refine wq_ev (wn rfl) (ev_pickT rfl hc4 rfl) F rfl rfl ?_; clear F a; intro a F
   obtain rfl := sinj hm
   refine wq_nil ?_; exact F.sub ⟨rfl, rfl, trivial⟩
  ·refine wq_skip rfl rfl rfl rfl (ne_tf hc4) F rfl rfl ?_; clear F a; intro a F
   refine wq_skip rfl rfl rfl rfl (ne_tf hc4) F rfl rfl ?_; clear F a; intro a F
   refine wq_skip rfl rfl rfl rfl (ne_tf hc4) F rfl rfl ?_; clear F a; intro a F
   refine wq_ev (wn rfl) (ev_pickF rfl hc4 rfl) F rfl rfl ?_; clear F a; intro a F
   obtain rfl := sinj hm
   refine wq_nil ?_; exact F.sub ⟨rfl, rfl, trivial⟩
 clear F; intro a F
 refine wq_ev (wn rfl) (ev_move rfl) F rfl rfl ?_; clear F a; intro a F
 obtain ⟨x5, hx5, hm⟩ := bind_some hm
 refine wq_cut 2 (fun a => Fr 55 a [(54, .bool x5), (6, .bool false)]) ?_ ?_
 ·clear hm; obtain ⟨hc5, hm⟩ | ⟨hc5, hm⟩ := ite_or hx5
  ·obtain ⟨y10, hy10, hm⟩ := bind_some hm
   refine wq_call (wg F rfl rfl rfl rfl hc5) rfl (xs := []) (vs := []) (cap := []) F rfl rfl tc27 (v := .bool y10) (fun w S => (changeforgelaw2_renamed_ok (g := g3) (fr := (fl [[bx b6 #[.i6 y2.2.Code, .i6 y2.2.Index] 29], [bx b5 #[v2] 44], [bx b4 #[.i6 y1.2.Code, .i6 y1.2.Index] 29], [bx b3 #[v1] 44], [bx b2 #[vt_1] 44], [bx b1 #[vp_1] 41]] fr)) (w := w)  S hy10).mono (by rintro en w' ⟨_, rfl, g2, l2, S2, rfl⟩; exact ⟨rfl, S2.weak l2⟩)) rfl rfl ?_; clear F a; intro a F
   refine wq_ev (wn rfl) (ev_pickT rfl hc5 rfl) F rfl rfl ?_; clear F a; intro a F
   obtain rfl := sinj hm
   refine wq_nil ?_; exact F.sub ⟨rfl, rfl, trivial⟩
  ·refine wq_skip rfl rfl rfl rfl (ne_tf hc5) F rfl rfl ?_; clear F a; intro a F
   refine wq_ev (wn rfl) (ev_pickF rfl hc5 rfl) F rfl rfl ?_; clear F a; intro a F
   obtain rfl := sinj hm
   refine wq_nil ?_; exact F.sub ⟨rfl, rfl, trivial⟩
 clear F; intro a F
 refine wq_ev (wn rfl) (ev_assign rfl) F rfl rfl ?_; clear F a; intro a F
 refine wq_nil ?_; clear S; intro w S
 refine then_n ?_
 refine wp_ret ?_
 obtain rfl := sinj hm
 refine post_r _ F rfl (ar_cons (resT rfl) ar_nil) ?_
 replace S : St g3 [] fr w := St.tail [] _ S
 exact ⟨_, rfl, g3, ((l1.trans l2).trans l3), S, rfl⟩
end Go.Dc
