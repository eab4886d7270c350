/- Walks: each function comes to what its model says. -/
import Derived.Test.YtjmigclbilnajaaDoorDcTab
import Derived.Test.YtjmigclbilnajaaDoorDcM
import Derived.Test.YtjmigclbilnajaaDoorDcW8
namespace Go.Dc
open Go Go.Proofs
set_option maxRecDepth 100000
set_option maxHeartbeats 4000000
set_option linter.unusedVariables false
theorem changeforgeref2_TreeFault_ok {g : Gh} {fr : Hl} {w : World} {r : Fault} (t_ : FileTree) (vt_1 : Value) (ht_1 : RepSl g t_.Files vt_1) (S : St g [] fr w) (hm : changeforgeref2_TreeFault t_ = some r) :
  Calls Tryd.prog 23 [.agg #[vt_1]].toArray w (fun en w' => ∃ v, en = .returned v ∧ ∃ (g' : Gh), Le g g' ∧ St g' [] fr w' ∧ .agg #[.i6 r.Code, .i6 r.Index] = v) := by
 unfold changeforgeref2_TreeFault at hm
 refine calls_enter (fn := Tryd.f23) Tryd.func23 rfl Tryd.ntmps23 (lb rfl) ?_
 intro a F
 replace F : Fr 71 a [(0, .agg #[vt_1])] := F
 refine wp_seq ?_
 refine wp_region_lit ?_
 refine wl_boxC (wn rfl) rfl rfl rfl F S rfl rfl ?_; clear F a S; rintro b1 a w F S
 refine wl_alloc (wn rfl) rfl tz29 (cs := [.i6 0, .i6 0]) rfl F S rfl rfl ?_; clear F a S; rintro b2 a w F S
 refine wpList_nil ?_
 refine then_n ?_
 refine wp_seq ?_
 refine wp_seq ?_
 refine wp_region_lit ?_
 refine wE (ev_fieldAddr' tu44 tf44_0 (z := 0) ts42 rfl ⟨_, rfl⟩ rfl) F S rfl fun a F=>?_
 refine wE (ev_load1 tu42 rfl rfl (box_ptr (cells := [vt_1]) 1 rfl 0 rfl (lb rfl))) F S rfl fun a F=>?_
 refine wE (ev_lenSh ht_1 rfl tu42) F S rfl fun a F=>?_
 refine wE (ev_int rfl rfl (bo_gtr _ _ _ _)) F S rfl fun a F=>?_
 refine wpList_nil ?_
 refine then_n ?_
 obtain ⟨hc1, hm⟩ | ⟨hc1, hm⟩ := ite_or hm
 ·refine wp_condT F rfl hc1 ?_
  refine wp_seq ?_
  refine wp_region_lit ?_
  obtain ⟨y1, hy1, hm⟩ := bind_some hm
  refine wl_call0 (wn rfl) rfl F rfl (changeforgeref1_At_ok (fr := (fl [[bx b2 #[.i6 0, .i6 0] 29], [bx b1 #[vt_1] 44]] fr)) 2 (-1) S hy1) rfl tc36 rfl rfl ?_; clear F a S
  rintro _ a w ⟨g1, l1, S, rfl⟩ F; replace S : St g1 [[bx b2 #[.i6 0, .i6 0] 29], [bx b1 #[vt_1] 44]] fr w := S
  refine wl_storeC (wn rfl) rfl F S rfl rfl (vs := [.i6 y1.Code, .i6 y1.Index]) rfl ts29 (one_cons rfl (one_cons rfl one_nil)) (k := 0) rfl (lb rfl) (c' := #[.i6 y1.Code, .i6 y1.Index]) rfl rfl ?_; clear S; intro w S
  refine wpList_nil ?_
  refine then_n ?_
  refine wp_ret ?_
  refine then_r ?_
  obtain rfl := sinj hm
  refine post_r _ F rfl (ar_cons (resA rfl tu29 rfl (box_ptr (cells := [.i6 y1.Code, .i6 y1.Index]) 0 rfl 0 rfl (lb rfl) w S) ts29) ar_nil) ?_
  replace S : St g1 [] fr w := St.tail [] _ S
  exact ⟨_, rfl, g1, l1, S, rfl⟩
 ·refine wp_condF F rfl hc1 ?_
  refine wp_skip ?_
  refine then_n ?_
  refine wp_cut (fun a w => ∃ (g2 : Gh), Fr 71 a [(2, bp b2 0)] ∧ Le g g2 ∧ St g2 [[bx b2 #[.i6 0, .i6 0] 29]] fr w ∧ changeforgeref2_TreeFault.j1 = some r) ?_ ?_
  ·refine wp_seq ?_
   refine wp_region_lit ?_
   refine wE (ev_assign rfl) F S rfl fun a F=>?_
   refine wpList_nil ?_
   refine then_n ?_
   refine wp_block ?_
   obtain ⟨r1, hr1, hm⟩ := bind_some hm
   have hmo1 := hm; clear hm
   refine wp_iter (σ := Int) (ρ := Fault ⊕ Unit) (m := fun s => changeforgeref2_TreeFault.l1 t_ s) (I := fun x1 a w => ∃ (g3 : Gh), Fr 71 a [(3, .i6 x1), (2, bp b2 0), (1, bp b1 0)] ∧ Le g g3 ∧ St g3 [[bx b2 #[.i6 0, .i6 0] 29], [bx b1 #[vt_1] 44]] fr w) hr1 ?_ ?_
   ·exact ⟨g, F.sub ⟨rfl, rfl, rfl, trivial⟩, (Le.refl _), S⟩
   ·clear F S; rintro x1 a w x2 ⟨g3, F, l3, S⟩ hx1 hfin1
    have hm : changeforgeref2_TreeFault.l1 t_ x1 = some x2 := hx1; clear hx1
    unfold changeforgeref2_TreeFault.l1 at hm
    refine wp_seq ?_
    refine wp_seq ?_
    refine wp_region_lit ?_
    refine wE (ev_move rfl) F S rfl fun a F=>?_
    refine wE (ev_fieldAddr' tu44 tf44_0 (z := 0) ts42 rfl ⟨_, rfl⟩ rfl) F S rfl fun a F=>?_
    refine wE (ev_load1 tu42 rfl rfl (box_ptr (cells := [vt_1]) 1 rfl 0 rfl (lb rfl))) F S rfl fun a F=>?_
    refine wE (ev_lenSh ht_1 rfl tu42) F S rfl fun a F=>?_
    refine wE (ev_int rfl rfl (bo_lss _ _ _ _)) F S rfl fun a F=>?_
    refine wpList_nil ?_
    refine then_n ?_
    obtain ⟨hc2, hm⟩ | ⟨hc2, hm⟩ := ite_or hm
    ·refine wp_condT F rfl hc2 ?_
     refine wp_skip ?_
     refine then_n ?_
     refine wp_cut (fun a w => ∃ (g4 : Gh), Fr 71 a [(3, .i6 x1), (2, bp b2 0), (1, bp b1 0)] ∧ Le g3 g4 ∧ St g4 [[bx b2 #[.i6 0, .i6 0] 29], [bx b1 #[vt_1] 44]] fr w ∧ changeforgeref2_TreeFault.j2 x1 = some x2) ?_ ?_
     ·refine wp_block ?_
      refine wp_seq ?_
      refine wp_region_lit ?_
      refine wE (ev_fieldAddr' tu44 tf44_0 (z := 0) ts42 rfl ⟨_, rfl⟩ rfl) F S rfl fun a F=>?_
      refine wE (ev_load1 tu42 rfl rfl (box_ptr (cells := [vt_1]) 1 rfl 0 rfl (lb rfl))) F S rfl fun a F=>?_
      refine wE (ev_move rfl) F S rfl fun a F=>?_
      obtain ⟨y2, hy2, hm⟩ := bind_some hm
      obtain ⟨cs1, hr2, hp1⟩ := elemS (ht_1.mono l3) hy2
      obtain ⟨v1, rfl, h1⟩ := rep_File hr2
      refine wE (ev_idxS (ht_1.mono l3) hy2 tu42 ts88 rfl rfl) F S rfl fun a F=>?_
      refine wE (ev_loadA tu88 rfl (cs := [.string y2.Path, v1]) ts88 rfl (ptr_mono (cks := [[bx b2 #[.i6 0, .i6 0] 29], [bx b1 #[vt_1] 44]]) (fr := fr) hp1 (Le.refl _))) F S rfl fun a F=>?_
      refine wl_alloc (wn rfl) rfl tz88 (cs := [.string ByteArray.empty, nilS]) rfl F S rfl rfl ?_; clear F a S; rintro b3 a w F S
      refine wl_storeC (wn rfl) rfl F S rfl rfl (vs := [.string y2.Path, v1]) rfl ts88 (one_cons rfl (one_cons h1.one one_nil)) (k := 0) rfl (lb rfl) (c' := #[.string y2.Path, v1]) rfl rfl ?_; clear S; intro w S
      refine wpList_nil ?_
      refine then_n ?_
      refine wp_seq ?_
      refine wp_seq ?_
      refine wp_region_lit ?_
      refine wE (ev_fieldAddr' tu88 tf88_0 (z := 0) ts9 rfl ⟨_, rfl⟩ rfl) F S rfl fun a F=>?_
      refine wE (ev_load1 tu9 rfl rfl (box_ptr (cells := [.string y2.Path]) 0 rfl 0 rfl (lb rfl))) F S rfl fun a F=>?_
      obtain ⟨y3, hy3, hm⟩ := bind_some hm
      refine wl_call0 (wn rfl) rfl F rfl (changeforgeref2_PathValid_ok (fr := (fl [[bx b3 #[.string y2.Path, v1] 88], [bx b2 #[.i6 0, .i6 0] 29], [bx b1 #[vt_1] 44]] fr)) y2.Path S hy3) rfl tc21 rfl rfl ?_; clear F a S
      rintro _ a w ⟨g5, l5, S, rfl⟩ F; replace S : St g5 [[bx b3 #[.string y2.Path, v1] 88], [bx b2 #[.i6 0, .i6 0] 29], [bx b1 #[vt_1] 44]] fr w := S
      refine wE (ev_not rfl) F S rfl fun a F=>?_
      refine wpList_nil ?_
      refine then_n ?_
      obtain ⟨hc3, hm⟩ | ⟨hc3, hm⟩ := ite_or hm
      ·refine wp_condT F rfl hc3 ?_
       refine wp_seq ?_
       refine wp_region_lit ?_
       refine wE (ev_move rfl) F S rfl fun a F=>?_
       obtain ⟨y4, hy4, hm⟩ := bind_some hm
       refine wl_call0 (wn rfl) rfl F rfl (changeforgeref1_At_ok (fr := (fl [[bx b3 #[.string y2.Path, v1] 88], [bx b2 #[.i6 0, .i6 0] 29], [bx b1 #[vt_1] 44]] fr)) 12 x1 S hy4) rfl tc36 rfl rfl ?_; clear F a S
       rintro _ a w ⟨g6, l6, S, rfl⟩ F; replace S : St g6 [[bx b3 #[.string y2.Path, v1] 88], [bx b2 #[.i6 0, .i6 0] 29], [bx b1 #[vt_1] 44]] fr w := S
       refine wl_storeC (wn rfl) rfl F S rfl rfl (vs := [.i6 y4.Code, .i6 y4.Index]) rfl ts29 (one_cons rfl (one_cons rfl one_nil)) (k := 1) rfl (lb rfl) (c' := #[.i6 y4.Code, .i6 y4.Index]) rfl rfl ?_; clear S; intro w S
       refine wpList_nil ?_
       refine then_n ?_
       refine wp_ret ?_
       refine then_r ?_
       refine inb_r ?_
       refine then_r ?_
       refine then_r ?_
       refine inb_r ?_
       refine then_r ?_
       obtain rfl := sinj hm
       obtain rfl := hfin1 _ rfl
       clear hm
       have hm : (some y4 : Option Fault) = some _ := hmo1
       obtain rfl := sinj hm
       refine post_r _ F rfl (ar_cons (resA rfl tu29 rfl (box_ptr (cells := [.i6 y4.Code, .i6 y4.Index]) 1 rfl 0 rfl (lb rfl) w S) ts29) ar_nil) ?_
       replace S : St g6 [] fr w := St.tail [] _ S
       exact ⟨_, rfl, g6, ((l3.trans l5).trans l6), S, rfl⟩
      ·refine wp_condF F rfl hc3 ?_
       refine wp_skip ?_
       refine then_n ?_
       refine wp_seq ?_
       refine wp_seq ?_
       refine wp_quiet mo (by kernel_rfl) S ?_
       refine wq_ev (wn rfl) (ev_move rfl) F rfl rfl ?_; clear F a; intro a F
       refine wq_ev (wn rfl) (ev_int rfl rfl (bo_gtr _ _ _ _)) F rfl rfl ?_; clear F a; intro a F
       refine wq_ev (wn rfl) (ev_move rfl) F rfl rfl ?_; clear F a; intro a F
       obtain ⟨x3, hx2, hm⟩ := bind_some hm
       refine wq_cut 11 (fun a => Fr 71 a [(43, .bool x3), (4, bp b3 0), (3, .i6 x1), (2, bp b2 0), (1, bp b1 0)]) ?_ ?_
       ·clear hm; obtain ⟨hc4, hm⟩ | ⟨hc4, hm⟩ := ite_or hx2
        ·refine wq_ev (wg F rfl rfl rfl rfl hc4) (ev_fieldAddr' tu88 tf88_0 (z := 0) ts9 rfl ⟨_, rfl⟩ rfl) F rfl rfl ?_; clear F a; intro a F
         refine wq_ev (wg F rfl rfl rfl rfl hc4) (ev_load1 tu9 rfl rfl (box_ptr (cells := [.string y2.Path]) 0 rfl 0 rfl (lb rfl))) F rfl rfl ?_; clear F a; intro a F
         refine wq_ev (wg F rfl rfl rfl rfl hc4) (ev_fieldAddr' tu44 tf44_0 (z := 0) ts42 rfl ⟨_, rfl⟩ rfl) F rfl rfl ?_; clear F a; intro a F
         refine wq_ev (wg F rfl rfl rfl rfl hc4) (ev_load1 tu42 rfl rfl (box_ptr (cells := [vt_1]) 2 rfl 0 rfl (lb rfl))) F rfl rfl ?_; clear F a; intro a F
         refine wq_ev (wg F rfl rfl rfl rfl hc4) (ev_move rfl) F rfl rfl ?_; clear F a; intro a F
         obtain ⟨z2, hz2, hm⟩ := bind_some hm
         refine wq_ev (wg F rfl rfl rfl rfl hc4) (ev_int rfl rfl (bo_sub hz2)) F rfl rfl ?_; clear F a; intro a F
         obtain ⟨y5, hy5, hm⟩ := bind_some hm
         obtain ⟨cs2, hr3, hp2⟩ := elemS (ht_1.mono (l3.trans l5)) hy5
         obtain ⟨v2, rfl, h2⟩ := rep_File hr3
         refine wq_ev (wg F rfl rfl rfl rfl hc4) (ev_idxS (ht_1.mono (l3.trans l5)) hy5 tu42 ts88 rfl rfl) F rfl rfl ?_; clear F a; intro a F
         have hp3 := PtrC.field hp2 0 1 (lb rfl)
         have hp3 : PtrC g5 (addP (elemP vt_1 z2 2) 0) [.string y5.Path] := hp3
         refine wq_ev (wg F rfl rfl rfl rfl hc4) (ev_fieldAddr' tu88 tf88_0 (z := 0) ts9 rfl hp2.ptr rfl) F rfl rfl ?_; clear F a; intro a F
         refine wq_ev (wg F rfl rfl rfl rfl hc4) (ev_load1 tu9 rfl rfl (ptr_mono (cks := [[bx b3 #[.string y2.Path, v1] 88], [bx b2 #[.i6 0, .i6 0] 29], [bx b1 #[vt_1] 44]]) (fr := fr) hp3 (Le.refl _))) F rfl rfl ?_; clear F a; intro a F
         refine wq_ev (wg F rfl rfl rfl rfl hc4) (ev_str rfl rfl (bs_leq _ _ _)) F rfl rfl ?_; clear F a; intro a F
         refine wq_ev (wn rfl) (ev_pickT rfl hc4 rfl) F rfl rfl ?_; clear F a; intro a F
         obtain rfl := sinj hm
         refine wq_nil ?_; exact F.sub ⟨rfl, rfl, rfl, rfl, rfl, trivial⟩
        ·refine wq_skip rfl rfl rfl rfl (ne_tf hc4) F rfl rfl ?_; clear F a; intro a F
         refine wq_skip rfl rfl rfl rfl (ne_tf hc4) F rfl rfl ?_; clear F a; intro a F
         refine wq_skip rfl rfl rfl rfl (ne_tf hc4) F rfl rfl ?_; clear F a; intro a F
         refine wq_skip rfl rfl rfl rfl (ne_tf hc4) F rfl rfl ?_; clear F a; intro a F
         refine wq_skip rfl rfl rfl rfl (ne_tf hc4) F rfl rfl ?_; clear F a; intro a F
         refine wq_skip rfl rfl rfl rfl (ne_tf hc4) F rfl rfl ?_; clear F a; intro a F
         refine wq_skip rfl rfl rfl rfl (ne_tf hc4) F rfl rfl ?_; clear F a; intro a F
         refine wq_skip rfl rfl rfl rfl (ne_tf hc4) F rfl rfl ?_; clear F a; intro a F
         refine wq_skip rfl rfl rfl rfl (ne_tf hc4) F rfl rfl ?_; clear F a; intro a F
         refine wq_skip rfl rfl rfl rfl (ne_tf hc4) F rfl rfl ?_; clear F a; intro a F
         refine wq_ev (wn rfl) (ev_pickF rfl hc4 rfl) F rfl rfl ?_; clear F a; intro a F
         obtain rfl := sinj hm
         refine wq_nil ?_; exact F.sub ⟨rfl, rfl, rfl, rfl, rfl, trivial⟩
       clear F; intro a F
       refine wq_nil ?_; clear S; intro w S
       refine then_n ?_
       obtain ⟨hc5, hm⟩ | ⟨hc5, hm⟩ := ite_or hm
       ·refine wp_condT F rfl hc5 ?_
        refine wp_seq ?_
        refine wp_region_lit ?_
        refine wE (ev_move rfl) F S rfl fun a F=>?_
        obtain ⟨y6, hy6, hm⟩ := bind_some hm
        refine wl_call0 (wn rfl) rfl F rfl (changeforgeref1_At_ok (fr := (fl [[bx b3 #[.string y2.Path, v1] 88], [bx b2 #[.i6 0, .i6 0] 29], [bx b1 #[vt_1] 44]] fr)) 5 x1 S hy6) rfl tc36 rfl rfl ?_; clear F a S
        rintro _ a w ⟨g7, l7, S, rfl⟩ F; replace S : St g7 [[bx b3 #[.string y2.Path, v1] 88], [bx b2 #[.i6 0, .i6 0] 29], [bx b1 #[vt_1] 44]] fr w := S
        refine wl_storeC (wn rfl) rfl F S rfl rfl (vs := [.i6 y6.Code, .i6 y6.Index]) rfl ts29 (one_cons rfl (one_cons rfl one_nil)) (k := 1) rfl (lb rfl) (c' := #[.i6 y6.Code, .i6 y6.Index]) rfl rfl ?_; clear S; intro w S
        refine wpList_nil ?_
        refine then_n ?_
        refine wp_ret ?_
        refine then_r ?_
        refine inb_r ?_
        refine then_r ?_
        refine then_r ?_
        refine inb_r ?_
        refine then_r ?_
        obtain rfl := sinj hm
        obtain rfl := hfin1 _ rfl
        clear hm
        have hm : (some y6 : Option Fault) = some _ := hmo1
        obtain rfl := sinj hm
        refine post_r _ F rfl (ar_cons (resA rfl tu29 rfl (box_ptr (cells := [.i6 y6.Code, .i6 y6.Index]) 1 rfl 0 rfl (lb rfl) w S) ts29) ar_nil) ?_
        replace S : St g7 [] fr w := St.tail [] _ S
        exact ⟨_, rfl, g7, ((l3.trans l5).trans l7), S, rfl⟩
       ·refine wp_condF F rfl hc5 ?_
        refine wp_skip ?_
        refine then_n ?_
        refine wp_cut (fun a w => ∃ (g8 : Gh), Fr 71 a [(4, bp b3 0), (3, .i6 x1), (2, bp b2 0), (1, bp b1 0)] ∧ Le g5 g8 ∧ St g8 [[bx b3 #[.string y2.Path, v1] 88], [bx b2 #[.i6 0, .i6 0] 29], [bx b1 #[vt_1] 44]] fr w ∧ changeforgeref2_TreeFault.j3 x1 y2 = some x2) ?_ ?_
        ·refine wp_seq ?_
         refine wp_region_lit ?_
         refine wE (ev_assign rfl) F S rfl fun a F=>?_
         refine wpList_nil ?_
         refine then_n ?_
         refine wp_block ?_
         obtain ⟨r2, hr4, hm⟩ := bind_some hm
         have hmo2 := hm; clear hm
         refine wp_iter (σ := Int) (ρ := Fault ⊕ Unit) (m := fun s => changeforgeref2_TreeFault.l2 t_ x1 y2 s) (I := fun x4 a w => ∃ (g11 : Gh), Fr 71 a [(5, .i6 x4), (4, bp b3 0), (3, .i6 x1), (2, bp b2 0), (1, bp b1 0)] ∧ Le g5 g11 ∧ St g11 [[bx b3 #[.string y2.Path, v1] 88], [bx b2 #[.i6 0, .i6 0] 29], [bx b1 #[vt_1] 44]] fr w) hr4 ?_ ?_
         ·exact ⟨g5, F.sub ⟨rfl, rfl, rfl, rfl, rfl, trivial⟩, (Le.refl _), S⟩
         ·clear F S; rintro x4 a w x5 ⟨g11, F, l11, S⟩ hx3 hfin2
          have hm : changeforgeref2_TreeFault.l2 t_ x1 y2 x4 = some x5 := hx3; clear hx3
          unfold changeforgeref2_TreeFault.l2 at hm
          refine wp_seq ?_
          refine wp_seq ?_
          refine wp_region_lit ?_
          refine wE (ev_move rfl) F S rfl fun a F=>?_
          refine wE (ev_move rfl) F S rfl fun a F=>?_
          refine wE (ev_int rfl rfl (bo_lss _ _ _ _)) F S rfl fun a F=>?_
          refine wpList_nil ?_
          refine then_n ?_
          obtain ⟨hc7, hm⟩ | ⟨hc7, hm⟩ := ite_or hm
          ·refine wp_condT F rfl hc7 ?_
           refine wp_skip ?_
           refine then_n ?_
           refine wp_seq ?_
           refine wp_block ?_
           refine wp_seq ?_
           refine wp_quiet mo (by kernel_rfl) S ?_
           refine wq_ev (wn rfl) (ev_fieldAddr' tu44 tf44_0 (z := 0) ts42 rfl ⟨_, rfl⟩ rfl) F rfl rfl ?_; clear F a; intro a F
           refine wq_ev (wn rfl) (ev_load1 tu42 rfl rfl (box_ptr (cells := [vt_1]) 2 rfl 0 rfl (lb rfl))) F rfl rfl ?_; clear F a; intro a F
           refine wq_ev (wn rfl) (ev_move rfl) F rfl rfl ?_; clear F a; intro a F
           obtain ⟨y9, hy9, hm⟩ := bind_some hm
           obtain ⟨cs3, hr5, hp4⟩ := elemS (ht_1.mono ((l3.trans l5).trans l11)) hy9
           obtain ⟨v3, rfl, h3⟩ := rep_File hr5
           refine wq_ev (wn rfl) (ev_idxS (ht_1.mono ((l3.trans l5).trans l11)) hy9 tu42 ts88 rfl rfl) F rfl rfl ?_; clear F a; intro a F
           have hp5 := PtrC.field hp4 0 1 (lb rfl)
           have hp5 : PtrC g11 (addP (elemP vt_1 x4 2) 0) [.string y9.Path] := hp5
           refine wq_ev (wn rfl) (ev_fieldAddr' tu88 tf88_0 (z := 0) ts9 rfl hp4.ptr rfl) F rfl rfl ?_; clear F a; intro a F
           refine wq_ev (wn rfl) (ev_load1 tu9 rfl rfl (ptr_mono (cks := [[bx b3 #[.string y2.Path, v1] 88], [bx b2 #[.i6 0, .i6 0] 29], [bx b1 #[vt_1] 44]]) (fr := fr) hp5 (Le.refl _))) F rfl rfl ?_; clear F a; intro a F
           refine wq_ev (wn rfl) (ev_fieldAddr' tu88 tf88_0 (z := 0) ts9 rfl ⟨_, rfl⟩ rfl) F rfl rfl ?_; clear F a; intro a F
           refine wq_ev (wn rfl) (ev_load1 tu9 rfl rfl (box_ptr (cells := [.string y2.Path]) 0 rfl 0 rfl (lb rfl))) F rfl rfl ?_; clear F a; intro a F
           obtain ⟨y10, hy10, hm⟩ := bind_some hm
           refine wq_call (wn rfl) rfl (xs := [.tmp 56, .tmp 58]) (vs := [.string y9.Path, .string y2.Path]) (cap := []) F rfl rfl tc55 (v := .bool y10) (fun w S => (changeforgeref2_Related_ok (g := g11) (fr := (fl [[bx b3 #[.string y2.Path, v1] 88], [bx b2 #[.i6 0, .i6 0] 29], [bx b1 #[vt_1] 44]] fr)) (w := w) y9.Path y2.Path S hy10).mono (by rintro en w' ⟨_, rfl, g2, l2, S2, rfl⟩; exact ⟨rfl, S2.weak l2⟩)) rfl rfl ?_; clear F a; intro a F
           refine wq_nil ?_; clear S; intro w S
           refine then_n ?_
           obtain ⟨hc8, hm⟩ | ⟨hc8, hm⟩ := ite_or hm
           ·refine wp_condT F rfl hc8 ?_
            refine wp_seq ?_
            refine wp_region_lit ?_
            refine wE (ev_move rfl) F S rfl fun a F=>?_
            obtain ⟨y11, hy11, hm⟩ := bind_some hm
            refine wl_call0 (wn rfl) rfl F rfl (changeforgeref1_At_ok (fr := (fl [[bx b3 #[.string y2.Path, v1] 88], [bx b2 #[.i6 0, .i6 0] 29], [bx b1 #[vt_1] 44]] fr)) 7 x1 S hy11) rfl tc36 rfl rfl ?_; clear F a S
            rintro _ a w ⟨g13, l13, S, rfl⟩ F; replace S : St g13 [[bx b3 #[.string y2.Path, v1] 88], [bx b2 #[.i6 0, .i6 0] 29], [bx b1 #[vt_1] 44]] fr w := S
            refine wl_storeC (wn rfl) rfl F S rfl rfl (vs := [.i6 y11.Code, .i6 y11.Index]) rfl ts29 (one_cons rfl (one_cons rfl one_nil)) (k := 1) rfl (lb rfl) (c' := #[.i6 y11.Code, .i6 y11.Index]) rfl rfl ?_; clear S; intro w S
            refine wpList_nil ?_
            refine then_n ?_
            refine wp_ret ?_
            refine inb_r ?_
            refine then_r ?_
            refine then_r ?_
            refine inb_r ?_
            refine then_r ?_
            refine inb_r ?_
            refine then_r ?_
            refine then_r ?_
            refine inb_r ?_
            refine then_r ?_
            obtain rfl := sinj hm
            obtain rfl := hfin2 _ rfl
            clear hm
            have hm : (some (Step.done (Sum.inl y11)) : Option (Step Int (Fault ⊕ Unit))) = some _ := hmo2
            obtain rfl := sinj hm
            obtain rfl := hfin1 _ rfl
            clear hm
            have hm : (some y11 : Option Fault) = some _ := hmo1
            obtain rfl := sinj hm
            refine post_r _ F rfl (ar_cons (resA rfl tu29 rfl (box_ptr (cells := [.i6 y11.Code, .i6 y11.Index]) 1 rfl 0 rfl (lb rfl) w S) ts29) ar_nil) ?_
            replace S : St g13 [] fr w := St.tail [] _ S
            exact ⟨_, rfl, g13, (((l3.trans l5).trans l11).trans l13), S, rfl⟩
           ·refine wp_condF F rfl hc8 ?_
            refine wp_skip ?_
            refine inb_n ?_
            refine then_n ?_
            refine wp_region_lit ?_
            refine wE (ev_move rfl) F S rfl fun a F=>?_
            obtain ⟨z3, hz3, hm⟩ := bind_some hm
            refine wE (ev_int rfl rfl (bo_add hz3)) F S rfl fun a F=>?_
            refine wE (ev_assign rfl) F S rfl fun a F=>?_
            refine wpList_nil ?_
            refine then_n ?_
            obtain rfl := sinj hm
            refine ⟨_, rfl, ?_⟩
            exact ⟨g11, F.sub ⟨rfl, rfl, rfl, rfl, rfl, trivial⟩, l11, S⟩
          ·refine wp_condF F rfl hc7 ?_
           refine wp_exit ?_
           refine then_e ?_
           refine then_e ?_
           refine inb_x ?_
           refine then_n ?_
           obtain rfl := sinj hm
           obtain rfl := hfin2 _ rfl
           clear hm
           have hm : (changeforgeref2_TreeFault.j3 x1 y2 : Option (Step Int (Fault ⊕ Unit))) = some _ := hmo2
           exact ⟨g11, F.sub ⟨rfl, rfl, rfl, rfl, trivial⟩, l11, S, hm⟩
        ·clear F S hm; rintro a w ⟨g8, F, l8, S, hm⟩
         refine wp_seq ?_
         refine wp_region_lit ?_
         refine wE (ev_fieldAddr' tu88 tf88_1 (z := 0) ts22 rfl ⟨_, rfl⟩ rfl) F S rfl fun a F=>?_
         refine wE (ev_load1 tu22 rfl rfl (box_ptr (cells := [v1]) 0 rfl 1 rfl (lb rfl))) F S rfl fun a F=>?_
         obtain ⟨y7, hy7, hm⟩ := bind_some hm
         refine wl_call0 (wn rfl) rfl F rfl (changeforgeref1_LinesCode_ok (fr := (fl [[bx b3 #[.string y2.Path, v1] 88], [bx b2 #[.i6 0, .i6 0] 29], [bx b1 #[vt_1] 44]] fr)) y2.Lines v1 (h1.mono (l5.trans l8)) S hy7) rfl tc56 rfl rfl ?_; clear F a S
         rintro _ a w ⟨g9, l9, S, rfl⟩ F; replace S : St g9 [[bx b3 #[.string y2.Path, v1] 88], [bx b2 #[.i6 0, .i6 0] 29], [bx b1 #[vt_1] 44]] fr w := S
         refine wE (ev_assign rfl) F S rfl fun a F=>?_
         refine wpList_nil ?_
         refine then_n ?_
         refine wp_seq ?_
         refine wp_region_lit ?_
         refine wE (ev_move rfl) F S rfl fun a F=>?_
         refine wE (ev_int rfl rfl (bo_neq _ _ _ _)) F S rfl fun a F=>?_
         refine wpList_nil ?_
         refine then_n ?_
         obtain ⟨hc6, hm⟩ | ⟨hc6, hm⟩ := ite_or hm
         ·refine wp_condT F rfl hc6 ?_
          refine wp_seq ?_
          refine wp_region_lit ?_
          refine wE (ev_move rfl) F S rfl fun a F=>?_
          refine wE (ev_move rfl) F S rfl fun a F=>?_
          obtain ⟨y8, hy8, hm⟩ := bind_some hm
          refine wl_call0 (wn rfl) rfl F rfl (changeforgeref1_At_ok (fr := (fl [[bx b3 #[.string y2.Path, v1] 88], [bx b2 #[.i6 0, .i6 0] 29], [bx b1 #[vt_1] 44]] fr)) y7 x1 S hy8) rfl tc36 rfl rfl ?_; clear F a S
          rintro _ a w ⟨g10, l10, S, rfl⟩ F; replace S : St g10 [[bx b3 #[.string y2.Path, v1] 88], [bx b2 #[.i6 0, .i6 0] 29], [bx b1 #[vt_1] 44]] fr w := S
          refine wl_storeC (wn rfl) rfl F S rfl rfl (vs := [.i6 y8.Code, .i6 y8.Index]) rfl ts29 (one_cons rfl (one_cons rfl one_nil)) (k := 1) rfl (lb rfl) (c' := #[.i6 y8.Code, .i6 y8.Index]) rfl rfl ?_; clear S; intro w S
          refine wpList_nil ?_
          refine then_n ?_
          refine wp_ret ?_
          refine inb_r ?_
          refine then_r ?_
          refine then_r ?_
          refine inb_r ?_
          refine then_r ?_
          obtain rfl := sinj hm
          obtain rfl := hfin1 _ rfl
          clear hm
          have hm : (some y8 : Option Fault) = some _ := hmo1
          obtain rfl := sinj hm
          refine post_r _ F rfl (ar_cons (resA rfl tu29 rfl (box_ptr (cells := [.i6 y8.Code, .i6 y8.Index]) 1 rfl 0 rfl (lb rfl) w S) ts29) ar_nil) ?_
          replace S : St g10 [] fr w := St.tail [] _ S
          exact ⟨_, rfl, g10, ((((l3.trans l5).trans l8).trans l9).trans l10), S, rfl⟩
         ·refine wp_condF F rfl hc6 ?_
          refine wp_skip ?_
          refine inb_n ?_
          refine then_n ?_
          replace S : St g9 [[bx b2 #[.i6 0, .i6 0] 29], [bx b1 #[vt_1] 44]] fr w := St.tail [[bx b2 #[.i6 0, .i6 0] 29], [bx b1 #[vt_1] 44]] _ ((S.frontC 2 rfl).frontC 2 rfl)
          exact ⟨g9, F.sub ⟨rfl, rfl, rfl, trivial⟩, ((l5.trans l8).trans l9), S, hm⟩
     ·clear F S hm; rintro a w ⟨g4, F, l4, S, hm⟩
      refine wp_region_lit ?_
      refine wE (ev_move rfl) F S rfl fun a F=>?_
      obtain ⟨z1, hz1, hm⟩ := bind_some hm
      refine wE (ev_int rfl rfl (bo_add hz1)) F S rfl fun a F=>?_
      refine wE (ev_assign rfl) F S rfl fun a F=>?_
      refine wpList_nil ?_
      refine then_n ?_
      obtain rfl := sinj hm
      refine ⟨_, rfl, ?_⟩
      exact ⟨g4, F.sub ⟨rfl, rfl, rfl, trivial⟩, (l3.trans l4), S⟩
    ·refine wp_condF F rfl hc2 ?_
     refine wp_exit ?_
     refine then_e ?_
     refine then_e ?_
     refine inb_x ?_
     refine then_n ?_
     obtain rfl := sinj hm
     obtain rfl := hfin1 _ rfl
     clear hm
     have hm : (changeforgeref2_TreeFault.j1 : Option Fault) = some _ := hmo1
     replace S : St g3 [[bx b2 #[.i6 0, .i6 0] 29]] fr w := St.tail [[bx b2 #[.i6 0, .i6 0] 29]] _ (S.frontC 0 rfl)
     exact ⟨g3, F.sub ⟨rfl, trivial⟩, l3, S, hm⟩
  ·clear F S hm; rintro a w ⟨g2, F, l2, S, hm⟩
   refine wp_seq ?_
   refine wp_region_lit ?_
   refine wE (ev_build (parts := []) (vs := []) rfl (fun w => tb29_  w)) F S rfl fun a F=>?_
   refine wl_storeC (wn rfl) rfl F S rfl rfl (vs := [.i6 0, .i6 0]) rfl ts29 (one_cons rfl (one_cons rfl one_nil)) (k := 0) rfl (lb rfl) (c' := #[.i6 0, .i6 0]) rfl rfl ?_; clear S; intro w S
   refine wpList_nil ?_
   refine then_n ?_
   refine wp_ret ?_
   obtain rfl := sinj hm
   refine post_r _ F rfl (ar_cons (resA rfl tu29 rfl (box_ptr (cells := [.i6 0, .i6 0]) 0 rfl 0 rfl (lb rfl) w S) ts29) ar_nil) ?_
   replace S : St g2 [] fr w := St.tail [] _ S
   exact ⟨_, rfl, g2, l2, S, rfl⟩

theorem changeforgeref2_TreePatchFault_ok {g : Gh} {fr : Hl} {w : World} {r : Fault} (p_ : TreePatch) (vp_1 : Value) (hp_1 : RepSl g p_.Changes vp_1) (S : St g [] fr w) (hm : changeforgeref2_TreePatchFault p_ = some r) :
  Calls Tryd.prog 25 [.agg #[vp_1]].toArray w (fun en w' => ∃ v, en = .returned v ∧ ∃ (g' : Gh), Le g g' ∧ St g' [] fr w' ∧ .agg #[.i6 r.Code, .i6 r.Index] = v) := by
 unfold changeforgeref2_TreePatchFault at hm
 refine calls_enter (fn := Tryd.f25) Tryd.func25 rfl Tryd.ntmps25 (lb rfl) ?_
 intro a F
 replace F : Fr 29 a [(0, .agg #[vp_1])] := F
 refine wp_seq ?_
 refine wp_region_lit ?_
 refine wl_boxC (wn rfl) rfl rfl rfl F S rfl rfl ?_; clear F a S; rintro b1 a w F S
 refine wl_alloc (wn rfl) rfl tz29 (cs := [.i6 0, .i6 0]) rfl F S rfl rfl ?_; clear F a S; rintro b2 a w F S
 refine wpList_nil ?_
 refine then_n ?_
 refine wp_seq ?_
 refine wp_seq ?_
 refine wp_region_lit ?_
 refine wE (ev_fieldAddr' tu41 tf41_0 (z := 0) ts39 rfl ⟨_, rfl⟩ rfl) F S rfl fun a F=>?_
 refine wE (ev_load1 tu39 rfl rfl (box_ptr (cells := [vp_1]) 1 rfl 0 rfl (lb rfl))) F S rfl fun a F=>?_
 refine wE (ev_lenSh hp_1 rfl tu39) F S rfl fun a F=>?_
 refine wE (ev_int rfl rfl (bo_gtr _ _ _ _)) F S rfl fun a F=>?_
 refine wpList_nil ?_
 refine then_n ?_
 obtain ⟨hc1, hm⟩ | ⟨hc1, hm⟩ := ite_or hm
 ·refine wp_condT F rfl hc1 ?_
  refine wp_seq ?_
  refine wp_region_lit ?_
  obtain ⟨y1, hy1, hm⟩ := bind_some hm
  refine wl_call0 (wn rfl) rfl F rfl (changeforgeref1_At_ok (fr := (fl [[bx b2 #[.i6 0, .i6 0] 29], [bx b1 #[vp_1] 41]] fr)) 2 (-1) S hy1) rfl tc36 rfl rfl ?_; clear F a S
  rintro _ a w ⟨g1, l1, S, rfl⟩ F; replace S : St g1 [[bx b2 #[.i6 0, .i6 0] 29], [bx b1 #[vp_1] 41]] fr w := S
  refine wl_storeC (wn rfl) rfl F S rfl rfl (vs := [.i6 y1.Code, .i6 y1.Index]) rfl ts29 (one_cons rfl (one_cons rfl one_nil)) (k := 0) rfl (lb rfl) (c' := #[.i6 y1.Code, .i6 y1.Index]) rfl rfl ?_; clear S; intro w S
  refine wpList_nil ?_
  refine then_n ?_
  refine wp_ret ?_
  refine then_r ?_
  obtain rfl := sinj hm
  refine post_r _ F rfl (ar_cons (resA rfl tu29 rfl (box_ptr (cells := [.i6 y1.Code, .i6 y1.Index]) 0 rfl 0 rfl (lb rfl) w S) ts29) ar_nil) ?_
  replace S : St g1 [] fr w := St.tail [] _ S
  exact ⟨_, rfl, g1, l1, S, rfl⟩
 ·refine wp_condF F rfl hc1 ?_
  refine wp_skip ?_
  refine then_n ?_
  refine wp_cut (fun a w => ∃ (g2 : Gh), Fr 29 a [(2, bp b2 0)] ∧ Le g g2 ∧ St g2 [[bx b2 #[.i6 0, .i6 0] 29]] fr w ∧ changeforgeref2_TreePatchFault.j1 = some r) ?_ ?_
  ·refine wp_seq ?_
   refine wp_region_lit ?_
   refine wE (ev_assign rfl) F S rfl fun a F=>?_
   refine wpList_nil ?_
   refine then_n ?_
   refine wp_block ?_
   obtain ⟨r1, hr1, hm⟩ := bind_some hm
   have hmo1 := hm; clear hm
   refine wp_iter (σ := Int) (ρ := Fault ⊕ Unit) (m := fun s => changeforgeref2_TreePatchFault.l1 p_ s) (I := fun x1 a w => ∃ (g3 : Gh), Fr 29 a [(3, .i6 x1), (2, bp b2 0), (1, bp b1 0)] ∧ Le g g3 ∧ St g3 [[bx b2 #[.i6 0, .i6 0] 29], [bx b1 #[vp_1] 41]] fr w) hr1 ?_ ?_
   ·exact ⟨g, F.sub ⟨rfl, rfl, rfl, trivial⟩, (Le.refl _), S⟩
   ·clear F S; rintro x1 a w x2 ⟨g3, F, l3, S⟩ hx1 hfin1
    have hm : changeforgeref2_TreePatchFault.l1 p_ x1 = some x2 := hx1; clear hx1
    unfold changeforgeref2_TreePatchFault.l1 at hm
    refine wp_seq ?_
    refine wp_seq ?_
    refine wp_region_lit ?_
    refine wE (ev_move rfl) F S rfl fun a F=>?_
    refine wE (ev_fieldAddr' tu41 tf41_0 (z := 0) ts39 rfl ⟨_, rfl⟩ rfl) F S rfl fun a F=>?_
    refine wE (ev_load1 tu39 rfl rfl (box_ptr (cells := [vp_1]) 1 rfl 0 rfl (lb rfl))) F S rfl fun a F=>?_
    refine wE (ev_lenSh hp_1 rfl tu39) F S rfl fun a F=>?_
    refine wE (ev_int rfl rfl (bo_lss _ _ _ _)) F S rfl fun a F=>?_
    refine wpList_nil ?_
    refine then_n ?_
    obtain ⟨hc2, hm⟩ | ⟨hc2, hm⟩ := ite_or hm
    ·refine wp_condT F rfl hc2 ?_
     refine wp_skip ?_
     refine then_n ?_
     refine wp_seq ?_
     refine wp_block ?_
     refine wp_seq ?_
     refine wp_region_lit ?_
     refine wE (ev_fieldAddr' tu41 tf41_0 (z := 0) ts39 rfl ⟨_, rfl⟩ rfl) F S rfl fun a F=>?_
     refine wE (ev_load1 tu39 rfl rfl (box_ptr (cells := [vp_1]) 1 rfl 0 rfl (lb rfl))) F S rfl fun a F=>?_
     refine wE (ev_move rfl) F S rfl fun a F=>?_
     obtain ⟨y2, hy2, hm⟩ := bind_some hm
     obtain ⟨cs1, hr2, hp1⟩ := elemS (hp_1.mono l3) hy2
     obtain ⟨v1, v2, rfl, h1, h2⟩ := rep_TreeChange hr2
     refine wE (ev_idxS (hp_1.mono l3) hy2 tu39 ts27 rfl rfl) F S rfl fun a F=>?_
     refine wE (ev_loadA tu27 rfl (cs := [.i6 y2.Kind, .string y2.Path, .string y2.To, v1, v2]) ts27 rfl (ptr_mono (cks := [[bx b2 #[.i6 0, .i6 0] 29], [bx b1 #[vp_1] 41]]) (fr := fr) hp1 (Le.refl _))) F S rfl fun a F=>?_
     obtain ⟨y3, hy3, hm⟩ := bind_some hm
     refine wl_call0 (wn rfl) rfl F rfl (changeforgeref2_ChangeCode_ok (fr := (fl [[bx b2 #[.i6 0, .i6 0] 29], [bx b1 #[vp_1] 41]] fr)) y2 v1 h1 v2 h2 S hy3) rfl tc35 rfl rfl ?_; clear F a S
     rintro _ a w ⟨g4, l4, S, rfl⟩ F; replace S : St g4 [[bx b2 #[.i6 0, .i6 0] 29], [bx b1 #[vp_1] 41]] fr w := S
     refine wE (ev_assign rfl) F S rfl fun a F=>?_
     refine wpList_nil ?_
     refine then_n ?_
     refine wp_seq ?_
     refine wp_region_lit ?_
     refine wE (ev_move rfl) F S rfl fun a F=>?_
     refine wE (ev_int rfl rfl (bo_neq _ _ _ _)) F S rfl fun a F=>?_
     refine wpList_nil ?_
     refine then_n ?_
     obtain ⟨hc3, hm⟩ | ⟨hc3, hm⟩ := ite_or hm
     ·refine wp_condT F rfl hc3 ?_
      refine wp_seq ?_
      refine wp_region_lit ?_
      refine wE (ev_move rfl) F S rfl fun a F=>?_
      refine wE (ev_move rfl) F S rfl fun a F=>?_
      obtain ⟨y4, hy4, hm⟩ := bind_some hm
      refine wl_call0 (wn rfl) rfl F rfl (changeforgeref1_At_ok (fr := (fl [[bx b2 #[.i6 0, .i6 0] 29], [bx b1 #[vp_1] 41]] fr)) y3 x1 S hy4) rfl tc36 rfl rfl ?_; clear F a S
      rintro _ a w ⟨g5, l5, S, rfl⟩ F; replace S : St g5 [[bx b2 #[.i6 0, .i6 0] 29], [bx b1 #[vp_1] 41]] fr w := S
      refine wl_storeC (wn rfl) rfl F S rfl rfl (vs := [.i6 y4.Code, .i6 y4.Index]) rfl ts29 (one_cons rfl (one_cons rfl one_nil)) (k := 0) rfl (lb rfl) (c' := #[.i6 y4.Code, .i6 y4.Index]) rfl rfl ?_; clear S; intro w S
      refine wpList_nil ?_
      refine then_n ?_
      refine wp_ret ?_
      refine inb_r ?_
      refine then_r ?_
      refine then_r ?_
      refine inb_r ?_
      refine then_r ?_
      obtain rfl := sinj hm
      obtain rfl := hfin1 _ rfl
      clear hm
      have hm : (some y4 : Option Fault) = some _ := hmo1
      obtain rfl := sinj hm
      refine post_r _ F rfl (ar_cons (resA rfl tu29 rfl (box_ptr (cells := [.i6 y4.Code, .i6 y4.Index]) 0 rfl 0 rfl (lb rfl) w S) ts29) ar_nil) ?_
      replace S : St g5 [] fr w := St.tail [] _ S
      exact ⟨_, rfl, g5, ((l3.trans l4).trans l5), S, rfl⟩
     ·refine wp_condF F rfl hc3 ?_
      refine wp_skip ?_
      refine inb_n ?_
      refine then_n ?_
      refine wp_region_lit ?_
      refine wE (ev_move rfl) F S rfl fun a F=>?_
      obtain ⟨z1, hz1, hm⟩ := bind_some hm
      refine wE (ev_int rfl rfl (bo_add hz1)) F S rfl fun a F=>?_
      refine wE (ev_assign rfl) F S rfl fun a F=>?_
      refine wpList_nil ?_
      refine then_n ?_
      obtain rfl := sinj hm
      refine ⟨_, rfl, ?_⟩
      exact ⟨g4, F.sub ⟨rfl, rfl, rfl, trivial⟩, (l3.trans l4), S⟩
    ·refine wp_condF F rfl hc2 ?_
     refine wp_exit ?_
     refine then_e ?_
     refine then_e ?_
     refine inb_x ?_
     refine then_n ?_
     obtain rfl := sinj hm
     obtain rfl := hfin1 _ rfl
     clear hm
     have hm : (changeforgeref2_TreePatchFault.j1 : Option Fault) = some _ := hmo1
     replace S : St g3 [[bx b2 #[.i6 0, .i6 0] 29]] fr w := St.tail [[bx b2 #[.i6 0, .i6 0] 29]] _ (S.frontC 0 rfl)
     exact ⟨g3, F.sub ⟨rfl, trivial⟩, l3, S, hm⟩
  ·clear F S hm; rintro a w ⟨g2, F, l2, S, hm⟩
   refine wp_seq ?_
   refine wp_region_lit ?_
   refine wE (ev_build (parts := []) (vs := []) rfl (fun w => tb29_  w)) F S rfl fun a F=>?_
   refine wl_storeC (wn rfl) rfl F S rfl rfl (vs := [.i6 0, .i6 0]) rfl ts29 (one_cons rfl (one_cons rfl one_nil)) (k := 0) rfl (lb rfl) (c' := #[.i6 0, .i6 0]) rfl rfl ?_; clear S; intro w S
   refine wpList_nil ?_
   refine then_n ?_
   refine wp_ret ?_
   obtain rfl := sinj hm
   refine post_r _ F rfl (ar_cons (resA rfl tu29 rfl (box_ptr (cells := [.i6 0, .i6 0]) 0 rfl 0 rfl (lb rfl) w S) ts29) ar_nil) ?_
   replace S : St g2 [] fr w := St.tail [] _ S
   exact ⟨_, rfl, g2, l2, S, rfl⟩

theorem changeforgeref2_Ordered_ok {g : Gh} {fr : Hl} {w : World} {r : FileTree} (l_ : (List File)) (vl_1 : Value) (hl_1 : RepSl g l_ vl_1) (S : St g [] fr w) (hm : changeforgeref2_Ordered l_ = some r) :
  Calls Tryd.prog 115 [vl_1].toArray w (fun en w' => ∃ v, en = .returned v ∧ ∃ (g' : Gh) (v1 : Value) (c1 : Hl), Le g g' ∧ St g' [c1] fr w' ∧ OwnS g' r.Files v1 c1 ∧ .agg #[v1] = v) := by
 unfold changeforgeref2_Ordered at hm
 refine calls_enter (fn := Tryd.f115) Tryd.func115 rfl Tryd.ntmps115 (lb rfl) ?_
 intro a F
 replace F : Fr 62 a [(0, vl_1)] := F
 refine wp_seq ?_
 refine wp_region_lit ?_
 refine wl_alloc (wn rfl) rfl tz44 (cs := [nilS]) rfl F S rfl rfl ?_; clear F a S; rintro b1 a w F S
 refine wpList_nil ?_
 refine then_n ?_
 refine wp_seq ?_
 refine wp_region_lit ?_
 refine wl_alloc (wn rfl) rfl tz44 (cs := [nilS]) rfl F S rfl rfl ?_; clear F a S; rintro b2 a w F S
 refine wpList_nil ?_
 refine then_n ?_
 refine wp_cut (fun a w => ∃ (x1 : List File) (v1 : Value) (c1 : Hl) (g1 : Gh), Fr 62 a [(3, bp b2 0), (2, bp b1 0)] ∧ Le g g1 ∧ St g1 [[bx b2 #[v1] 44], [bx b1 #[nilS] 44], c1] fr w ∧ OwnS g1 x1 v1 c1 ∧ changeforgeref2_Ordered.j1 x1 = some r) ?_ ?_
 ·refine wp_seq ?_
  refine wp_region_lit ?_
  refine wE (ev_assign rfl) F S rfl fun a F=>?_
  refine wpList_nil ?_
  refine then_n ?_
  refine wp_block ?_
  obtain ⟨r1, hr1, hm⟩ := bind_some hm
  have hmo1 := hm; clear hm
  refine wp_iter (σ := Int × (List File)) (ρ := (List File)) (m := fun s => changeforgeref2_Ordered.l1 l_ s.1 s.2) (I := fun s a w => match s with | (x2, x3) => ∃ (v2 : Value) (c2 : Hl) (g2 : Gh), Fr 62 a [(4, .i6 x2), (3, bp b2 0), (2, bp b1 0), (0, vl_1)] ∧ Le g g2 ∧ St g2 [[bx b2 #[v2] 44], [bx b1 #[nilS] 44], c2] fr w ∧ OwnS g2 x3 v2 c2) hr1 ?_ ?_
  ·dsimp only
   replace S : St g [[], [bx b2 #[nilS] 44], [bx b1 #[nilS] 44]] fr w := S
   replace S : St g [[bx b2 #[nilS] 44], [bx b1 #[nilS] 44], []] fr w := St.tail [[bx b2 #[nilS] 44], [bx b1 #[nilS] 44], []] _ (((S.frontC 0 rfl).frontC 3 rfl).frontC 3 rfl)
   exact ⟨(nilS), [], g, F.sub ⟨rfl, rfl, rfl, rfl, trivial⟩, (Le.refl _), S, (OwnS.nil _)⟩
  ·clear F S; rintro ⟨x2, x3⟩ a w x4 ⟨v2, c2, g2, F, l2, S, h2⟩ hx1 hfin1
   have hm : changeforgeref2_Ordered.l1 l_ x2 x3 = some x4 := hx1; clear hx1
   unfold changeforgeref2_Ordered.l1 at hm
   refine wp_seq ?_
   refine wp_seq ?_
   refine wp_region_lit ?_
   refine wE (ev_move rfl) F S rfl fun a F=>?_
   refine wE (ev_move rfl) F S rfl fun a F=>?_
   refine wE (ev_lenSh hl_1 rfl tu42) F S rfl fun a F=>?_
   refine wE (ev_int rfl rfl (bo_lss _ _ _ _)) F S rfl fun a F=>?_
   refine wpList_nil ?_
   refine then_n ?_
   obtain ⟨hc1, hm⟩ | ⟨hc1, hm⟩ := ite_or hm
   ·refine wp_condT F rfl hc1 ?_
    refine wp_skip ?_
    refine then_n ?_
    refine wp_cut (fun a w => ∃ (x5 : List File) (v3 : Value) (c3 : Hl) (g3 : Gh), Fr 62 a [(4, .i6 x2), (3, bp b2 0), (2, bp b1 0), (0, vl_1)] ∧ Le g2 g3 ∧ St g3 [[bx b2 #[v3] 44], [bx b1 #[nilS] 44], c3] fr w ∧ OwnS g3 x5 v3 c3 ∧ changeforgeref2_Ordered.j2 x2 x5 = some x4) ?_ ?_
    ·refine wp_block ?_
     refine wp_seq ?_
     refine wp_region_lit ?_
     refine wE (ev_fieldAddr' tu44 tf44_0 (z := 0) ts42 rfl ⟨_, rfl⟩ rfl) F S rfl fun a F=>?_
     refine wE (ev_load1 tu42 rfl rfl (box_ptr (cells := [v2]) 0 rfl 0 rfl (lb rfl))) F S rfl fun a F=>?_
     refine wE (ev_lenOw h2 rfl tu42) F S rfl fun a F=>?_
     refine wE (ev_assign rfl) F S rfl fun a F=>?_
     refine wpList_nil ?_
     refine then_n ?_
     refine wp_seq ?_
     refine wp_dv [] mo S ?_; clear S; intro ok1 w S
     refine dv_et ok1 0 rfl (ev_fieldAddr' tu44 tf44_0 (z := 0) ts42 rfl ⟨_, rfl⟩ rfl) F rfl fun a F=>?_
     refine dv_ev ok1 1 rfl (ev_load1 tu42 rfl rfl (box_ptr (cells := [v2]) 0 rfl 0 rfl (lb rfl))) F S rfl fun a F=>?_
     refine dv_et ok1 2 rfl (ev_move rfl) F rfl fun a F=>?_
     refine dv_et ok1 3 rfl (ev_move rfl) F rfl fun a F=>?_
     obtain ⟨y1, hy1, hm⟩ := bind_some hm
     obtain ⟨cs1, hr2, hp1⟩ := elemS (hl_1.mono l2) hy1
     obtain ⟨v4, rfl, h4⟩ := rep_File hr2
     refine dv_et ok1 4 rfl (ev_idxS (hl_1.mono l2) hy1 tu42 ts88 rfl rfl) F rfl fun a F=>?_
     refine dv_ev ok1 5 rfl (ev_loadA tu88 rfl (cs := [.string y1.Path, v4]) ts88 rfl (ptr_mono (cks := [[bx b2 #[v2] 44], [bx b1 #[nilS] 44], c2]) (fr := fr) hp1 (Le.refl _))) F S rfl fun a F=>?_
     refine dv_op ok1 6 rfl [(1, v2)] ?_
     refine wl_lit (l := ([y1] : List File)) (vs := [.agg #[.string y1.Path, v4]]) (parts := [(0, .tmp 20)]) (wn rfl) rfl rfl rfl tu42 te88 (sz_cons rfl sz_nil) rfl (Cat.cons (rep_File_mk (x := y1) h4) (Cat.nil _)) (coa_cons rfl coa_nil) rfl F S rfl rfl ?_; clear F a S
     rintro v5 c4 a w h5 F S
     refine dv_nx ⟨yl_ev rfl rfl (ev_load1 tu42 rfl rfl (box_ptr (cells := [v2]) 1 rfl 0 rfl (lb rfl))) F S, trivial⟩ ?_
     refine dv_op ok1 7 rfl [] ?_
     obtain ⟨cs2, hk1, hr3⟩ := OwnS.reads h5
     obtain ⟨y2, hy2, hm⟩ := bind_some hm
     refine wl_append (wn rfl) rfl tu42 tu42 te88 (by decide) (by decide) F S rfl rfl (k := 3) rfl h2 hk1 rfl (hr3 _ _ _ 0 rfl S) hy2 rfl rfl ?_; clear F a S
     rintro v6 c5 a w h6 S F; replace S : St g2 [c4, [bx b2 #[v2] 44], [bx b1 #[nilS] 44], c5] fr w := S
     refine dv_nx trivial ?_
     refine dv_et ok1 8 rfl (ev_fieldAddr' tu44 tf44_0 (z := 0) ts42 rfl ⟨_, rfl⟩ rfl) F rfl fun a F=>?_
     refine dv_op ok1 9 rfl [] ?_
     refine wl_storeC (wn rfl) rfl F S rfl rfl (vs := [v6]) (OwnS.cl h6) ts42 (one_cons (OwnS.one h6) one_nil) (k := 1) rfl (lb rfl) (c' := #[v6]) rfl rfl ?_; clear S; intro w S
     refine dv_nx trivial ?_
     refine dv_fin ok1 ?_
     refine then_n ?_
     refine wp_cut (fun a w => ∃ (x6 : Int) (x7 : List File) (v7 : Value) (c6 : Hl) (g4 : Gh), Fr 62 a [(5, .i6 x6), (4, .i6 x2), (3, bp b2 0), (2, bp b1 0), (0, vl_1)] ∧ Le g2 g4 ∧ St g4 [[bx b2 #[v7] 44], [bx b1 #[nilS] 44], c6] fr w ∧ OwnS g4 x7 v7 c6 ∧ changeforgeref2_Ordered.j3 l_ x2 x6 x7 = some x4) ?_ ?_
     ·refine wp_block ?_
      obtain ⟨r2, hr5, hm⟩ := bind_some hm
      have hmo2 := hm; clear hm
      refine wp_iter (σ := Int × (List File)) (ρ := Int × (List File)) (m := fun s => changeforgeref2_Ordered.l2 l_ x2 s.1 s.2) (I := fun s a w => match s with | (x8, x9) => ∃ (v9 : Value) (c8 : Hl) (g5 : Gh), Fr 62 a [(5, .i6 x8), (4, .i6 x2), (3, bp b2 0), (2, bp b1 0), (0, vl_1)] ∧ Le g2 g5 ∧ St g5 [[bx b2 #[v9] 44], [bx b1 #[nilS] 44], c8] fr w ∧ OwnS g5 x9 v9 c8) hr5 ?_ ?_
      ·dsimp only
       replace S : St g2 [[bx b2 #[v6] 44], [bx b1 #[nilS] 44], c5] fr w := St.tail [[bx b2 #[v6] 44], [bx b1 #[nilS] 44], c5] _ (((S.frontC 3 rfl).frontC 3 rfl).frontC 3 rfl)
       exact ⟨v6, c5, g2, F.sub ⟨rfl, rfl, rfl, rfl, rfl, trivial⟩, (Le.refl _), S, h6⟩
      ·clear F S; rintro ⟨x8, x9⟩ a w x10 ⟨v9, c8, g5, F, l5, S, h10⟩ hx2 hfin2
       have hm : changeforgeref2_Ordered.l2 l_ x2 x8 x9 = some x10 := hx2; clear hx2
       unfold changeforgeref2_Ordered.l2 at hm
       refine wp_seq ?_
       refine wp_seq ?_
       refine wp_quiet mo (by kernel_rfl) S ?_
       refine wq_ev (wn rfl) (ev_move rfl) F rfl rfl ?_; clear F a; intro a F
       refine wq_ev (wn rfl) (ev_int rfl rfl (bo_gtr _ _ _ _)) F rfl rfl ?_; clear F a; intro a F
       refine wq_ev (wn rfl) (ev_move rfl) F rfl rfl ?_; clear F a; intro a F
       obtain ⟨x11, hx3, hm⟩ := bind_some hm
       refine wq_cut 14 (fun a => Fr 62 a [(40, .bool x11), (5, .i6 x8), (4, .i6 x2), (3, bp b2 0), (2, bp b1 0), (0, vl_1)]) ?_ ?_
       ·clear hm; obtain ⟨hc2, hm⟩ | ⟨hc2, hm⟩ := ite_or hx3
        ·refine wq_ev (wg F rfl rfl rfl rfl hc2) (ev_move rfl) F rfl rfl ?_; clear F a; intro a F
         refine wq_ev (wg F rfl rfl rfl rfl hc2) (ev_move rfl) F rfl rfl ?_; clear F a; intro a F
         obtain ⟨y6, hy6, hm⟩ := bind_some hm
         obtain ⟨cs4, hr6, hp3⟩ := elemS (hl_1.mono (l2.trans l5)) hy6
         obtain ⟨v10, rfl, h11⟩ := rep_File hr6
         refine wq_ev (wg F rfl rfl rfl rfl hc2) (ev_idxS (hl_1.mono (l2.trans l5)) hy6 tu42 ts88 rfl rfl) F rfl rfl ?_; clear F a; intro a F
         have hp4 := PtrC.field hp3 0 1 (lb rfl)
         have hp4 : PtrC g5 (addP (elemP vl_1 x2 2) 0) [.string y6.Path] := hp4
         refine wq_ev (wg F rfl rfl rfl rfl hc2) (ev_fieldAddr' tu88 tf88_0 (z := 0) ts9 rfl hp3.ptr rfl) F rfl rfl ?_; clear F a; intro a F
         refine wq_ev (wg F rfl rfl rfl rfl hc2) (ev_load1 tu9 rfl rfl (ptr_mono (cks := [[bx b2 #[v9] 44], [bx b1 #[nilS] 44], c8]) (fr := fr) hp4 (Le.refl _))) F rfl rfl ?_; clear F a; intro a F
         refine wq_ev (wg F rfl rfl rfl rfl hc2) (ev_fieldAddr' tu44 tf44_0 (z := 0) ts42 rfl ⟨_, rfl⟩ rfl) F rfl rfl ?_; clear F a; intro a F
         refine wq_ev (wg F rfl rfl rfl rfl hc2) (ev_load1 tu42 rfl rfl (box_ptr (cells := [v9]) 0 rfl 0 rfl (lb rfl))) F rfl rfl ?_; clear F a; intro a F
         refine wq_ev (wg F rfl rfl rfl rfl hc2) (ev_move rfl) F rfl rfl ?_; clear F a; intro a F
         obtain ⟨z2, hz2, hm⟩ := bind_some hm
         refine wq_ev (wg F rfl rfl rfl rfl hc2) (ev_int rfl rfl (bo_sub hz2)) F rfl rfl ?_; clear F a; intro a F
         obtain ⟨y7, hy7, hm⟩ := bind_some hm
         refine wq_ev (wg F rfl rfl rfl rfl hc2) (ev_idxO h10 hy7 tu42 ts88 rfl rfl) F rfl rfl ?_; clear F a; intro a F
         refine wq_ev (wg F rfl rfl rfl rfl hc2) (ev_fieldAddr' tu88 tf88_0 (z := 0) ts9 rfl (elemO_ptr h10 hy7) addP_zero) F rfl rfl ?_; clear F a; intro a F
         obtain ⟨cs5, hr7, hq1⟩ := elemO h10 hy7
         obtain ⟨v11, rfl, h12⟩ := rep_File hr7
         refine wq_ev (wg F rfl rfl rfl rfl hc2) (ev_load1 tu9 rfl rfl (fun w s => addP_zero ▸ fieldP (cells := [.string y7.Path]) 0 (hq1 _ _ 2 rfl w s) rfl (lb rfl))) F rfl rfl ?_; clear F a; intro a F
         refine wq_ev (wg F rfl rfl rfl rfl hc2) (ev_str rfl rfl (bs_lss _ _ _)) F rfl rfl ?_; clear F a; intro a F
         refine wq_ev (wn rfl) (ev_pickT rfl hc2 rfl) F rfl rfl ?_; clear F a; intro a F
         obtain rfl := sinj hm
         refine wq_nil ?_; exact F.sub ⟨rfl, rfl, rfl, rfl, rfl, rfl, trivial⟩
        ·refine wq_skip rfl rfl rfl rfl (ne_tf hc2) F rfl rfl ?_; clear F a; intro a F
         refine wq_skip rfl rfl rfl rfl (ne_tf hc2) F rfl rfl ?_; clear F a; intro a F
         refine wq_skip rfl rfl rfl rfl (ne_tf hc2) F rfl rfl ?_; clear F a; intro a F
         refine wq_skip rfl rfl rfl rfl (ne_tf hc2) F rfl rfl ?_; clear F a; intro a F
         refine wq_skip rfl rfl rfl rfl (ne_tf hc2) F rfl rfl ?_; clear F a; intro a F
         refine wq_skip rfl rfl rfl rfl (ne_tf hc2) F rfl rfl ?_; clear F a; intro a F
         refine wq_skip rfl rfl rfl rfl (ne_tf hc2) F rfl rfl ?_; clear F a; intro a F
         refine wq_skip rfl rfl rfl rfl (ne_tf hc2) F rfl rfl ?_; clear F a; intro a F
         refine wq_skip rfl rfl rfl rfl (ne_tf hc2) F rfl rfl ?_; clear F a; intro a F
         refine wq_skip rfl rfl rfl rfl (ne_tf hc2) F rfl rfl ?_; clear F a; intro a F
         refine wq_skip rfl rfl rfl rfl (ne_tf hc2) F rfl rfl ?_; clear F a; intro a F
         refine wq_skip rfl rfl rfl rfl (ne_tf hc2) F rfl rfl ?_; clear F a; intro a F
         refine wq_skip rfl rfl rfl rfl (ne_tf hc2) F rfl rfl ?_; clear F a; intro a F
         refine wq_ev (wn rfl) (ev_pickF rfl hc2 rfl) F rfl rfl ?_; clear F a; intro a F
         obtain rfl := sinj hm
         refine wq_nil ?_; exact F.sub ⟨rfl, rfl, rfl, rfl, rfl, rfl, trivial⟩
       clear F; intro a F
       refine wq_nil ?_; clear S; intro w S
       refine then_n ?_
       obtain ⟨hc3, hm⟩ | ⟨hc3, hm⟩ := ite_or hm
       ·refine wp_condT F rfl hc3 ?_
        refine wp_skip ?_
        refine then_n ?_
        refine wp_block ?_
        refine wp_seq ?_
        refine wp_dv [] mo S ?_; clear S; intro ok3 w S
        refine dv_et ok3 0 rfl (ev_fieldAddr' tu44 tf44_0 (z := 0) ts42 rfl ⟨_, rfl⟩ rfl) F rfl fun a F=>?_
        refine dv_ev ok3 1 rfl (ev_load1 tu42 rfl rfl (box_ptr (cells := [v9]) 0 rfl 0 rfl (lb rfl))) F S rfl fun a F=>?_
        refine dv_et ok3 2 rfl (ev_move rfl) F rfl fun a F=>?_
        refine dv_et ok3 3 rfl (ev_fieldAddr' tu44 tf44_0 (z := 0) ts42 rfl ⟨_, rfl⟩ rfl) F rfl fun a F=>?_
        refine dv_ev ok3 4 rfl (ev_load1 tu42 rfl rfl (box_ptr (cells := [v9]) 0 rfl 0 rfl (lb rfl))) F S rfl fun a F=>?_
        refine dv_et ok3 5 rfl (ev_move rfl) F rfl fun a F=>?_
        obtain ⟨z3, hz3, hm⟩ := bind_some hm
        refine dv_et ok3 6 rfl (ev_int rfl rfl (bo_sub hz3)) F rfl fun a F=>?_
        obtain ⟨y8, hy8, hm⟩ := bind_some hm
        refine dv_et ok3 7 rfl (ev_idxO h10 hy8 tu42 ts88 rfl rfl) F rfl fun a F=>?_
        obtain ⟨cs6, hr8, hq2⟩ := elemO h10 hy8
        obtain ⟨v12, rfl, h13⟩ := rep_File hr8
        refine dv_ev ok3 8 rfl (ev_loadA tu88 rfl (cs := [.string y8.Path, v12]) ts88 rfl (hq2 _ _ 2 rfl)) F S rfl fun a F=>?_
        obtain ⟨y9, hy9, hm⟩ := bind_some hm
        refine dv_et ok3 9 rfl (ev_idxO h10 hy9 tu42 ts88 rfl rfl) F rfl fun a F=>?_
        refine dv_op ok3 10 rfl [] ?_
        obtain ⟨y10, hy10, hm⟩ := bind_some hm
        refine wl_storeW (z' := y8) (wn rfl) rfl F S h10 hy9 rfl rfl (us := [.string y8.Path, v12]) rfl ts88 (one_cons rfl (one_cons h13.one one_nil)) (k := 2) rfl rfl (rep_File_mk (x := y8) h13) rfl ?_; clear S
        rintro c9 w h14 S; replace S : St g5 [[bx b2 #[v9] 44], [bx b1 #[nilS] 44], c9] fr w := S; replace h14 : OwnS g5 y10 v9 c9 := sinj hy10 ▸ h14
        replace F := F.sub (e' := [(50, elemP v9 x8 2), (49, .agg #[.string y8.Path, v12]), (47, .i6 z3), (46, .i6 x8), (45, v9), (44, bp b2 0), (43, .i6 x8), (42, v9), (41, bp b2 0), (40, .bool x11), (5, .i6 x8), (4, .i6 x2), (3, bp b2 0), (2, bp b1 0), (0, vl_1)]) ⟨rfl, rfl, rfl, rfl, rfl, rfl, rfl, rfl, rfl, rfl, rfl, rfl, rfl, rfl, rfl, trivial⟩
        refine dv_nx trivial ?_
        refine dv_fin ok3 ?_
        refine then_n ?_
        refine wp_region_lit ?_
        refine wE (ev_move rfl) F S rfl fun a F=>?_
        obtain ⟨z4, hz4, hm⟩ := bind_some hm
        refine wE (ev_int rfl rfl (bo_sub hz4)) F S rfl fun a F=>?_
        refine wE (ev_assign rfl) F S rfl fun a F=>?_
        refine wpList_nil ?_
        refine inb_n ?_
        refine then_n ?_
        obtain rfl := sinj hm
        refine ⟨_, rfl, ?_⟩
        dsimp only
        exact ⟨v9, c9, g5, F.sub ⟨rfl, rfl, rfl, rfl, rfl, trivial⟩, l5, S, h14⟩
       ·refine wp_condF F rfl hc3 ?_
        refine wp_exit ?_
        refine then_e ?_
        refine then_e ?_
        refine inb_x ?_
        refine then_n ?_
        obtain rfl := sinj hm
        obtain rfl := hfin2 _ rfl
        clear hm
        have hm : (changeforgeref2_Ordered.j3 l_ x2 x8 x9 : Option (Step (Int × (List File)) (List File))) = some _ := hmo2
        exact ⟨x8, x9, v9, c8, g5, F.sub ⟨rfl, rfl, rfl, rfl, rfl, trivial⟩, l5, S, h10, hm⟩
     ·clear F S hm; rintro a w ⟨x6, x7, v7, c6, g4, F, l4, S, h7, hm⟩
      refine wp_dv [] mo S ?_; clear S; intro ok2 w S
      refine dv_et ok2 0 rfl (ev_fieldAddr' tu44 tf44_0 (z := 0) ts42 rfl ⟨_, rfl⟩ rfl) F rfl fun a F=>?_
      refine dv_ev ok2 1 rfl (ev_load1 tu42 rfl rfl (box_ptr (cells := [v7]) 0 rfl 0 rfl (lb rfl))) F S rfl fun a F=>?_
      refine dv_et ok2 2 rfl (ev_move rfl) F rfl fun a F=>?_
      refine dv_et ok2 3 rfl (ev_move rfl) F rfl fun a F=>?_
      refine dv_et ok2 4 rfl (ev_move rfl) F rfl fun a F=>?_
      obtain ⟨y3, hy3, hm⟩ := bind_some hm
      obtain ⟨cs3, hr4, hp2⟩ := elemS (hl_1.mono (l2.trans l4)) hy3
      obtain ⟨v8, rfl, h8⟩ := rep_File hr4
      refine dv_et ok2 5 rfl (ev_idxS (hl_1.mono (l2.trans l4)) hy3 tu42 ts88 rfl rfl) F rfl fun a F=>?_
      refine dv_ev ok2 6 rfl (ev_loadA tu88 rfl (cs := [.string y3.Path, v8]) ts88 rfl (ptr_mono (cks := [[bx b2 #[v7] 44], [bx b1 #[nilS] 44], c6]) (fr := fr) hp2 (Le.refl _))) F S rfl fun a F=>?_
      obtain ⟨y4, hy4, hm⟩ := bind_some hm
      refine dv_et ok2 7 rfl (ev_idxO h7 hy4 tu42 ts88 rfl rfl) F rfl fun a F=>?_
      refine dv_op ok2 8 rfl [] ?_
      obtain ⟨y5, hy5, hm⟩ := bind_some hm
      refine wl_storeW (z' := y3) (wn rfl) rfl F S h7 hy4 rfl rfl (us := [.string y3.Path, v8]) rfl ts88 (one_cons rfl (one_cons h8.one one_nil)) (k := 2) rfl rfl (rep_File_mk (x := y3) h8) rfl ?_; clear S
      rintro c7 w h9 S; replace S : St g4 [[bx b2 #[v7] 44], [bx b1 #[nilS] 44], c7] fr w := S; replace h9 : OwnS g4 y5 v7 c7 := sinj hy5 ▸ h9
      refine dv_nx trivial ?_
      refine dv_fin ok2 ?_
      refine inb_n ?_
      refine then_n ?_
      exact ⟨y5, v7, c7, g4, F.sub ⟨rfl, rfl, rfl, rfl, trivial⟩, l4, S, h9, hm⟩
    ·clear F S hm; rintro a w ⟨x5, v3, c3, g3, F, l3, S, h3, hm⟩
     refine wp_region_lit ?_
     refine wE (ev_move rfl) F S rfl fun a F=>?_
     obtain ⟨z1, hz1, hm⟩ := bind_some hm
     refine wE (ev_int rfl rfl (bo_add hz1)) F S rfl fun a F=>?_
     refine wE (ev_assign rfl) F S rfl fun a F=>?_
     refine wpList_nil ?_
     refine then_n ?_
     obtain rfl := sinj hm
     refine ⟨_, rfl, ?_⟩
     dsimp only
     exact ⟨v3, c3, g3, F.sub ⟨rfl, rfl, rfl, rfl, trivial⟩, (l2.trans l3), S, h3⟩
   ·refine wp_condF F rfl hc1 ?_
    refine wp_exit ?_
    refine then_e ?_
    refine then_e ?_
    refine inb_x ?_
    refine then_n ?_
    obtain rfl := sinj hm
    obtain rfl := hfin1 _ rfl
    clear hm
    have hm : (changeforgeref2_Ordered.j1 x3 : Option FileTree) = some _ := hmo1
    exact ⟨x3, v2, c2, g2, F.sub ⟨rfl, rfl, trivial⟩, l2, S, h2, hm⟩
 ·clear F S hm; rintro a w ⟨x1, v1, c1, g1, F, l1, S, h1, hm⟩
  refine wp_seq ?_
  refine wp_region_lit ?_
  refine wE (ev_loadA tu44 rfl (cs := [v1]) ts44 rfl (box_ptr (cells := [v1]) 0 rfl 0 rfl (lb rfl))) F S rfl fun a F=>?_
  refine wl_storeC (wn rfl) rfl F S rfl rfl (vs := [v1]) rfl ts44 (one_cons (OwnS.one h1) one_nil) (k := 1) rfl (lb rfl) (c' := #[v1]) rfl rfl ?_; clear S; intro w S
  refine wpList_nil ?_
  refine then_n ?_
  refine wp_ret ?_
  obtain rfl := sinj hm
  refine post_r _ F rfl (ar_cons (resA rfl tu44 rfl (box_ptr (cells := [v1]) 1 rfl 0 rfl (lb rfl) w S) ts44) ar_nil) ?_
  replace S : St g1 [c1] fr w := St.tail [c1] _ (S.frontC 2 rfl)
  exact ⟨_, rfl, g1, v1, c1, l1, S, h1, rfl⟩

theorem changeforgeref2_with_ok {g : Gh} {fr : Hl} {w : World} {r : FileTree × Int} (t_ : FileTree) (vt_1 : Value) (ht_1 : RepSl g t_.Files vt_1) (x_ : File) (vx_1 : Value) (hx_1 : RepSl g x_.Lines vx_1) (S : St g [] fr w) (hm : changeforgeref2_with t_ x_ = some r) :
  Calls Tryd.prog 90 [.agg #[vt_1], .agg #[.string x_.Path, vx_1]].toArray w (fun en w' => ∃ v, en = .returned v ∧ ∃ (g' : Gh) (v1 : Value), Le g g' ∧ St g' [] fr w' ∧ RepSl g' r.1.Files v1 ∧ .tuple #[.agg #[v1], .i6 r.2] = v) := by
 unfold changeforgeref2_with at hm
 refine calls_enter (fn := Tryd.f90) Tryd.func90 rfl Tryd.ntmps90 (lb rfl) ?_
 intro a F
 replace F : Fr 37 a [(0, .agg #[vt_1]), (1, .agg #[.string x_.Path, vx_1])] := F
 refine wp_seq ?_
 refine wp_region_lit ?_
 refine wl_boxC (wn rfl) rfl rfl rfl F S rfl rfl ?_; clear F a S; rintro b1 a w F S
 refine wl_boxC (wn rfl) rfl rfl rfl F S rfl rfl ?_; clear F a S; rintro b2 a w F S
 refine wl_alloc (wn rfl) rfl tz44 (cs := [nilS]) rfl F S rfl rfl ?_; clear F a S; rintro b3 a w F S
 refine wE (ev_assign rfl) F S rfl fun a F=>?_
 refine wpList_nil ?_
 refine then_n ?_
 refine wp_cut (fun a w => ∃ (g1 : Gh), Fr 37 a [(4, bp b3 0), (3, bp b2 0), (2, bp b1 0)] ∧ Le g g1 ∧ St g1 [[bx b3 #[nilS] 44], [bx b2 #[.string x_.Path, vx_1] 88], [bx b1 #[vt_1] 44]] fr w ∧ changeforgeref2_with.j1 t_ x_ = some r) ?_ ?_
 ·refine wp_seq ?_
  refine wp_region_lit ?_
  refine wE (ev_assign rfl) F S rfl fun a F=>?_
  refine wpList_nil ?_
  refine then_n ?_
  refine wp_block ?_
  obtain ⟨r1, hr3, hm⟩ := bind_some hm
  have hmo1 := hm; clear hm
  refine wp_iter (σ := Int) (ρ := (FileTree × Int) ⊕ Unit) (m := fun s => changeforgeref2_with.l1 t_ x_ s) (I := fun x3 a w => ∃ (g6 : Gh), Fr 37 a [(6, .i6 x3), (4, bp b3 0), (3, bp b2 0), (2, bp b1 0)] ∧ Le g g6 ∧ St g6 [[bx b3 #[nilS] 44], [bx b2 #[.string x_.Path, vx_1] 88], [bx b1 #[vt_1] 44]] fr w) hr3 ?_ ?_
  ·exact ⟨g, F.sub ⟨rfl, rfl, rfl, rfl, trivial⟩, (Le.refl _), S⟩
  ·clear F S; rintro x3 a w x4 ⟨g6, F, l6, S⟩ hx1 hfin1
   have hm : changeforgeref2_with.l1 t_ x_ x3 = some x4 := hx1; clear hx1
   unfold changeforgeref2_with.l1 at hm
   refine wp_seq ?_
   refine wp_seq ?_
   refine wp_region_lit ?_
   refine wE (ev_move rfl) F S rfl fun a F=>?_
   refine wE (ev_fieldAddr' tu44 tf44_0 (z := 0) ts42 rfl ⟨_, rfl⟩ rfl) F S rfl fun a F=>?_
   refine wE (ev_load1 tu42 rfl rfl (box_ptr (cells := [vt_1]) 2 rfl 0 rfl (lb rfl))) F S rfl fun a F=>?_
   refine wE (ev_lenSh ht_1 rfl tu42) F S rfl fun a F=>?_
   refine wE (ev_int rfl rfl (bo_lss _ _ _ _)) F S rfl fun a F=>?_
   refine wpList_nil ?_
   refine then_n ?_
   obtain ⟨hc2, hm⟩ | ⟨hc2, hm⟩ := ite_or hm
   ·refine wp_condT F rfl hc2 ?_
    refine wp_skip ?_
    refine then_n ?_
    refine wp_seq ?_
    refine wp_block ?_
    refine wp_seq ?_
    refine wp_quiet mo (by kernel_rfl) S ?_
    refine wq_ev (wn rfl) (ev_fieldAddr' tu44 tf44_0 (z := 0) ts42 rfl ⟨_, rfl⟩ rfl) F rfl rfl ?_; clear F a; intro a F
    refine wq_ev (wn rfl) (ev_load1 tu42 rfl rfl (box_ptr (cells := [vt_1]) 2 rfl 0 rfl (lb rfl))) F rfl rfl ?_; clear F a; intro a F
    refine wq_ev (wn rfl) (ev_move rfl) F rfl rfl ?_; clear F a; intro a F
    obtain ⟨y4, hy4, hm⟩ := bind_some hm
    obtain ⟨cs3, hr4, hp1⟩ := elemS (ht_1.mono l6) hy4
    obtain ⟨v8, rfl, h10⟩ := rep_File hr4
    refine wq_ev (wn rfl) (ev_idxS (ht_1.mono l6) hy4 tu42 ts88 rfl rfl) F rfl rfl ?_; clear F a; intro a F
    have hp2 := PtrC.field hp1 0 1 (lb rfl)
    have hp2 : PtrC g6 (addP (elemP vt_1 x3 2) 0) [.string y4.Path] := hp2
    refine wq_ev (wn rfl) (ev_fieldAddr' tu88 tf88_0 (z := 0) ts9 rfl hp1.ptr rfl) F rfl rfl ?_; clear F a; intro a F
    refine wq_ev (wn rfl) (ev_load1 tu9 rfl rfl (ptr_mono (cks := [[bx b3 #[nilS] 44], [bx b2 #[.string x_.Path, vx_1] 88], [bx b1 #[vt_1] 44]]) (fr := fr) hp2 (Le.refl _))) F rfl rfl ?_; clear F a; intro a F
    refine wq_ev (wn rfl) (ev_fieldAddr' tu88 tf88_0 (z := 0) ts9 rfl ⟨_, rfl⟩ rfl) F rfl rfl ?_; clear F a; intro a F
    refine wq_ev (wn rfl) (ev_load1 tu9 rfl rfl (box_ptr (cells := [.string x_.Path]) 1 rfl 0 rfl (lb rfl))) F rfl rfl ?_; clear F a; intro a F
    obtain ⟨y5, hy5, hm⟩ := bind_some hm
    refine wq_call (wn rfl) rfl (xs := [.tmp 19, .tmp 21]) (vs := [.string y4.Path, .string x_.Path]) (cap := []) F rfl rfl tc55 (v := .bool y5) (fun w S => (changeforgeref2_Related_ok (g := g6) (fr := (fl [[bx b3 #[nilS] 44], [bx b2 #[.string x_.Path, vx_1] 88], [bx b1 #[vt_1] 44]] fr)) (w := w) y4.Path x_.Path S hy5).mono (by rintro en w' ⟨_, rfl, g2, l2, S2, rfl⟩; exact ⟨rfl, S2.weak l2⟩)) rfl rfl ?_; clear F a; intro a F
    refine wq_nil ?_; clear S; intro w S
    refine then_n ?_
    obtain ⟨hc3, hm⟩ | ⟨hc3, hm⟩ := ite_or hm
    ·refine wp_condT F rfl hc3 ?_
     refine wp_seq ?_
     refine wp_region_lit ?_
     refine wE (ev_loadA tu44 rfl (cs := [vt_1]) ts44 rfl (box_ptr (cells := [vt_1]) 2 rfl 0 rfl (lb rfl))) F S rfl fun a F=>?_
     refine wl_storeC (wn rfl) rfl F S rfl rfl (vs := [vt_1]) rfl ts44 (one_cons ht_1.one one_nil) (k := 0) rfl (lb rfl) (c' := #[vt_1]) rfl rfl ?_; clear S; intro w S
     refine wE (ev_assign rfl) F S rfl fun a F=>?_
     refine wpList_nil ?_
     refine then_n ?_
     refine wp_ret ?_
     refine inb_r ?_
     refine then_r ?_
     refine then_r ?_
     refine inb_r ?_
     refine then_r ?_
     obtain rfl := sinj hm
     obtain rfl := hfin1 _ rfl
     clear hm
     have hm : (some (t_, 7) : Option (FileTree × Int)) = some _ := hmo1
     obtain rfl := sinj hm
     refine post_r _ F rfl (ar_cons (resA rfl tu44 rfl (box_ptr (cells := [vt_1]) 0 rfl 0 rfl (lb rfl) w S) ts44) (ar_cons (resT rfl) ar_nil)) ?_
     replace S : St g6 [] fr w := St.tail [] _ S
     exact ⟨_, rfl, g6, vt_1, l6, S, (ht_1.mono l6), rfl⟩
    ·refine wp_condF F rfl hc3 ?_
     refine wp_skip ?_
     refine inb_n ?_
     refine then_n ?_
     refine wp_region_lit ?_
     refine wE (ev_move rfl) F S rfl fun a F=>?_
     obtain ⟨z1, hz1, hm⟩ := bind_some hm
     refine wE (ev_int rfl rfl (bo_add hz1)) F S rfl fun a F=>?_
     refine wE (ev_assign rfl) F S rfl fun a F=>?_
     refine wpList_nil ?_
     refine then_n ?_
     obtain rfl := sinj hm
     refine ⟨_, rfl, ?_⟩
     exact ⟨g6, F.sub ⟨rfl, rfl, rfl, rfl, trivial⟩, l6, S⟩
   ·refine wp_condF F rfl hc2 ?_
    refine wp_exit ?_
    refine then_e ?_
    refine then_e ?_
    refine inb_x ?_
    refine then_n ?_
    obtain rfl := sinj hm
    obtain rfl := hfin1 _ rfl
    clear hm
    have hm : (changeforgeref2_with.j1 t_ x_ : Option (FileTree × Int)) = some _ := hmo1
    exact ⟨g6, F.sub ⟨rfl, rfl, rfl, trivial⟩, l6, S, hm⟩
 ·clear F S hm; rintro a w ⟨g1, F, l1, S, hm⟩
  refine wp_seq ?_
  refine wp_seq ?_
  refine wp_region_lit ?_
  refine wE (ev_fieldAddr' tu44 tf44_0 (z := 0) ts42 rfl ⟨_, rfl⟩ rfl) F S rfl fun a F=>?_
  refine wE (ev_load1 tu42 rfl rfl (box_ptr (cells := [vt_1]) 2 rfl 0 rfl (lb rfl))) F S rfl fun a F=>?_
  refine wE (ev_lenSh ht_1 rfl tu42) F S rfl fun a F=>?_
  refine wE (ev_int rfl rfl (bo_geq _ _ _ _)) F S rfl fun a F=>?_
  refine wpList_nil ?_
  refine then_n ?_
  obtain ⟨hc1, hm⟩ | ⟨hc1, hm⟩ := ite_or hm
  ·refine wp_condT F rfl hc1 ?_
   refine wp_seq ?_
   refine wp_region_lit ?_
   refine wE (ev_loadA tu44 rfl (cs := [vt_1]) ts44 rfl (box_ptr (cells := [vt_1]) 2 rfl 0 rfl (lb rfl))) F S rfl fun a F=>?_
   refine wl_storeC (wn rfl) rfl F S rfl rfl (vs := [vt_1]) rfl ts44 (one_cons ht_1.one one_nil) (k := 0) rfl (lb rfl) (c' := #[vt_1]) rfl rfl ?_; clear S; intro w S
   refine wE (ev_assign rfl) F S rfl fun a F=>?_
   refine wpList_nil ?_
   refine then_n ?_
   refine wp_ret ?_
   refine then_r ?_
   obtain rfl := sinj hm
   refine post_r _ F rfl (ar_cons (resA rfl tu44 rfl (box_ptr (cells := [vt_1]) 0 rfl 0 rfl (lb rfl) w S) ts44) (ar_cons (resT rfl) ar_nil)) ?_
   replace S : St g1 [] fr w := St.tail [] _ S
   exact ⟨_, rfl, g1, vt_1, l1, S, (ht_1.mono l1), rfl⟩
  ·refine wp_condF F rfl hc1 ?_
   refine wp_skip ?_
   refine then_n ?_
   refine wp_seq ?_
   refine wp_dv [] mo S ?_; clear S; intro ok1 w S
   refine dv_et ok1 1 rfl (ev_fieldAddr' tu44 tf44_0 (z := 0) ts42 rfl ⟨_, rfl⟩ rfl) F rfl fun a F=>?_
   refine dv_ev ok1 2 rfl (ev_load1 tu42 rfl rfl (box_ptr (cells := [vt_1]) 2 rfl 0 rfl (lb rfl))) F S rfl fun a F=>?_
   refine dv_ev ok1 4 rfl (ev_loadA tu88 rfl (cs := [.string x_.Path, vx_1]) ts88 rfl (box_ptr (cells := [.string x_.Path, vx_1]) 1 rfl 0 rfl (lb rfl))) F S rfl fun a F=>?_
   obtain ⟨y1, hy1, hm⟩ := bind_some hm
   refine dv_cut [1, 2, 4, 0, 3, 5] [] (fun a w => ∃ (x1 : List File) (v4 v5 : Value) (c4 c5 : Hl) (g2 : Gh), Fr 37 a [(34, v4), (32, v5), (4, bp b3 0)] ∧ Le g1 g2 ∧ St g2 [c4, c5, [bx b3 #[nilS] 44]] fr w ∧ OwnS g2 x1 v4 c4 ∧ OwnS g2 y1 v5 c5 ∧ changeforgeref2_with.j2 y1 x1 = some r) ?_ ?_
   ·intro HJ
    refine dv_fork ok1 0 [5] (fk 0 rfl [(4, .agg #[.string x_.Path, vx_1]), (2, vt_1)] ?_ (fk 5 rfl [(2, vt_1)] ?_ trivial))
    ·refine wl_lit (l := ([] : List File)) (vs := []) (parts := []) (wn rfl) rfl rfl rfl tu42 te88 sz_nil rfl (Cat.nil _) coa_nil rfl F S rfl rfl ?_; clear F a S
     rintro v1 c1 a w h1 F S
     refine dv_nx ⟨yl_ev rfl rfl (ev_loadA tu88 rfl (cs := [.string x_.Path, vx_1]) ts88 rfl (box_ptr (cells := [.string x_.Path, vx_1]) 2 rfl 0 rfl (lb rfl))) F S, yl_ev rfl rfl (ev_load1 tu42 rfl rfl (box_ptr (cells := [vt_1]) 3 rfl 0 rfl (lb rfl))) F S, trivial⟩ ?_
     refine dv_fork ok1 3 [5] (fk 3 rfl [(4, .agg #[.string x_.Path, vx_1])] ?_ (fk 5 rfl [(2, vt_1)] ?_ trivial))
     ·obtain ⟨cs1, hk1, hr1⟩ := RepSl.reads (ht_1.mono l1)
      refine wl_append (wn rfl) rfl tu42 tu42 te88 (by decide) (by decide) F S rfl rfl (k := 0) rfl h1 hk1 rfl (hr1 _ _ S) hy1 rfl rfl ?_; clear F a S
      rintro v2 c2 a w h2 S F; replace S : St g1 [c2, [bx b3 #[nilS] 44], [bx b2 #[.string x_.Path, vx_1] 88], [bx b1 #[vt_1] 44]] fr w := S
      refine dv_nx ⟨yl_ev rfl rfl (ev_loadA tu88 rfl (cs := [.string x_.Path, vx_1]) ts88 rfl (box_ptr (cells := [.string x_.Path, vx_1]) 2 rfl 0 rfl (lb rfl))) F S, trivial⟩ ?_
      refine dv_op ok1 5 rfl [] ?_
      refine wl_lit (l := ([x_] : List File)) (vs := [.agg #[.string x_.Path, vx_1]]) (parts := [(0, .tmp 33)]) (wn rfl) rfl rfl rfl tu42 te88 (sz_cons rfl sz_nil) rfl (Cat.cons (rep_File_mk (x := x_) (hx_1.mono l1)) (Cat.nil _)) (coa_cons rfl coa_nil) rfl F S rfl rfl ?_; clear F a S
      rintro v3 c3 a w h3 F S
      refine dv_nx trivial ?_
      refine dv_join (HJ _ _ ?_)
      replace S : St g1 [c3, c2, [bx b3 #[nilS] 44]] fr w := St.tail [c3, c2, [bx b3 #[nilS] 44]] _ (((S.frontC 2 rfl).frontC 2 rfl).frontC 2 rfl)
      exact ⟨([x_] : List File), v3, v2, c3, c2, g1, F.sub ⟨rfl, rfl, rfl, trivial⟩, (Le.refl _), S, h3, h2, hm⟩
     ·refine wl_lit (l := ([x_] : List File)) (vs := [.agg #[.string x_.Path, vx_1]]) (parts := [(0, .tmp 33)]) (wn rfl) rfl rfl rfl tu42 te88 (sz_cons rfl sz_nil) rfl (Cat.cons (rep_File_mk (x := x_) (hx_1.mono l1)) (Cat.nil _)) (coa_cons rfl coa_nil) rfl F S rfl rfl ?_; clear F a S
      rintro v3 c3 a w h3 F S
      refine dv_nx ⟨yl_ev rfl rfl (ev_load1 tu42 rfl rfl (box_ptr (cells := [vt_1]) 4 rfl 0 rfl (lb rfl))) F S, trivial⟩ ?_
      refine dv_op ok1 3 rfl [] ?_
      obtain ⟨cs1, hk1, hr1⟩ := RepSl.reads (ht_1.mono l1)
      refine wl_append (wn rfl) rfl tu42 tu42 te88 (by decide) (by decide) F S rfl rfl (k := 1) rfl h1 hk1 rfl (hr1 _ _ S) hy1 rfl rfl ?_; clear F a S
      rintro v2 c2 a w h2 S F; replace S : St g1 [c3, c2, [bx b3 #[nilS] 44], [bx b2 #[.string x_.Path, vx_1] 88], [bx b1 #[vt_1] 44]] fr w := S
      refine dv_nx trivial ?_
      refine dv_join (HJ _ _ ?_)
      replace S : St g1 [c3, c2, [bx b3 #[nilS] 44]] fr w := St.tail [c3, c2, [bx b3 #[nilS] 44]] _ (((S.frontC 2 rfl).frontC 2 rfl).frontC 2 rfl)
      exact ⟨([x_] : List File), v3, v2, c3, c2, g1, F.sub ⟨rfl, rfl, rfl, trivial⟩, (Le.refl _), S, h3, h2, hm⟩
    ·refine wl_lit (l := ([x_] : List File)) (vs := [.agg #[.string x_.Path, vx_1]]) (parts := [(0, .tmp 33)]) (wn rfl) rfl rfl rfl tu42 te88 (sz_cons rfl sz_nil) rfl (Cat.cons (rep_File_mk (x := x_) (hx_1.mono l1)) (Cat.nil _)) (coa_cons rfl coa_nil) rfl F S rfl rfl ?_; clear F a S
     rintro v3 c3 a w h3 F S
     refine dv_nx ⟨yl_ev rfl rfl (ev_load1 tu42 rfl rfl (box_ptr (cells := [vt_1]) 3 rfl 0 rfl (lb rfl))) F S, trivial⟩ ?_
     refine dv_op ok1 0 rfl [(2, vt_1)] ?_
     refine wl_lit (l := ([] : List File)) (vs := []) (parts := []) (wn rfl) rfl rfl rfl tu42 te88 sz_nil rfl (Cat.nil _) coa_nil rfl F S rfl rfl ?_; clear F a S
     rintro v1 c1 a w h1 F S
     refine dv_nx ⟨yl_ev rfl rfl (ev_load1 tu42 rfl rfl (box_ptr (cells := [vt_1]) 4 rfl 0 rfl (lb rfl))) F S, trivial⟩ ?_
     refine dv_op ok1 3 rfl [] ?_
     obtain ⟨cs1, hk1, hr1⟩ := RepSl.reads (ht_1.mono l1)
     refine wl_append (wn rfl) rfl tu42 tu42 te88 (by decide) (by decide) F S rfl rfl (k := 0) rfl h1 hk1 rfl (hr1 _ _ S) hy1 rfl rfl ?_; clear F a S
     rintro v2 c2 a w h2 S F; replace S : St g1 [c2, c3, [bx b3 #[nilS] 44], [bx b2 #[.string x_.Path, vx_1] 88], [bx b1 #[vt_1] 44]] fr w := S
     refine dv_nx trivial ?_
     refine dv_join (HJ _ _ ?_)
     replace S : St g1 [c3, c2, [bx b3 #[nilS] 44]] fr w := St.tail [c3, c2, [bx b3 #[nilS] 44]] _ (((S.frontC 2 rfl).frontC 1 rfl).frontC 3 rfl)
     exact ⟨([x_] : List File), v3, v2, c3, c2, g1, F.sub ⟨rfl, rfl, rfl, trivial⟩, (Le.refl _), S, h3, h2, hm⟩
   ·clear F S hm; rintro a w ⟨x1, v4, v5, c4, c5, g2, F, l2, S, h4, h5, hm⟩
    refine dv_op ok1 6 rfl [] ?_
    obtain ⟨cs2, hk2, hr2⟩ := OwnS.reads h4
    obtain ⟨y2, hy2, hm⟩ := bind_some hm
    refine wl_append (wn rfl) rfl tu42 tu42 te88 (by decide) (by decide) F S rfl rfl (k := 1) rfl h5 hk2 rfl (hr2 _ _ _ 0 rfl S) hy2 rfl rfl ?_; clear F a S
    rintro v6 c6 a w h6 S F; replace S : St g2 [c4, c6, [bx b3 #[nilS] 44]] fr w := S
    refine dv_nx trivial ?_
    refine dv_op ok1 7 rfl [] ?_
    obtain ⟨g3, l3, S, h7⟩ : ∃ gz, Le g2 gz ∧ St gz [c4, [bx b3 #[nilS] 44]] fr w ∧ RepSl gz y2 v6 := ⟨_, Le.add _ _, S.freeze 1 rfl, OwnS.freeze (S.front 1 rfl) h6⟩
    obtain ⟨y3, hy3, hm⟩ := bind_some hm
    refine wl_call0 (wn rfl) rfl F rfl (changeforgeref2_Ordered_ok (fr := (fl [c4, [bx b3 #[nilS] 44]] fr)) y2 v6 h7 S hy3) rfl tc115 rfl rfl ?_; clear F a S
    rintro _ a w ⟨g4, v7, c7, l4, S, h8, rfl⟩ F; replace S : St g4 [c7, c4, [bx b3 #[nilS] 44]] fr w := S
    refine dv_nx trivial ?_
    refine dv_op ok1 8 rfl [] ?_
    refine wl_storeC (wn rfl) rfl F S rfl rfl (vs := [v7]) rfl ts44 (one_cons (OwnS.one h8) one_nil) (k := 2) rfl (lb rfl) (c' := #[v7]) rfl rfl ?_; clear S; intro w S
    refine dv_nx trivial ?_
    refine dv_et ok1 9 rfl (ev_assign rfl) F rfl fun a F=>?_
    refine dv_fin ok1 ?_
    refine then_n ?_
    refine wp_ret ?_
    obtain rfl := sinj hm
    obtain ⟨g5, l5, S, h9⟩ : ∃ gz, Le g4 gz ∧ St gz [c4, [bx b3 #[v7] 44]] fr w ∧ RepSl gz y3.Files v7 := ⟨_, Le.add _ _, S.freeze 0 rfl, OwnS.freeze (S.front 0 rfl) h8⟩
    refine post_r _ F rfl (ar_cons (resA rfl tu44 rfl (box_ptr (cells := [v7]) 1 rfl 0 rfl (lb rfl) w S) ts44) (ar_cons (resT rfl) ar_nil)) ?_
    replace S : St g5 [] fr w := St.tail [] _ S
    exact ⟨_, rfl, g5, v7, ((((l1.trans l2).trans l3).trans l4).trans l5), S, h9, rfl⟩

theorem changeforgeref2_FileAt_ok {g : Gh} {fr : Hl} {w : World} {r : Int} (t_ : FileTree) (vt_1 : Value) (ht_1 : RepSl g t_.Files vt_1) (path : ByteArray) (S : St g [] fr w) (hm : changeforgeref2_FileAt t_ path = some r) :
  Calls Tryd.prog 91 [.agg #[vt_1], .string path].toArray w (fun en w' => ∃ v, en = .returned v ∧ ∃ (g' : Gh), Le g g' ∧ St g' [] fr w' ∧ .i6 r = v) := by
 unfold changeforgeref2_FileAt at hm
 refine calls_enter (fn := Tryd.f91) Tryd.func91 rfl Tryd.ntmps91 (lb rfl) ?_
 intro a F
 replace F : Fr 22 a [(0, .agg #[vt_1]), (1, .string path)] := F
 refine wp_seq ?_
 refine wp_region_lit ?_
 refine wl_boxC (wn rfl) rfl rfl rfl F S rfl rfl ?_; clear F a S; rintro b1 a w F S
 refine wE (ev_assign rfl) F S rfl fun a F=>?_
 refine wpList_nil ?_
 refine then_n ?_
 refine wp_cut (fun a w => ∃ (g1 : Gh), Fr 22 a [] ∧ Le g g1 ∧ St g1 [] fr w ∧ changeforgeref2_FileAt.j1 = some r) ?_ ?_
 ·refine wp_seq ?_
  refine wp_region_lit ?_
  refine wE (ev_assign rfl) F S rfl fun a F=>?_
  refine wpList_nil ?_
  refine then_n ?_
  refine wp_block ?_
  obtain ⟨r1, hr1, hm⟩ := bind_some hm
  have hmo1 := hm; clear hm
  refine wp_iter (σ := Int) (ρ := Int ⊕ Unit) (m := fun s => changeforgeref2_FileAt.l1 t_ path s) (I := fun x1 a w => ∃ (g2 : Gh), Fr 22 a [(5, .i6 x1), (2, bp b1 0), (1, .string path)] ∧ Le g g2 ∧ St g2 [[bx b1 #[vt_1] 44]] fr w) hr1 ?_ ?_
  ·exact ⟨g, F.sub ⟨rfl, rfl, rfl, trivial⟩, (Le.refl _), S⟩
  ·clear F S; rintro x1 a w x2 ⟨g2, F, l2, S⟩ hx1 hfin1
   have hm : changeforgeref2_FileAt.l1 t_ path x1 = some x2 := hx1; clear hx1
   unfold changeforgeref2_FileAt.l1 at hm
   refine wp_seq ?_
   refine wp_seq ?_
   refine wp_region_lit ?_
   refine wE (ev_move rfl) F S rfl fun a F=>?_
   refine wE (ev_fieldAddr' tu44 tf44_0 (z := 0) ts42 rfl ⟨_, rfl⟩ rfl) F S rfl fun a F=>?_
   refine wE (ev_load1 tu42 rfl rfl (box_ptr (cells := [vt_1]) 0 rfl 0 rfl (lb rfl))) F S rfl fun a F=>?_
   refine wE (ev_lenSh ht_1 rfl tu42) F S rfl fun a F=>?_
   refine wE (ev_int rfl rfl (bo_lss _ _ _ _)) F S rfl fun a F=>?_
   refine wpList_nil ?_
   refine then_n ?_
   obtain ⟨hc1, hm⟩ | ⟨hc1, hm⟩ := ite_or hm
   ·refine wp_condT F rfl hc1 ?_
    refine wp_skip ?_
    refine then_n ?_
    refine wp_seq ?_
    refine wp_block ?_
    refine wp_seq ?_
    refine wp_region_lit ?_
    refine wE (ev_fieldAddr' tu44 tf44_0 (z := 0) ts42 rfl ⟨_, rfl⟩ rfl) F S rfl fun a F=>?_
    refine wE (ev_load1 tu42 rfl rfl (box_ptr (cells := [vt_1]) 0 rfl 0 rfl (lb rfl))) F S rfl fun a F=>?_
    refine wE (ev_move rfl) F S rfl fun a F=>?_
    obtain ⟨y1, hy1, hm⟩ := bind_some hm
    obtain ⟨cs1, hr2, hp1⟩ := elemS (ht_1.mono l2) hy1
    obtain ⟨v1, rfl, h1⟩ := rep_File hr2
    refine wE (ev_idxS (ht_1.mono l2) hy1 tu42 ts88 rfl rfl) F S rfl fun a F=>?_
    have hp2 := PtrC.field hp1 0 1 (lb rfl)
    have hp2 : PtrC g2 (addP (elemP vt_1 x1 2) 0) [.string y1.Path] := hp2
    refine wE (ev_fieldAddr' tu88 tf88_0 (z := 0) ts9 rfl hp1.ptr rfl) F S rfl fun a F=>?_
    refine wE (ev_load1 tu9 rfl rfl (ptr_mono (cks := [[bx b1 #[vt_1] 44]]) (fr := fr) hp2 (Le.refl _))) F S rfl fun a F=>?_
    refine wE (ev_move rfl) F S rfl fun a F=>?_
    refine wE (ev_str rfl rfl (bs_eql _ _ _)) F S rfl fun a F=>?_
    refine wpList_nil ?_
    refine then_n ?_
    obtain ⟨hc2, hm⟩ | ⟨hc2, hm⟩ := ite_or hm
    ·refine wp_condT F rfl hc2 ?_
     refine wp_seq ?_
     refine wp_region_lit ?_
     refine wE (ev_move rfl) F S rfl fun a F=>?_
     refine wE (ev_assign rfl) F S rfl fun a F=>?_
     refine wpList_nil ?_
     refine then_n ?_
     refine wp_ret ?_
     refine inb_r ?_
     refine then_r ?_
     refine then_r ?_
     refine inb_r ?_
     refine then_r ?_
     obtain rfl := sinj hm
     obtain rfl := hfin1 _ rfl
     clear hm
     have hm : (some x1 : Option Int) = some _ := hmo1
     obtain rfl := sinj hm
     refine post_r _ F rfl (ar_cons (resT rfl) ar_nil) ?_
     replace S : St g2 [] fr w := St.tail [] _ S
     exact ⟨_, rfl, g2, l2, S, rfl⟩
    ·refine wp_condF F rfl hc2 ?_
     refine wp_skip ?_
     refine inb_n ?_
     refine then_n ?_
     refine wp_region_lit ?_
     refine wE (ev_move rfl) F S rfl fun a F=>?_
     obtain ⟨z1, hz1, hm⟩ := bind_some hm
     refine wE (ev_int rfl rfl (bo_add hz1)) F S rfl fun a F=>?_
     refine wE (ev_assign rfl) F S rfl fun a F=>?_
     refine wpList_nil ?_
     refine then_n ?_
     obtain rfl := sinj hm
     refine ⟨_, rfl, ?_⟩
     exact ⟨g2, F.sub ⟨rfl, rfl, rfl, trivial⟩, l2, S⟩
   ·refine wp_condF F rfl hc1 ?_
    refine wp_exit ?_
    refine then_e ?_
    refine then_e ?_
    refine inb_x ?_
    refine then_n ?_
    obtain rfl := sinj hm
    obtain rfl := hfin1 _ rfl
    clear hm
    have hm : (changeforgeref2_FileAt.j1 : Option Int) = some _ := hmo1
    replace S : St g2 [] fr w := St.tail [] _ S
    exact ⟨g2, F.sub trivial, l2, S, hm⟩
 ·clear F S hm; rintro a w ⟨g1, F, l1, S, hm⟩
  refine wp_seq ?_
  refine wp_region_lit ?_
  refine wE (ev_assign rfl) F S rfl fun a F=>?_
  refine wpList_nil ?_
  refine then_n ?_
  refine wp_ret ?_
  obtain rfl := sinj hm
  refine post_r _ F rfl (ar_cons (resT rfl) ar_nil) ?_
  exact ⟨_, rfl, g1, l1, S, rfl⟩

theorem changeforgeref1_Equal_ok {g : Gh} {fr : Hl} {w : World} {r : Bool} (a_ : (List ByteArray)) (va_1 : Value) (ha_1 : RepSl g a_ va_1) (b_ : (List ByteArray)) (vb_1 : Value) (hb_1 : RepSl g b_ vb_1) (S : St g [] fr w) (hm : changeforgeref1_Equal a_ b_ = some r) :
  Calls Tryd.prog 92 [va_1, vb_1].toArray w (fun en w' => ∃ v, en = .returned v ∧ ∃ (g' : Gh), Le g g' ∧ St g' [] fr w' ∧ .bool r = v) := by
 unfold changeforgeref1_Equal at hm
 refine calls_enter (fn := Tryd.f92) Tryd.func92 rfl Tryd.ntmps92 (lb rfl) ?_
 intro a F
 replace F : Fr 26 a [(0, va_1), (1, vb_1)] := F
 refine wp_seq ?_
 refine wp_region_lit ?_
 refine wE (ev_assign rfl) F S rfl fun a F=>?_
 refine wpList_nil ?_
 refine then_n ?_
 refine wp_seq ?_
 refine wp_seq ?_
 refine wp_region_lit ?_
 refine wE (ev_move rfl) F S rfl fun a F=>?_
 refine wE (ev_lenSh ha_1 rfl tu22) F S rfl fun a F=>?_
 refine wE (ev_move rfl) F S rfl fun a F=>?_
 refine wE (ev_lenSh hb_1 rfl tu22) F S rfl fun a F=>?_
 refine wE (ev_int rfl rfl (bo_neq _ _ _ _)) F S rfl fun a F=>?_
 refine wpList_nil ?_
 refine then_n ?_
 obtain ⟨hc1, hm⟩ | ⟨hc1, hm⟩ := ite_or hm
 ·refine wp_condT F rfl hc1 ?_
  refine wp_seq ?_
  refine wp_region_lit ?_
  refine wE (ev_assign rfl) F S rfl fun a F=>?_
  refine wpList_nil ?_
  refine then_n ?_
  refine wp_ret ?_
  refine then_r ?_
  obtain rfl := sinj hm
  refine post_r _ F rfl (ar_cons (resT rfl) ar_nil) ?_
  exact ⟨_, rfl, g, (Le.refl _), S, rfl⟩
 ·refine wp_condF F rfl hc1 ?_
  refine wp_skip ?_
  refine then_n ?_
  refine wp_cut (fun a w => ∃ (g1 : Gh), Fr 26 a [] ∧ Le g g1 ∧ St g1 [] fr w ∧ changeforgeref1_Equal.j1 = some r) ?_ ?_
  ·refine wp_seq ?_
   refine wp_region_lit ?_
   refine wE (ev_assign rfl) F S rfl fun a F=>?_
   refine wpList_nil ?_
   refine then_n ?_
   refine wp_block ?_
   obtain ⟨r1, hr1, hm⟩ := bind_some hm
   have hmo1 := hm; clear hm
   refine wp_iter (σ := Int) (ρ := Bool ⊕ Unit) (m := fun s => changeforgeref1_Equal.l1 a_ b_ s) (I := fun x1 a w => ∃ (g2 : Gh), Fr 26 a [(5, .i6 x1), (0, va_1), (1, vb_1)] ∧ Le g g2 ∧ St g2 [] fr w) hr1 ?_ ?_
   ·exact ⟨g, F.sub ⟨rfl, rfl, rfl, trivial⟩, (Le.refl _), S⟩
   ·clear F S; rintro x1 a w x2 ⟨g2, F, l2, S⟩ hx1 hfin1
    have hm : changeforgeref1_Equal.l1 a_ b_ x1 = some x2 := hx1; clear hx1
    unfold changeforgeref1_Equal.l1 at hm
    refine wp_seq ?_
    refine wp_seq ?_
    refine wp_region_lit ?_
    refine wE (ev_move rfl) F S rfl fun a F=>?_
    refine wE (ev_move rfl) F S rfl fun a F=>?_
    refine wE (ev_lenSh ha_1 rfl tu22) F S rfl fun a F=>?_
    refine wE (ev_int rfl rfl (bo_lss _ _ _ _)) F S rfl fun a F=>?_
    refine wpList_nil ?_
    refine then_n ?_
    obtain ⟨hc2, hm⟩ | ⟨hc2, hm⟩ := ite_or hm
    ·refine wp_condT F rfl hc2 ?_
     refine wp_skip ?_
     refine then_n ?_
     refine wp_seq ?_
     refine wp_block ?_
     refine wp_seq ?_
     refine wp_quiet mo (by kernel_rfl) S ?_
     refine wq_ev (wn rfl) (ev_move rfl) F rfl rfl ?_; clear F a; intro a F
     refine wq_ev (wn rfl) (ev_move rfl) F rfl rfl ?_; clear F a; intro a F
     obtain ⟨y1, hy1, hm⟩ := bind_some hm
     obtain ⟨cs1, hr2, hp1⟩ := elemS (ha_1.mono l2) hy1
     obtain rfl := rep_str hr2
     refine wq_ev (wn rfl) (ev_idxS (ha_1.mono l2) hy1 tu22 ts9 rfl rfl) F rfl rfl ?_; clear F a; intro a F
     refine wq_ev (wn rfl) (ev_load1 tu9 rfl rfl (ptr_mono (cks := []) (fr := fr) hp1 (Le.refl _))) F rfl rfl ?_; clear F a; intro a F
     refine wq_ev (wn rfl) (ev_move rfl) F rfl rfl ?_; clear F a; intro a F
     refine wq_ev (wn rfl) (ev_move rfl) F rfl rfl ?_; clear F a; intro a F
     obtain ⟨y2, hy2, hm⟩ := bind_some hm
     obtain ⟨cs2, hr3, hp2⟩ := elemS (hb_1.mono l2) hy2
     obtain rfl := rep_str hr3
     refine wq_ev (wn rfl) (ev_idxS (hb_1.mono l2) hy2 tu22 ts9 rfl rfl) F rfl rfl ?_; clear F a; intro a F
     refine wq_ev (wn rfl) (ev_load1 tu9 rfl rfl (ptr_mono (cks := []) (fr := fr) hp2 (Le.refl _))) F rfl rfl ?_; clear F a; intro a F
     refine wq_ev (wn rfl) (ev_str rfl rfl (bs_neq _ _ _)) F rfl rfl ?_; clear F a; intro a F
     refine wq_nil ?_; clear S; intro w S
     refine then_n ?_
     obtain ⟨hc3, hm⟩ | ⟨hc3, hm⟩ := ite_or hm
     ·refine wp_condT F rfl hc3 ?_
      refine wp_seq ?_
      refine wp_region_lit ?_
      refine wE (ev_assign rfl) F S rfl fun a F=>?_
      refine wpList_nil ?_
      refine then_n ?_
      refine wp_ret ?_
      refine inb_r ?_
      refine then_r ?_
      refine then_r ?_
      refine inb_r ?_
      refine then_r ?_
      obtain rfl := sinj hm
      obtain rfl := hfin1 _ rfl
      clear hm
      have hm : (some false : Option Bool) = some _ := hmo1
      obtain rfl := sinj hm
      refine post_r _ F rfl (ar_cons (resT rfl) ar_nil) ?_
      exact ⟨_, rfl, g2, l2, S, rfl⟩
     ·refine wp_condF F rfl hc3 ?_
      refine wp_skip ?_
      refine inb_n ?_
      refine then_n ?_
      refine wp_region_lit ?_
      refine wE (ev_move rfl) F S rfl fun a F=>?_
      obtain ⟨z1, hz1, hm⟩ := bind_some hm
      refine wE (ev_int rfl rfl (bo_add hz1)) F S rfl fun a F=>?_
      refine wE (ev_assign rfl) F S rfl fun a F=>?_
      refine wpList_nil ?_
      refine then_n ?_
      obtain rfl := sinj hm
      refine ⟨_, rfl, ?_⟩
      exact ⟨g2, F.sub ⟨rfl, rfl, rfl, trivial⟩, l2, S⟩
    ·refine wp_condF F rfl hc2 ?_
     refine wp_exit ?_
     refine then_e ?_
     refine then_e ?_
     refine inb_x ?_
     refine then_n ?_
     obtain rfl := sinj hm
     obtain rfl := hfin1 _ rfl
     clear hm
     have hm : (changeforgeref1_Equal.j1 : Option Bool) = some _ := hmo1
     exact ⟨g2, F.sub trivial, l2, S, hm⟩
  ·clear F S hm; rintro a w ⟨g1, F, l1, S, hm⟩
   refine wp_seq ?_
   refine wp_region_lit ?_
   refine wE (ev_assign rfl) F S rfl fun a F=>?_
   refine wpList_nil ?_
   refine then_n ?_
   refine wp_ret ?_
   obtain rfl := sinj hm
   refine post_r _ F rfl (ar_cons (resT rfl) ar_nil) ?_
   exact ⟨_, rfl, g1, l1, S, rfl⟩

theorem changeforgeref2_without_ok {g : Gh} {fr : Hl} {w : World} {r : FileTree} (t_ : FileTree) (vt_1 : Value) (ht_1 : RepSl g t_.Files vt_1) (i_ : Int) (S : St g [] fr w) (hm : changeforgeref2_without t_ i_ = some r) :
  Calls Tryd.prog 93 [.agg #[vt_1], .i6 i_].toArray w (fun en w' => ∃ v, en = .returned v ∧ ∃ (g' : Gh) (v1 : Value) (c1 : Hl), Le g g' ∧ St g' [c1] fr w' ∧ OwnS g' r.Files v1 c1 ∧ .agg #[v1] = v) := by
 unfold changeforgeref2_without at hm
 refine calls_enter (fn := Tryd.f93) Tryd.func93 rfl Tryd.ntmps93 (lb rfl) ?_
 intro a F
 replace F : Fr 24 a [(0, .agg #[vt_1]), (1, .i6 i_)] := F
 refine wp_seq ?_
 refine wp_region_lit ?_
 refine wl_boxC (wn rfl) rfl rfl rfl F S rfl rfl ?_; clear F a S; rintro b1 a w F S
 refine wl_alloc (wn rfl) rfl tz44 (cs := [nilS]) rfl F S rfl rfl ?_; clear F a S; rintro b2 a w F S
 refine wpList_nil ?_
 refine then_n ?_
 refine wp_seq ?_
 refine wp_region_lit ?_
 refine wl_alloc (wn rfl) rfl tz44 (cs := [nilS]) rfl F S rfl rfl ?_; clear F a S; rintro b3 a w F S
 refine wpList_nil ?_
 refine then_n ?_
 refine wp_seq ?_
 refine wp_dv [] mo S ?_; clear S; intro ok1 w S
 refine dv_et ok1 0 rfl (ev_fieldAddr' tu44 tf44_0 (z := 0) ts42 rfl ⟨_, rfl⟩ rfl) F rfl fun a F=>?_
 refine dv_ev ok1 1 rfl (ev_load1 tu42 rfl rfl (box_ptr (cells := [nilS]) 0 rfl 0 rfl (lb rfl))) F S rfl fun a F=>?_
 refine dv_et ok1 2 rfl (ev_fieldAddr' tu44 tf44_0 (z := 0) ts42 rfl ⟨_, rfl⟩ rfl) F rfl fun a F=>?_
 refine dv_ev ok1 3 rfl (ev_load1 tu42 rfl rfl (box_ptr (cells := [vt_1]) 2 rfl 0 rfl (lb rfl))) F S rfl fun a F=>?_
 refine dv_et ok1 4 rfl (ev_move rfl) F rfl fun a F=>?_
 obtain ⟨y1, hy1, hm⟩ := bind_some hm
 obtain ⟨v1, h1, he1⟩ := ev_cut (P := Tryd.prog) (n := 24) (e := [(10, .i6 i_), (9, vt_1), (8, bp b1 0), (7, nilS), (6, bp b3 0), (5, bp b3 0), (4, bp b2 0), (2, bp b1 0), (0, .agg #[vt_1]), (1, .i6 i_)]) (C := fun _ => True) (x := .tmp 9) (lo := Option.none) (hi := some (.tmp 10)) ht_1 hy1 tu42 ts88 rfl (bnd0 _) (bndV rfl)
 refine dv_et ok1 5 rfl he1 F rfl fun a F=>?_
 refine dv_op ok1 6 rfl [] ?_
 replace S : St g [[], [bx b3 #[nilS] 44], [bx b2 #[nilS] 44], [bx b1 #[vt_1] 44]] fr w := S
 obtain ⟨cs1, hk1, hr1⟩ := RepSl.reads h1
 obtain ⟨y2, hy2, hm⟩ := bind_some hm
 refine wl_append (wn rfl) rfl tu42 tu42 te88 (by decide) (by decide) F S rfl rfl (k := 0) rfl (OwnS.nil _) hk1 rfl (hr1 _ _ S) hy2 rfl rfl ?_; clear F a S
 rintro v2 c1 a w h2 S F; replace S : St g [c1, [bx b3 #[nilS] 44], [bx b2 #[nilS] 44], [bx b1 #[vt_1] 44]] fr w := S
 refine dv_nx trivial ?_
 refine dv_et ok1 7 rfl (ev_fieldAddr' tu44 tf44_0 (z := 0) ts42 rfl ⟨_, rfl⟩ rfl) F rfl fun a F=>?_
 refine dv_op ok1 8 rfl [] ?_
 refine wl_storeC (wn rfl) rfl F S rfl rfl (vs := [v2]) (OwnS.cl h2) ts42 (one_cons (OwnS.one h2) one_nil) (k := 1) rfl (lb rfl) (c' := #[v2]) rfl rfl ?_; clear S; intro w S
 refine dv_nx trivial ?_
 refine dv_fin ok1 ?_
 refine then_n ?_
 refine wp_seq ?_
 refine wp_dv [] mo S ?_; clear S; intro ok2 w S
 refine dv_et ok2 0 rfl (ev_fieldAddr' tu44 tf44_0 (z := 0) ts42 rfl ⟨_, rfl⟩ rfl) F rfl fun a F=>?_
 refine dv_ev ok2 1 rfl (ev_load1 tu42 rfl rfl (box_ptr (cells := [v2]) 1 rfl 0 rfl (lb rfl))) F S rfl fun a F=>?_
 refine dv_et ok2 2 rfl (ev_fieldAddr' tu44 tf44_0 (z := 0) ts42 rfl ⟨_, rfl⟩ rfl) F rfl fun a F=>?_
 refine dv_ev ok2 3 rfl (ev_load1 tu42 rfl rfl (box_ptr (cells := [vt_1]) 3 rfl 0 rfl (lb rfl))) F S rfl fun a F=>?_
 refine dv_et ok2 4 rfl (ev_move rfl) F rfl fun a F=>?_
 obtain ⟨z1, hz1, hm⟩ := bind_some hm
 refine dv_et ok2 5 rfl (ev_int rfl rfl (bo_add hz1)) F rfl fun a F=>?_
 obtain ⟨y3, hy3, hm⟩ := bind_some hm
 obtain ⟨v3, h3, he2⟩ := ev_cut (P := Tryd.prog) (n := 24) (e := [(19, .i6 z1), (18, .i6 i_), (17, vt_1), (16, bp b1 0), (15, v2), (14, bp b3 0), (13, bp b3 0), (12, v2), (11, v1), (10, .i6 i_), (9, vt_1), (8, bp b1 0), (7, nilS), (6, bp b3 0), (5, bp b3 0), (4, bp b2 0), (2, bp b1 0), (0, .agg #[vt_1]), (1, .i6 i_)]) (C := fun _ => True) (x := .tmp 17) (lo := some (.tmp 19)) (hi := Option.none) ht_1 hy3 tu42 ts88 rfl (bndV rfl) (bnd0 _)
 refine dv_et ok2 6 rfl he2 F rfl fun a F=>?_
 refine dv_op ok2 7 rfl [] ?_
 obtain ⟨cs2, hk2, hr2⟩ := RepSl.reads h3
 obtain ⟨y4, hy4, hm⟩ := bind_some hm
 refine wl_append (wn rfl) rfl tu42 tu42 te88 (by decide) (by decide) F S rfl rfl (k := 0) rfl h2 hk2 rfl (hr2 _ _ S) hy4 rfl rfl ?_; clear F a S
 rintro v4 c2 a w h4 S F; replace S : St g [c2, [bx b3 #[v2] 44], [bx b2 #[nilS] 44], [bx b1 #[vt_1] 44]] fr w := S
 refine dv_nx trivial ?_
 refine dv_et ok2 8 rfl (ev_fieldAddr' tu44 tf44_0 (z := 0) ts42 rfl ⟨_, rfl⟩ rfl) F rfl fun a F=>?_
 refine dv_op ok2 9 rfl [] ?_
 refine wl_storeC (wn rfl) rfl F S rfl rfl (vs := [v4]) (OwnS.cl h4) ts42 (one_cons (OwnS.one h4) one_nil) (k := 1) rfl (lb rfl) (c' := #[v4]) rfl rfl ?_; clear S; intro w S
 refine dv_nx trivial ?_
 refine dv_fin ok2 ?_
 refine then_n ?_
 refine wp_seq ?_
 refine wp_region_lit ?_
 refine wE (ev_loadA tu44 rfl (cs := [v4]) ts44 rfl (box_ptr (cells := [v4]) 1 rfl 0 rfl (lb rfl))) F S rfl fun a F=>?_
 refine wl_storeC (wn rfl) rfl F S rfl rfl (vs := [v4]) rfl ts44 (one_cons (OwnS.one h4) one_nil) (k := 2) rfl (lb rfl) (c' := #[v4]) rfl rfl ?_; clear S; intro w S
 refine wpList_nil ?_
 refine then_n ?_
 refine wp_ret ?_
 obtain rfl := sinj hm
 refine post_r _ F rfl (ar_cons (resA rfl tu44 rfl (box_ptr (cells := [v4]) 2 rfl 0 rfl (lb rfl) w S) ts44) ar_nil) ?_
 replace S : St g [c2] fr w := St.tail [c2] _ (S.frontC 0 rfl)
 exact ⟨_, rfl, g, v4, c2, (Le.refl _), S, h4, rfl⟩

theorem changeforgeref1_has_ok {g : Gh} {fr : Hl} {w : World} {r : Bool} (text : (List ByteArray)) (vtext1 : Value) (htext1 : RepSl g text vtext1) (at_ : Int) (l_ : (List ByteArray)) (vl_1 : Value) (hl_1 : RepSl g l_ vl_1) (S : St g [] fr w) (hm : changeforgeref1_has text at_ l_ = some r) :
  Calls Tryd.prog 116 [vtext1, .i6 at_, vl_1].toArray w (fun en w' => ∃ v, en = .returned v ∧ ∃ (g' : Gh), Le g g' ∧ St g' [] fr w' ∧ .bool r = v) := by
 unfold changeforgeref1_has at hm
 refine calls_enter (fn := Tryd.f116) Tryd.func116 rfl Tryd.ntmps116 (lb rfl) ?_
 intro a F
 replace F : Fr 27 a [(0, vtext1), (1, .i6 at_), (2, vl_1)] := F
 refine wp_seq ?_
 refine wp_region_lit ?_
 refine wE (ev_assign rfl) F S rfl fun a F=>?_
 refine wpList_nil ?_
 refine then_n ?_
 refine wp_seq ?_
 refine wp_seq ?_
 refine wp_region_lit ?_
 refine wE (ev_move rfl) F S rfl fun a F=>?_
 refine wE (ev_int rfl rfl (bo_lss _ _ _ _)) F S rfl fun a F=>?_
 refine wE (ev_move rfl) F S rfl fun a F=>?_
 obtain ⟨x1, hx1, hm⟩ := bind_some hm
 refine wl_cut 8 (fun a w' => w = w' ∧ Fr 27 a [(17, .bool x1), (0, vtext1), (1, .i6 at_), (2, vl_1)]) ?_ ?_
 ·clear hm; obtain ⟨hc1, hm⟩ | ⟨hc1, hm⟩ := ite_or hx1
  ·refine wl_skip rfl rfl rfl rfl (ne_ft hc1) F rfl rfl ?_; clear F a; intro a F
   refine wl_skip rfl rfl rfl rfl (ne_ft hc1) F rfl rfl ?_; clear F a; intro a F
   refine wl_skip rfl rfl rfl rfl (ne_ft hc1) F rfl rfl ?_; clear F a; intro a F
   refine wl_skip rfl rfl rfl rfl (ne_ft hc1) F rfl rfl ?_; clear F a; intro a F
   refine wl_skip rfl rfl rfl rfl (ne_ft hc1) F rfl rfl ?_; clear F a; intro a F
   refine wl_skip rfl rfl rfl rfl (ne_ft hc1) F rfl rfl ?_; clear F a; intro a F
   refine wl_skip rfl rfl rfl rfl (ne_ft hc1) F rfl rfl ?_; clear F a; intro a F
   refine wE (ev_pickT rfl hc1 rfl) F S rfl fun a F=>?_
   obtain rfl := sinj hm
   refine wpList_nil (then_n ?_); exact ⟨rfl, F.sub ⟨rfl, rfl, rfl, rfl, trivial⟩⟩
  ·refine wl_ev (wg F rfl rfl rfl rfl hc1) (ev_move rfl) F S rfl rfl ?_; clear F a; intro a F
   refine wl_ev (wg F rfl rfl rfl rfl hc1) (ev_move rfl) F S rfl rfl ?_; clear F a; intro a F
   refine wl_ev (wg F rfl rfl rfl rfl hc1) (ev_lenSh hl_1 rfl tu22) F S rfl rfl ?_; clear F a; intro a F
   obtain ⟨z1, hz1, hm⟩ := bind_some hm
   refine wl_ev (wg F rfl rfl rfl rfl hc1) (ev_int rfl rfl (bo_add hz1)) F S rfl rfl ?_; clear F a; intro a F
   refine wl_ev (wg F rfl rfl rfl rfl hc1) (ev_move rfl) F S rfl rfl ?_; clear F a; intro a F
   refine wl_ev (wg F rfl rfl rfl rfl hc1) (ev_lenSh htext1 rfl tu22) F S rfl rfl ?_; clear F a; intro a F
   refine wl_ev (wg F rfl rfl rfl rfl hc1) (ev_int rfl rfl (bo_gtr _ _ _ _)) F S rfl rfl ?_; clear F a; intro a F
   refine wE (ev_pickF rfl hc1 rfl) F S rfl fun a F=>?_
   obtain rfl := sinj hm
   refine wpList_nil (then_n ?_); exact ⟨rfl, F.sub ⟨rfl, rfl, rfl, rfl, trivial⟩⟩
 clear F; rintro a w' ⟨rfl, F⟩
 refine wpList_nil ?_
 refine then_n ?_
 obtain ⟨hc2, hm⟩ | ⟨hc2, hm⟩ := ite_or hm
 ·refine wp_condT F rfl hc2 ?_
  refine wp_seq ?_
  refine wp_region_lit ?_
  refine wE (ev_assign rfl) F S rfl fun a F=>?_
  refine wpList_nil ?_
  refine then_n ?_
  refine wp_ret ?_
  refine then_r ?_
  obtain rfl := sinj hm
  refine post_r _ F rfl (ar_cons (resT rfl) ar_nil) ?_
  exact ⟨_, rfl, g, (Le.refl _), S, rfl⟩
 ·refine wp_condF F rfl hc2 ?_
  refine wp_skip ?_
  refine then_n ?_
  refine wp_seq ?_
  refine wp_region_lit ?_
  refine wE (ev_move rfl) F S rfl fun a F=>?_
  refine wE (ev_move rfl) F S rfl fun a F=>?_
  refine wE (ev_move rfl) F S rfl fun a F=>?_
  refine wE (ev_move rfl) F S rfl fun a F=>?_
  refine wE (ev_lenSh hl_1 rfl tu22) F S rfl fun a F=>?_
  obtain ⟨z2, hz2, hm⟩ := bind_some hm
  refine wE (ev_int rfl rfl (bo_add hz2)) F S rfl fun a F=>?_
  obtain ⟨y1, hy1, hm⟩ := bind_some hm
  refine wl_cutS (wn rfl) rfl htext1 hy1 tu22 ts9 rfl (bndV rfl) (bndV rfl) F rfl rfl ?_; clear F a; rintro v1 h1 a F
  refine wE (ev_move rfl) F S rfl fun a F=>?_
  obtain ⟨y2, hy2, hm⟩ := bind_some hm
  refine wl_call0 (wn rfl) rfl F rfl (changeforgeref1_Equal_ok y1 v1 h1 l_ vl_1 hl_1 S hy2) rfl tc92 rfl rfl ?_; clear F a S
  rintro _ a w ⟨g1, l1, S, rfl⟩ F; replace S : St g1 [] fr w := S
  refine wE (ev_assign rfl) F S rfl fun a F=>?_
  refine wpList_nil ?_
  refine then_n ?_
  refine wp_ret ?_
  obtain rfl := sinj hm
  refine post_r _ F rfl (ar_cons (resT rfl) ar_nil) ?_
  exact ⟨_, rfl, g1, l1, S, rfl⟩
end Go.Dc
