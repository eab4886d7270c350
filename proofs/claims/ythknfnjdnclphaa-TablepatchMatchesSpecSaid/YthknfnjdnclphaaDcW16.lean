/- Walks: each function comes to what its model says. -/
import Derived.Test.YthknfnjdnclphaaDcTab
import Derived.Test.YthknfnjdnclphaaDcM
import Derived.Test.YthknfnjdnclphaaDcW1
import Derived.Test.YthknfnjdnclphaaDcW12
import Derived.Test.YthknfnjdnclphaaDcW14
import Derived.Test.YthknfnjdnclphaaDcW15
import Derived.Test.YthknfnjdnclphaaDcW4
import Derived.Test.YthknfnjdnclphaaDcW5
import Derived.Test.YthknfnjdnclphaaDcW6
namespace Go.Dc
open Go Go.Proofs
set_option maxRecDepth 100000
set_option maxHeartbeats 4000000
set_option linter.unusedVariables false
theorem changeforgeref2_ApplyCells_ok {g : Gh} {fr : Hl} {w : World} {r : Table × Fault} (l_ : (List CellChange)) (vl_1 : Value) (hl_1 : RepSl g l_ vl_1) (t_ : Table) (vt_1 : Value) (ht_1 : RepSl g t_.Columns vt_1) (vt_2 : Value) (ht_2 : RepSl g t_.Rows vt_2) (S : St g [] fr w) (hm : changeforgeref2_ApplyCells l_ t_ = some r) :
  Calls Try.prog 21 [vl_1, .agg #[vt_1, vt_2]].toArray w (fun en w' => ∃ v, en = .returned v ∧ ∃ (g' : Gh) (v1 v2 : Value), Le g g' ∧ St g' [] fr w' ∧ RepSl g' r.1.Columns v1 ∧ RepSl g' r.1.Rows v2 ∧ .tuple #[.agg #[v1, v2], .agg #[.i6 r.2.Code, .i6 r.2.Index]] = v) := by
 unfold changeforgeref2_ApplyCells at hm
 refine calls_enter (fn := Try.f21) Try.func21 rfl Try.ntmps21 (lb rfl) ?_
 intro a F
 replace F : Fr 72 a [(0, vl_1), (1, .agg #[vt_1, vt_2])] := F
 refine wp_seq ?_
 refine wp_region_lit ?_
 refine wl_boxC (wn rfl) rfl rfl rfl F S rfl rfl ?_; clear F a S; rintro b1 a w F S
 refine wl_alloc (wn rfl) rfl tz25 (cs := [nilS, nilS]) rfl F S rfl rfl ?_; clear F a S; rintro b2 a w F S
 refine wl_alloc (wn rfl) rfl tz28 (cs := [.i6 0, .i6 0]) rfl F S rfl rfl ?_; clear F a S; rintro b3 a w F S
 refine wpList_nil ?_
 refine then_n ?_
 refine wp_seq ?_
 refine wp_seq ?_
 refine wp_region_lit ?_
 refine wE (ev_loadA tu25 rfl (cs := [vt_1, vt_2]) ts25 rfl (box_ptr (cells := [vt_1, vt_2]) 2 rfl 0 rfl (lb rfl))) F S rfl fun a F=>?_
 obtain ⟨y1, hy1, hm⟩ := bind_some hm
 refine wl_call0 (wn rfl) rfl F rfl (changeforgeref2_TableFault_ok (fr := (fl [[bx b3 #[.i6 0, .i6 0] 28], [bx b2 #[nilS, nilS] 25], [bx b1 #[vt_1, vt_2] 25]] fr)) t_ vt_1 ht_1 vt_2 ht_2 S hy1) rfl tc22 rfl rfl ?_; clear F a S
 rintro _ a w ⟨g1, l1, S, rfl⟩ F; replace S : St g1 [[bx b3 #[.i6 0, .i6 0] 28], [bx b2 #[nilS, nilS] 25], [bx b1 #[vt_1, vt_2] 25]] fr w := S
 refine wl_alloc (wn rfl) rfl tz28 (cs := [.i6 0, .i6 0]) rfl F S rfl rfl ?_; clear F a S; rintro b4 a w F S
 refine wl_storeC (wn rfl) rfl F S rfl rfl (vs := [.i6 y1.Code, .i6 y1.Index]) rfl ts28 (one_cons rfl (one_cons rfl one_nil)) (k := 0) rfl (lb rfl) (c' := #[.i6 y1.Code, .i6 y1.Index]) rfl rfl ?_; clear S; intro w S
 refine wpList_nil ?_
 refine then_n ?_
 refine wp_seq ?_
 refine wp_region_lit ?_
 refine wE (ev_fieldAddr' tu28 tf28_0 (z := 0) ts3 rfl ⟨_, rfl⟩ rfl) F S rfl fun a F=>?_
 refine wE (ev_load1 tu3 rfl rfl (box_ptr (cells := [.i6 y1.Code]) 0 rfl 0 rfl (lb rfl))) F S rfl fun a F=>?_
 refine wE (ev_int rfl rfl (bo_neq _ _ _ _)) F S rfl fun a F=>?_
 refine wpList_nil ?_
 refine then_n ?_
 obtain ⟨hc1, hm⟩ | ⟨hc1, hm⟩ := ite_or hm
 ·refine wp_condT F rfl hc1 ?_
  refine wp_seq ?_
  refine wp_region_lit ?_
  refine wE (ev_build (parts := []) (vs := []) rfl (fun w => tb25_  w)) F S rfl fun a F=>?_
  refine wE (ev_fieldAddr' tu28 tf28_0 (z := 0) ts3 rfl ⟨_, rfl⟩ rfl) F S rfl fun a F=>?_
  refine wE (ev_load1 tu3 rfl rfl (box_ptr (cells := [.i6 y1.Code]) 0 rfl 0 rfl (lb rfl))) F S rfl fun a F=>?_
  obtain ⟨y2, hy2, hm⟩ := bind_some hm
  refine wl_call0 (wn rfl) rfl F rfl (changeforgeref1_At_ok (fr := (fl [[bx b4 #[.i6 y1.Code, .i6 y1.Index] 28], [bx b3 #[.i6 0, .i6 0] 28], [bx b2 #[nilS, nilS] 25], [bx b1 #[vt_1, vt_2] 25]] fr)) y1.Code (-2) S hy2) rfl tc34 rfl rfl ?_; clear F a S
  rintro _ a w ⟨g2, l2, S, rfl⟩ F; replace S : St g2 [[bx b4 #[.i6 y1.Code, .i6 y1.Index] 28], [bx b3 #[.i6 0, .i6 0] 28], [bx b2 #[nilS, nilS] 25], [bx b1 #[vt_1, vt_2] 25]] fr w := S
  refine wl_storeC (wn rfl) rfl F S rfl rfl (vs := [nilS, nilS]) rfl ts25 (one_cons rfl (one_cons rfl one_nil)) (k := 2) rfl (lb rfl) (c' := #[nilS, nilS]) rfl rfl ?_; clear S; intro w S
  refine wl_storeC (wn rfl) rfl F S rfl rfl (vs := [.i6 y2.Code, .i6 y2.Index]) rfl ts28 (one_cons rfl (one_cons rfl one_nil)) (k := 1) rfl (lb rfl) (c' := #[.i6 y2.Code, .i6 y2.Index]) rfl rfl ?_; clear S; intro w S
  refine wpList_nil ?_
  refine then_n ?_
  refine wp_ret ?_
  refine then_r ?_
  obtain rfl := sinj hm
  refine post_r _ F rfl (ar_cons (resA rfl tu25 rfl (box_ptr (cells := [nilS, nilS]) 2 rfl 0 rfl (lb rfl) w S) ts25) (ar_cons (resA rfl tu28 rfl (box_ptr (cells := [.i6 y2.Code, .i6 y2.Index]) 1 rfl 0 rfl (lb rfl) w S) ts28) ar_nil)) ?_
  replace S : St g2 [] fr w := St.tail [] _ S
  exact ⟨_, rfl, g2, (nilS), (nilS), (l1.trans l2), S, (RepSl.nil _), (RepSl.nil _), rfl⟩
 ·refine wp_condF F rfl hc1 ?_
  refine wp_skip ?_
  refine then_n ?_
  refine wp_seq ?_
  refine wp_seq ?_
  refine wp_region_lit ?_
  refine wE (ev_move rfl) F S rfl fun a F=>?_
  refine wE (ev_lenSh hl_1 rfl tu26) F S rfl fun a F=>?_
  refine wE (ev_int rfl rfl (bo_gtr _ _ _ _)) F S rfl fun a F=>?_
  refine wpList_nil ?_
  refine then_n ?_
  obtain ⟨hc2, hm⟩ | ⟨hc2, hm⟩ := ite_or hm
  ·refine wp_condT F rfl hc2 ?_
   refine wp_seq ?_
   refine wp_region_lit ?_
   refine wE (ev_build (parts := []) (vs := []) rfl (fun w => tb25_  w)) F S rfl fun a F=>?_
   obtain ⟨y3, hy3, hm⟩ := bind_some hm
   refine wl_call0 (wn rfl) rfl F rfl (changeforgeref1_At_ok (fr := (fl [[bx b4 #[.i6 y1.Code, .i6 y1.Index] 28], [bx b3 #[.i6 0, .i6 0] 28], [bx b2 #[nilS, nilS] 25], [bx b1 #[vt_1, vt_2] 25]] fr)) 2 (-1) S hy3) rfl tc34 rfl rfl ?_; clear F a S
   rintro _ a w ⟨g3, l3, S, rfl⟩ F; replace S : St g3 [[bx b4 #[.i6 y1.Code, .i6 y1.Index] 28], [bx b3 #[.i6 0, .i6 0] 28], [bx b2 #[nilS, nilS] 25], [bx b1 #[vt_1, vt_2] 25]] fr w := S
   refine wl_storeC (wn rfl) rfl F S rfl rfl (vs := [nilS, nilS]) rfl ts25 (one_cons rfl (one_cons rfl one_nil)) (k := 2) rfl (lb rfl) (c' := #[nilS, nilS]) rfl rfl ?_; clear S; intro w S
   refine wl_storeC (wn rfl) rfl F S rfl rfl (vs := [.i6 y3.Code, .i6 y3.Index]) rfl ts28 (one_cons rfl (one_cons rfl one_nil)) (k := 1) rfl (lb rfl) (c' := #[.i6 y3.Code, .i6 y3.Index]) rfl rfl ?_; clear S; intro w S
   refine wpList_nil ?_
   refine then_n ?_
   refine wp_ret ?_
   refine then_r ?_
   obtain rfl := sinj hm
   refine post_r _ F rfl (ar_cons (resA rfl tu25 rfl (box_ptr (cells := [nilS, nilS]) 2 rfl 0 rfl (lb rfl) w S) ts25) (ar_cons (resA rfl tu28 rfl (box_ptr (cells := [.i6 y3.Code, .i6 y3.Index]) 1 rfl 0 rfl (lb rfl) w S) ts28) ar_nil)) ?_
   replace S : St g3 [] fr w := St.tail [] _ S
   exact ⟨_, rfl, g3, (nilS), (nilS), (l1.trans l3), S, (RepSl.nil _), (RepSl.nil _), rfl⟩
  ·refine wp_condF F rfl hc2 ?_
   refine wp_skip ?_
   refine then_n ?_
   refine wp_cut (fun a w => ∃ (g4 : Gh), Fr 72 a [(5, bp b3 0), (4, bp b2 0), (3, bp b1 0), (0, vl_1)] ∧ Le g1 g4 ∧ St g4 [[bx b3 #[.i6 0, .i6 0] 28], [bx b2 #[nilS, nilS] 25], [bx b1 #[vt_1, vt_2] 25]] fr w ∧ changeforgeref2_ApplyCells.j1 l_ t_ = some r) ?_ ?_
   ·refine wp_seq ?_
    refine wp_region_lit ?_
    refine wE (ev_assign rfl) F S rfl fun a F=>?_
    refine wpList_nil ?_
    refine then_n ?_
    refine wp_block ?_
    obtain ⟨r2, hr3, hm⟩ := bind_some hm
    have hmo2 := hm; clear hm
    refine wp_iter (σ := Int) (ρ := (Table × Fault) ⊕ Unit) (m := fun s => changeforgeref2_ApplyCells.l2 l_ t_ s) (I := fun x5 a w => ∃ (g10 : Gh), Fr 72 a [(7, .i6 x5), (5, bp b3 0), (4, bp b2 0), (3, bp b1 0), (0, vl_1)] ∧ Le g1 g10 ∧ St g10 [[bx b3 #[.i6 0, .i6 0] 28], [bx b2 #[nilS, nilS] 25], [bx b1 #[vt_1, vt_2] 25]] fr w) hr3 ?_ ?_
    ·replace S : St g1 [[bx b3 #[.i6 0, .i6 0] 28], [bx b2 #[nilS, nilS] 25], [bx b1 #[vt_1, vt_2] 25]] fr w := St.tail [[bx b3 #[.i6 0, .i6 0] 28], [bx b2 #[nilS, nilS] 25], [bx b1 #[vt_1, vt_2] 25]] _ (((S.frontC 3 rfl).frontC 3 rfl).frontC 3 rfl)
     exact ⟨g1, F.sub ⟨rfl, rfl, rfl, rfl, rfl, trivial⟩, (Le.refl _), S⟩
    ·clear F S; rintro x5 a w x6 ⟨g10, F, l10, S⟩ hx2 hfin2
     have hm : changeforgeref2_ApplyCells.l2 l_ t_ x5 = some x6 := hx2; clear hx2
     unfold changeforgeref2_ApplyCells.l2 at hm
     refine wp_seq ?_
     refine wp_seq ?_
     refine wp_region_lit ?_
     refine wE (ev_move rfl) F S rfl fun a F=>?_
     refine wE (ev_move rfl) F S rfl fun a F=>?_
     refine wE (ev_lenSh hl_1 rfl tu26) F S rfl fun a F=>?_
     refine wE (ev_int rfl rfl (bo_lss _ _ _ _)) F S rfl fun a F=>?_
     refine wpList_nil ?_
     refine then_n ?_
     obtain ⟨hc5, hm⟩ | ⟨hc5, hm⟩ := ite_or hm
     ·refine wp_condT F rfl hc5 ?_
      refine wp_skip ?_
      refine then_n ?_
      refine wp_seq ?_
      refine wp_block ?_
      refine wp_seq ?_
      refine wp_quiet mo (by kernel_rfl) S ?_
      refine wq_ev (wn rfl) (ev_loadA tu25 rfl (cs := [vt_1, vt_2]) ts25 rfl (box_ptr (cells := [vt_1, vt_2]) 2 rfl 0 rfl (lb rfl))) F rfl rfl ?_; clear F a; intro a F
      refine wq_ev (wn rfl) (ev_move rfl) F rfl rfl ?_; clear F a; intro a F
      refine wq_ev (wn rfl) (ev_move rfl) F rfl rfl ?_; clear F a; intro a F
      obtain ⟨y7, hy7, hm⟩ := bind_some hm
      obtain ⟨cs2, hr4, hp2⟩ := elemS (hl_1.mono (l1.trans l10)) hy7
      obtain ⟨v6, v7, rfl, h7, h8⟩ := rep_CellChange hr4
      refine wq_ev (wn rfl) (ev_idxS (hl_1.mono (l1.trans l10)) hy7 tu26 ts36 rfl rfl) F rfl rfl ?_; clear F a; intro a F
      refine wq_ev (wn rfl) (ev_loadA tu36 rfl (cs := [.string y7.Key, .i6 y7.Column, v6, v7]) ts36 rfl (ptr_mono (cks := [[bx b3 #[.i6 0, .i6 0] 28], [bx b2 #[nilS, nilS] 25], [bx b1 #[vt_1, vt_2] 25]]) (fr := fr) hp2 (Le.refl _))) F rfl rfl ?_; clear F a; intro a F
      obtain ⟨y8, hy8, hm⟩ := bind_some hm
      refine wq_call (wn rfl) rfl (xs := [.tmp 32, .tmp 36]) (vs := [.agg #[vt_1, vt_2], .agg #[.string y7.Key, .i6 y7.Column, v6, v7]]) (cap := []) F rfl rfl tc41 (v := .i6 y8) (fun w S => (changeforgeref2_cellCode_ok (g := g10) (fr := (fl [[bx b3 #[.i6 0, .i6 0] 28], [bx b2 #[nilS, nilS] 25], [bx b1 #[vt_1, vt_2] 25]] fr)) (w := w) t_ vt_1 (ht_1.mono (l1.trans l10)) vt_2 (ht_2.mono (l1.trans l10)) y7 v6 h7 v7 h8 S hy8).mono (by rintro en w' ⟨_, rfl, g2, l2, S2, rfl⟩; exact ⟨rfl, S2.weak l2⟩)) rfl rfl ?_; clear F a; intro a F
      refine wq_ev (wn rfl) (ev_assign rfl) F rfl rfl ?_; clear F a; intro a F
      refine wq_nil ?_; clear S; intro w S
      refine then_n ?_
      refine wp_seq ?_
      refine wp_region_lit ?_
      refine wE (ev_move rfl) F S rfl fun a F=>?_
      refine wE (ev_int rfl rfl (bo_neq _ _ _ _)) F S rfl fun a F=>?_
      refine wpList_nil ?_
      refine then_n ?_
      obtain ⟨hc6, hm⟩ | ⟨hc6, hm⟩ := ite_or hm
      ·refine wp_condT F rfl hc6 ?_
       refine wp_seq ?_
       refine wp_region_lit ?_
       refine wE (ev_build (parts := []) (vs := []) rfl (fun w => tb25_  w)) F S rfl fun a F=>?_
       refine wE (ev_move rfl) F S rfl fun a F=>?_
       refine wE (ev_move rfl) F S rfl fun a F=>?_
       obtain ⟨y9, hy9, hm⟩ := bind_some hm
       refine wl_call0 (wn rfl) rfl F rfl (changeforgeref1_At_ok (fr := (fl [[bx b3 #[.i6 0, .i6 0] 28], [bx b2 #[nilS, nilS] 25], [bx b1 #[vt_1, vt_2] 25]] fr)) y8 x5 S hy9) rfl tc34 rfl rfl ?_; clear F a S
       rintro _ a w ⟨g12, l12, S, rfl⟩ F; replace S : St g12 [[bx b3 #[.i6 0, .i6 0] 28], [bx b2 #[nilS, nilS] 25], [bx b1 #[vt_1, vt_2] 25]] fr w := S
       refine wl_storeC (wn rfl) rfl F S rfl rfl (vs := [nilS, nilS]) rfl ts25 (one_cons rfl (one_cons rfl one_nil)) (k := 1) rfl (lb rfl) (c' := #[nilS, nilS]) rfl rfl ?_; clear S; intro w S
       refine wl_storeC (wn rfl) rfl F S rfl rfl (vs := [.i6 y9.Code, .i6 y9.Index]) rfl ts28 (one_cons rfl (one_cons rfl one_nil)) (k := 0) rfl (lb rfl) (c' := #[.i6 y9.Code, .i6 y9.Index]) rfl rfl ?_; clear S; intro w S
       refine wpList_nil ?_
       refine then_n ?_
       refine wp_ret ?_
       refine inb_r ?_
       refine then_r ?_
       refine then_r ?_
       refine inb_r ?_
       refine then_r ?_
       obtain rfl := sinj hm
       obtain rfl := hfin2 _ rfl
       clear hm
       have hm : (some (({ Columns := [], Rows := [] } : Table), y9) : Option (Table × Fault)) = some _ := hmo2
       obtain rfl := sinj hm
       refine post_r _ F rfl (ar_cons (resA rfl tu25 rfl (box_ptr (cells := [nilS, nilS]) 1 rfl 0 rfl (lb rfl) w S) ts25) (ar_cons (resA rfl tu28 rfl (box_ptr (cells := [.i6 y9.Code, .i6 y9.Index]) 0 rfl 0 rfl (lb rfl) w S) ts28) ar_nil)) ?_
       replace S : St g12 [] fr w := St.tail [] _ S
       exact ⟨_, rfl, g12, (nilS), (nilS), ((l1.trans l10).trans l12), S, (RepSl.nil _), (RepSl.nil _), rfl⟩
      ·refine wp_condF F rfl hc6 ?_
       refine wp_skip ?_
       refine inb_n ?_
       refine then_n ?_
       refine wp_region_lit ?_
       refine wE (ev_move rfl) F S rfl fun a F=>?_
       obtain ⟨z2, hz2, hm⟩ := bind_some hm
       refine wE (ev_int rfl rfl (bo_add hz2)) F S rfl fun a F=>?_
       refine wE (ev_assign rfl) F S rfl fun a F=>?_
       refine wpList_nil ?_
       refine then_n ?_
       obtain rfl := sinj hm
       refine ⟨_, rfl, ?_⟩
       exact ⟨g10, F.sub ⟨rfl, rfl, rfl, rfl, rfl, trivial⟩, l10, S⟩
     ·refine wp_condF F rfl hc5 ?_
      refine wp_exit ?_
      refine then_e ?_
      refine then_e ?_
      refine inb_x ?_
      refine then_n ?_
      obtain rfl := sinj hm
      obtain rfl := hfin2 _ rfl
      clear hm
      have hm : (changeforgeref2_ApplyCells.j1 l_ t_ : Option (Table × Fault)) = some _ := hmo2
      exact ⟨g10, F.sub ⟨rfl, rfl, rfl, rfl, trivial⟩, l10, S, hm⟩
   ·clear F S hm; rintro a w ⟨g4, F, l4, S, hm⟩
    refine wp_seq ?_
    refine wp_region_lit ?_
    refine wE (ev_fieldAddr' tu25 tf25_1 (z := 0) ts23 rfl ⟨_, rfl⟩ rfl) F S rfl fun a F=>?_
    refine wE (ev_load1 tu23 rfl rfl (box_ptr (cells := [vt_2]) 2 rfl 1 rfl (lb rfl))) F S rfl fun a F=>?_
    refine wE (ev_assign rfl) F S rfl fun a F=>?_
    refine wpList_nil ?_
    refine then_n ?_
    refine wp_seq ?_
    refine wp_region_lit ?_
    refine wE (ev_assign rfl) F S rfl fun a F=>?_
    refine wpList_nil ?_
    refine then_n ?_
    refine wp_cut (fun a w => ∃ (x1 : List Row) (v1 : Value) (g5 : Gh), Fr 72 a [(9, v1), (5, bp b3 0), (4, bp b2 0), (3, bp b1 0)] ∧ Le g4 g5 ∧ St g5 [[bx b3 #[.i6 0, .i6 0] 28], [bx b2 #[nilS, nilS] 25], [bx b1 #[vt_1, vt_2] 25]] fr w ∧ RepSl g5 x1 v1 ∧ changeforgeref2_ApplyCells.j2 t_ x1 = some r) ?_ ?_
    ·refine wp_seq ?_
     refine wp_region_lit ?_
     refine wE (ev_assign rfl) F S rfl fun a F=>?_
     refine wpList_nil ?_
     refine then_n ?_
     refine wp_block ?_
     obtain ⟨r1, hr1, hm⟩ := bind_some hm
     have hmo1 := hm; clear hm
     refine wp_iter (σ := Int × (List Row)) (ρ := (Table × Fault) ⊕ (List Row)) (m := fun s => changeforgeref2_ApplyCells.l1 l_ s.1 s.2) (I := fun s a w => match s with | (x2, x3) => ∃ (v2 : Value) (g6 : Gh), Fr 72 a [(11, .i6 x2), (9, v2), (5, bp b3 0), (4, bp b2 0), (3, bp b1 0), (0, vl_1)] ∧ Le g4 g6 ∧ St g6 [[bx b3 #[.i6 0, .i6 0] 28], [bx b2 #[nilS, nilS] 25], [bx b1 #[vt_1, vt_2] 25]] fr w ∧ RepSl g6 x3 v2) hr1 ?_ ?_
     ·dsimp only
      exact ⟨vt_2, g4, F.sub ⟨rfl, rfl, rfl, rfl, rfl, rfl, trivial⟩, (Le.refl _), S, (ht_2.mono (l1.trans l4))⟩
     ·clear F S; rintro ⟨x2, x3⟩ a w x4 ⟨v2, g6, F, l6, S, h2⟩ hx1 hfin1
      have hm : changeforgeref2_ApplyCells.l1 l_ x2 x3 = some x4 := hx1; clear hx1
      unfold changeforgeref2_ApplyCells.l1 at hm
      refine wp_seq ?_
      refine wp_seq ?_
      refine wp_region_lit ?_
      refine wE (ev_move rfl) F S rfl fun a F=>?_
      refine wE (ev_move rfl) F S rfl fun a F=>?_
      refine wE (ev_lenSh hl_1 rfl tu26) F S rfl fun a F=>?_
      refine wE (ev_int rfl rfl (bo_lss _ _ _ _)) F S rfl fun a F=>?_
      refine wpList_nil ?_
      refine then_n ?_
      obtain ⟨hc3, hm⟩ | ⟨hc3, hm⟩ := ite_or hm
      ·refine wp_condT F rfl hc3 ?_
       refine wp_skip ?_
       refine then_n ?_
       refine wp_seq ?_
       refine wp_block ?_
       refine wp_seq ?_
       refine wp_region_lit ?_
       refine wE (ev_move rfl) F S rfl fun a F=>?_
       refine wE (ev_move rfl) F S rfl fun a F=>?_
       refine wE (ev_move rfl) F S rfl fun a F=>?_
       obtain ⟨y4, hy4, hm⟩ := bind_some hm
       obtain ⟨cs1, hr2, hp1⟩ := elemS (hl_1.mono ((l1.trans l4).trans l6)) hy4
       obtain ⟨v3, v4, rfl, h3, h4⟩ := rep_CellChange hr2
       refine wE (ev_idxS (hl_1.mono ((l1.trans l4).trans l6)) hy4 tu26 ts36 rfl rfl) F S rfl fun a F=>?_
       refine wE (ev_loadA tu36 rfl (cs := [.string y4.Key, .i6 y4.Column, v3, v4]) ts36 rfl (ptr_mono (cks := [[bx b3 #[.i6 0, .i6 0] 28], [bx b2 #[nilS, nilS] 25], [bx b1 #[vt_1, vt_2] 25]]) (fr := fr) hp1 (Le.refl _))) F S rfl fun a F=>?_
       obtain ⟨y5, hy5, hm⟩ := bind_some hm
       refine wl_call0 (wn rfl) rfl F rfl (changeforgeref2_cellChange_ok (fr := (fl [[bx b3 #[.i6 0, .i6 0] 28], [bx b2 #[nilS, nilS] 25], [bx b1 #[vt_1, vt_2] 25]] fr)) x3 v2 h2 y4 v3 h3 v4 h4 S hy5) rfl tc42 rfl rfl ?_; clear F a S
       rintro _ a w ⟨g7, v5, c1, l7, S, h5, rfl⟩ F; replace S : St g7 [c1, [bx b3 #[.i6 0, .i6 0] 28], [bx b2 #[nilS, nilS] 25], [bx b1 #[vt_1, vt_2] 25]] fr w := S
       refine wE (ev_move rfl) F S rfl fun a F=>?_
       refine wE (ev_extract rfl rfl) F S rfl fun a F=>?_
       refine wE (ev_extract rfl rfl) F S rfl fun a F=>?_
       refine wE (ev_assign rfl) F S rfl fun a F=>?_
       refine wE (ev_assign rfl) F S rfl fun a F=>?_
       refine wpList_nil ?_
       refine then_n ?_
       refine wp_seq ?_
       refine wp_region_lit ?_
       refine wE (ev_move rfl) F S rfl fun a F=>?_
       refine wE (ev_int rfl rfl (bo_neq _ _ _ _)) F S rfl fun a F=>?_
       refine wpList_nil ?_
       refine then_n ?_
       obtain ⟨hc4, hm⟩ | ⟨hc4, hm⟩ := ite_or hm
       ·refine wp_condT F rfl hc4 ?_
        refine wp_seq ?_
        refine wp_region_lit ?_
        refine wE (ev_build (parts := []) (vs := []) rfl (fun w => tb25_  w)) F S rfl fun a F=>?_
        refine wE (ev_move rfl) F S rfl fun a F=>?_
        refine wE (ev_move rfl) F S rfl fun a F=>?_
        obtain ⟨y6, hy6, hm⟩ := bind_some hm
        refine wl_call0 (wn rfl) rfl F rfl (changeforgeref1_At_ok (fr := (fl [c1, [bx b3 #[.i6 0, .i6 0] 28], [bx b2 #[nilS, nilS] 25], [bx b1 #[vt_1, vt_2] 25]] fr)) y5.2 x2 S hy6) rfl tc34 rfl rfl ?_; clear F a S
        rintro _ a w ⟨g8, l8, S, rfl⟩ F; replace S : St g8 [c1, [bx b3 #[.i6 0, .i6 0] 28], [bx b2 #[nilS, nilS] 25], [bx b1 #[vt_1, vt_2] 25]] fr w := S
        refine wl_storeC (wn rfl) rfl F S rfl rfl (vs := [nilS, nilS]) rfl ts25 (one_cons rfl (one_cons rfl one_nil)) (k := 2) rfl (lb rfl) (c' := #[nilS, nilS]) rfl rfl ?_; clear S; intro w S
        refine wl_storeC (wn rfl) rfl F S rfl rfl (vs := [.i6 y6.Code, .i6 y6.Index]) rfl ts28 (one_cons rfl (one_cons rfl one_nil)) (k := 1) rfl (lb rfl) (c' := #[.i6 y6.Code, .i6 y6.Index]) rfl rfl ?_; clear S; intro w S
        refine wpList_nil ?_
        refine then_n ?_
        refine wp_ret ?_
        refine inb_r ?_
        refine then_r ?_
        refine then_r ?_
        refine inb_r ?_
        refine then_r ?_
        obtain rfl := sinj hm
        obtain rfl := hfin1 _ rfl
        clear hm
        have hm : (some (({ Columns := [], Rows := [] } : Table), y6) : Option (Table × Fault)) = some _ := hmo1
        obtain rfl := sinj hm
        refine post_r _ F rfl (ar_cons (resA rfl tu25 rfl (box_ptr (cells := [nilS, nilS]) 2 rfl 0 rfl (lb rfl) w S) ts25) (ar_cons (resA rfl tu28 rfl (box_ptr (cells := [.i6 y6.Code, .i6 y6.Index]) 1 rfl 0 rfl (lb rfl) w S) ts28) ar_nil)) ?_
        replace S : St g8 [] fr w := St.tail [] _ S
        exact ⟨_, rfl, g8, (nilS), (nilS), ((((l1.trans l4).trans l6).trans l7).trans l8), S, (RepSl.nil _), (RepSl.nil _), rfl⟩
       ·refine wp_condF F rfl hc4 ?_
        refine wp_skip ?_
        refine inb_n ?_
        refine then_n ?_
        refine wp_region_lit ?_
        refine wE (ev_move rfl) F S rfl fun a F=>?_
        obtain ⟨z1, hz1, hm⟩ := bind_some hm
        refine wE (ev_int rfl rfl (bo_add hz1)) F S rfl fun a F=>?_
        refine wE (ev_assign rfl) F S rfl fun a F=>?_
        refine wpList_nil ?_
        refine then_n ?_
        obtain rfl := sinj hm
        refine ⟨_, rfl, ?_⟩
        dsimp only
        obtain ⟨g9, l9, S, h6⟩ : ∃ gz, Le g7 gz ∧ St gz [[bx b3 #[.i6 0, .i6 0] 28], [bx b2 #[nilS, nilS] 25], [bx b1 #[vt_1, vt_2] 25]] fr w ∧ RepSl gz y5.1 v5 := ⟨_, Le.add _ _, S.freeze 0 rfl, OwnS.freeze (S.front 0 rfl) h5⟩
        exact ⟨v5, g9, F.sub ⟨rfl, rfl, rfl, rfl, rfl, rfl, trivial⟩, ((l6.trans l7).trans l9), S, h6⟩
      ·refine wp_condF F rfl hc3 ?_
       refine wp_exit ?_
       refine then_e ?_
       refine then_e ?_
       refine inb_x ?_
       refine then_n ?_
       obtain rfl := sinj hm
       obtain rfl := hfin1 _ rfl
       clear hm
       have hm : (changeforgeref2_ApplyCells.j2 t_ x3 : Option (Table × Fault)) = some _ := hmo1
       exact ⟨x3, v2, g6, F.sub ⟨rfl, rfl, rfl, rfl, trivial⟩, l6, S, h2, hm⟩
    ·clear F S hm; rintro a w ⟨x1, v1, g5, F, l5, S, h1, hm⟩
     refine wp_seq ?_
     refine wp_region_lit ?_
     refine wE (ev_fieldAddr' tu25 tf25_0 (z := 0) ts22 rfl ⟨_, rfl⟩ rfl) F S rfl fun a F=>?_
     refine wE (ev_load1 tu22 rfl rfl (box_ptr (cells := [vt_1]) 2 rfl 0 rfl (lb rfl))) F S rfl fun a F=>?_
     refine wE (ev_move rfl) F S rfl fun a F=>?_
     refine wE (ev_build (parts := [(0, .tmp 68), (1, .tmp 69)]) (vs := [(0, vt_1), (1, v1)]) rfl (fun w => tb25_0_1 vt_1 (RepSl.isSl ht_1) v1 (RepSl.isSl h1) w)) F S rfl fun a F=>?_
     refine wE (ev_build (parts := []) (vs := []) rfl (fun w => tb28_  w)) F S rfl fun a F=>?_
     refine wl_storeC (wn rfl) rfl F S rfl rfl (vs := [vt_1, v1]) rfl ts25 (one_cons ht_1.one (one_cons h1.one one_nil)) (k := 1) rfl (lb rfl) (c' := #[vt_1, v1]) rfl rfl ?_; clear S; intro w S
     refine wl_storeC (wn rfl) rfl F S rfl rfl (vs := [.i6 0, .i6 0]) rfl ts28 (one_cons rfl (one_cons rfl one_nil)) (k := 0) rfl (lb rfl) (c' := #[.i6 0, .i6 0]) rfl rfl ?_; clear S; intro w S
     refine wpList_nil ?_
     refine then_n ?_
     refine wp_ret ?_
     obtain rfl := sinj hm
     refine post_r _ F rfl (ar_cons (resA rfl tu25 rfl (box_ptr (cells := [vt_1, v1]) 1 rfl 0 rfl (lb rfl) w S) ts25) (ar_cons (resA rfl tu28 rfl (box_ptr (cells := [.i6 0, .i6 0]) 0 rfl 0 rfl (lb rfl) w S) ts28) ar_nil)) ?_
     replace S : St g5 [] fr w := St.tail [] _ S
     exact ⟨_, rfl, g5, vt_1, v1, ((l1.trans l4).trans l5), S, (ht_1.mono ((l1.trans l4).trans l5)), h1, rfl⟩

theorem changeforgelaw2_TablepatchMatchesSpec_ok {g : Gh} {fr : Hl} {w : World} {r : Bool} (a_ : Table) (va_1 : Value) (ha_1 : RepSl g a_.Columns va_1) (va_2 : Value) (ha_2 : RepSl g a_.Rows va_2) (b_ : Table) (vb_1 : Value) (hb_1 : RepSl g b_.Columns vb_1) (vb_2 : Value) (hb_2 : RepSl g b_.Rows vb_2) (changes : (List CellChange)) (vchanges1 : Value) (hchanges1 : RepSl g changes vchanges1) (S : St g [] fr w) (hm : changeforgelaw2_TablepatchMatchesSpec a_ b_ changes = some r) :
  Calls Try.prog 8 [.agg #[va_1, va_2], .agg #[vb_1, vb_2], vchanges1].toArray w (fun en w' => ∃ v, en = .returned v ∧ ∃ (g' : Gh), Le g g' ∧ St g' [] fr w' ∧ .bool r = v) := by
 unfold changeforgelaw2_TablepatchMatchesSpec at hm
 refine calls_enter (fn := Try.f8) Try.func8 rfl Try.ntmps8 (lb rfl) ?_
 intro a F
 replace F : Fr 67 a [(0, .agg #[va_1, va_2]), (1, .agg #[vb_1, vb_2]), (2, vchanges1)] := F
 refine wp_seq ?_
 refine wp_region_lit ?_
 refine wl_boxC (wn rfl) rfl rfl rfl F S rfl rfl ?_; clear F a S; rintro b1 a w F S
 refine wl_boxC (wn rfl) rfl rfl rfl F S rfl rfl ?_; clear F a S; rintro b2 a w F S
 refine wE (ev_assign rfl) F S rfl fun a F=>?_
 refine wpList_nil ?_
 refine then_n ?_
 refine wp_seq ?_
 refine wp_region_lit ?_
 refine wE (ev_loadA tu25 rfl (cs := [va_1, va_2]) ts25 rfl (box_ptr (cells := [va_1, va_2]) 1 rfl 0 rfl (lb rfl))) F S rfl fun a F=>?_
 refine wE (ev_loadA tu25 rfl (cs := [vb_1, vb_2]) ts25 rfl (box_ptr (cells := [vb_1, vb_2]) 0 rfl 0 rfl (lb rfl))) F S rfl fun a F=>?_
 obtain ⟨y1, hy1, hm⟩ := bind_some hm
 refine wl_call0 (wn rfl) rfl F rfl (tablepatch_Diff_ok (fr := (fl [[bx b2 #[vb_1, vb_2] 25], [bx b1 #[va_1, va_2] 25]] fr)) a_ va_1 ha_1 va_2 ha_2 b_ vb_1 hb_1 vb_2 hb_2 S hy1) rfl tc19 rfl rfl ?_; clear F a S
 rintro _ a w ⟨g1, v1, c1, l1, S, h1, rfl⟩ F; replace S : St g1 [c1, [bx b2 #[vb_1, vb_2] 25], [bx b1 #[va_1, va_2] 25]] fr w := S
 refine wE (ev_move rfl) F S rfl fun a F=>?_
 refine wE (ev_extract rfl rfl) F S rfl fun a F=>?_
 refine wE (ev_extract rfl rfl) F S rfl fun a F=>?_
 refine wl_alloc (wn rfl) rfl tz28 (cs := [.i6 0, .i6 0]) rfl F S rfl rfl ?_; clear F a S; rintro b3 a w F S
 refine wE (ev_assign rfl) F S rfl fun a F=>?_
 refine wl_storeC (wn rfl) rfl F S rfl rfl (vs := [.i6 y1.2.Code, .i6 y1.2.Index]) rfl ts28 (one_cons rfl (one_cons rfl one_nil)) (k := 0) rfl (lb rfl) (c' := #[.i6 y1.2.Code, .i6 y1.2.Index]) rfl rfl ?_; clear S; intro w S
 refine wpList_nil ?_
 refine then_n ?_
 refine wp_seq ?_
 refine wp_region_lit ?_
 refine wE (ev_loadA tu25 rfl (cs := [va_1, va_2]) ts25 rfl (box_ptr (cells := [va_1, va_2]) 3 rfl 0 rfl (lb rfl))) F S rfl fun a F=>?_
 refine wE (ev_loadA tu25 rfl (cs := [vb_1, vb_2]) ts25 rfl (box_ptr (cells := [vb_1, vb_2]) 2 rfl 0 rfl (lb rfl))) F S rfl fun a F=>?_
 obtain ⟨y2, hy2, hm⟩ := bind_some hm
 refine wl_call0 (wn rfl) rfl F rfl (changeforgeref2_DiffTables_ok (fr := (fl [[bx b3 #[.i6 y1.2.Code, .i6 y1.2.Index] 28], c1, [bx b2 #[vb_1, vb_2] 25], [bx b1 #[va_1, va_2] 25]] fr)) a_ va_1 (ha_1.mono l1) va_2 (ha_2.mono l1) b_ vb_1 (hb_1.mono l1) vb_2 (hb_2.mono l1) S hy2) rfl tc20 rfl rfl ?_; clear F a S
 rintro _ a w ⟨g2, v2, c2, l2, S, h2, rfl⟩ F; replace S : St g2 [c2, [bx b3 #[.i6 y1.2.Code, .i6 y1.2.Index] 28], c1, [bx b2 #[vb_1, vb_2] 25], [bx b1 #[va_1, va_2] 25]] fr w := S
 refine wE (ev_move rfl) F S rfl fun a F=>?_
 refine wE (ev_extract rfl rfl) F S rfl fun a F=>?_
 refine wE (ev_extract rfl rfl) F S rfl fun a F=>?_
 refine wl_alloc (wn rfl) rfl tz28 (cs := [.i6 0, .i6 0]) rfl F S rfl rfl ?_; clear F a S; rintro b4 a w F S
 refine wE (ev_assign rfl) F S rfl fun a F=>?_
 refine wl_storeC (wn rfl) rfl F S rfl rfl (vs := [.i6 y2.2.Code, .i6 y2.2.Index]) rfl ts28 (one_cons rfl (one_cons rfl one_nil)) (k := 0) rfl (lb rfl) (c' := #[.i6 y2.2.Code, .i6 y2.2.Index]) rfl rfl ?_; clear S; intro w S
 refine wpList_nil ?_
 refine then_n ?_
 refine wp_seq ?_
 refine wp_region_lit ?_
 refine wE (ev_move rfl) F S rfl fun a F=>?_
 refine wE (ev_loadA tu25 rfl (cs := [va_1, va_2]) ts25 rfl (box_ptr (cells := [va_1, va_2]) 5 rfl 0 rfl (lb rfl))) F S rfl fun a F=>?_
 obtain ⟨y3, hy3, hm⟩ := bind_some hm
 refine wl_call0 (wn rfl) rfl F rfl (tablepatch_Apply_ok (fr := (fl [[bx b4 #[.i6 y2.2.Code, .i6 y2.2.Index] 28], c2, [bx b3 #[.i6 y1.2.Code, .i6 y1.2.Index] 28], c1, [bx b2 #[vb_1, vb_2] 25], [bx b1 #[va_1, va_2] 25]] fr)) changes vchanges1 (hchanges1.mono (l1.trans l2)) a_ va_1 (ha_1.mono (l1.trans l2)) va_2 (ha_2.mono (l1.trans l2)) S hy3) rfl tc17 rfl rfl ?_; clear F a S
 rintro _ a w ⟨g3, v3, v4, c3, l3, S, h3, h4, rfl⟩ F; replace S : St g3 [c3, [bx b4 #[.i6 y2.2.Code, .i6 y2.2.Index] 28], c2, [bx b3 #[.i6 y1.2.Code, .i6 y1.2.Index] 28], c1, [bx b2 #[vb_1, vb_2] 25], [bx b1 #[va_1, va_2] 25]] fr w := S
 refine wE (ev_move rfl) F S rfl fun a F=>?_
 refine wE (ev_extract rfl rfl) F S rfl fun a F=>?_
 refine wE (ev_extract rfl rfl) F S rfl fun a F=>?_
 refine wl_alloc (wn rfl) rfl tz25 (cs := [nilS, nilS]) rfl F S rfl rfl ?_; clear F a S; rintro b5 a w F S
 refine wl_alloc (wn rfl) rfl tz28 (cs := [.i6 0, .i6 0]) rfl F S rfl rfl ?_; clear F a S; rintro b6 a w F S
 refine wl_storeC (wn rfl) rfl F S rfl rfl (vs := [v3, v4]) rfl ts25 (one_cons (OwnS.one h3) (one_cons h4.one one_nil)) (k := 1) rfl (lb rfl) (c' := #[v3, v4]) rfl rfl ?_; clear S; intro w S
 refine wl_storeC (wn rfl) rfl F S rfl rfl (vs := [.i6 y3.2.Code, .i6 y3.2.Index]) rfl ts28 (one_cons rfl (one_cons rfl one_nil)) (k := 0) rfl (lb rfl) (c' := #[.i6 y3.2.Code, .i6 y3.2.Index]) rfl rfl ?_; clear S; intro w S
 refine wpList_nil ?_
 refine then_n ?_
 refine wp_seq ?_
 refine wp_region_lit ?_
 refine wE (ev_move rfl) F S rfl fun a F=>?_
 refine wE (ev_loadA tu25 rfl (cs := [va_1, va_2]) ts25 rfl (box_ptr (cells := [va_1, va_2]) 8 rfl 0 rfl (lb rfl))) F S rfl fun a F=>?_
 obtain ⟨y4, hy4, hm⟩ := bind_some hm
 refine wl_call0 (wn rfl) rfl F rfl (changeforgeref2_ApplyCells_ok (fr := (fl [[bx b6 #[.i6 y3.2.Code, .i6 y3.2.Index] 28], [bx b5 #[v3, v4] 25], c3, [bx b4 #[.i6 y2.2.Code, .i6 y2.2.Index] 28], c2, [bx b3 #[.i6 y1.2.Code, .i6 y1.2.Index] 28], c1, [bx b2 #[vb_1, vb_2] 25], [bx b1 #[va_1, va_2] 25]] fr)) changes vchanges1 (hchanges1.mono ((l1.trans l2).trans l3)) a_ va_1 (ha_1.mono ((l1.trans l2).trans l3)) va_2 (ha_2.mono ((l1.trans l2).trans l3)) S hy4) rfl tc21 rfl rfl ?_; clear F a S
 rintro _ a w ⟨g4, v5, v6, l4, S, h5, h6, rfl⟩ F; replace S : St g4 [[bx b6 #[.i6 y3.2.Code, .i6 y3.2.Index] 28], [bx b5 #[v3, v4] 25], c3, [bx b4 #[.i6 y2.2.Code, .i6 y2.2.Index] 28], c2, [bx b3 #[.i6 y1.2.Code, .i6 y1.2.Index] 28], c1, [bx b2 #[vb_1, vb_2] 25], [bx b1 #[va_1, va_2] 25]] fr w := S
 refine wE (ev_move rfl) F S rfl fun a F=>?_
 refine wE (ev_extract rfl rfl) F S rfl fun a F=>?_
 refine wE (ev_extract rfl rfl) F S rfl fun a F=>?_
 refine wl_alloc (wn rfl) rfl tz25 (cs := [nilS, nilS]) rfl F S rfl rfl ?_; clear F a S; rintro b7 a w F S
 refine wl_alloc (wn rfl) rfl tz28 (cs := [.i6 0, .i6 0]) rfl F S rfl rfl ?_; clear F a S; rintro b8 a w F S
 refine wl_storeC (wn rfl) rfl F S rfl rfl (vs := [v5, v6]) rfl ts25 (one_cons h5.one (one_cons h6.one one_nil)) (k := 1) rfl (lb rfl) (c' := #[v5, v6]) rfl rfl ?_; clear S; intro w S
 refine wl_storeC (wn rfl) rfl F S rfl rfl (vs := [.i6 y4.2.Code, .i6 y4.2.Index]) rfl ts28 (one_cons rfl (one_cons rfl one_nil)) (k := 0) rfl (lb rfl) (c' := #[.i6 y4.2.Code, .i6 y4.2.Index]) rfl rfl ?_; clear S; intro w S
 refine wpList_nil ?_
 refine then_n ?_
 refine wp_seq ?_
 obtain ⟨g5, l5, S, h7⟩ : ∃ gz, Le g4 gz ∧ St gz [[bx b8 #[.i6 y4.2.Code, .i6 y4.2.Index] 28], [bx b7 #[v5, v6] 25], [bx b6 #[.i6 y3.2.Code, .i6 y3.2.Index] 28], [bx b5 #[v3, v4] 25], c3, [bx b4 #[.i6 y2.2.Code, .i6 y2.2.Index] 28], c2, [bx b3 #[.i6 y1.2.Code, .i6 y1.2.Index] 28], [bx b2 #[vb_1, vb_2] 25], [bx b1 #[va_1, va_2] 25]] fr w ∧ RepSl gz y1.1 v1 := ⟨_, Le.add _ _, S.freeze 8 rfl, OwnS.freeze (S.front 8 rfl) (h1.mono ((l2.trans l3).trans l4))⟩
 obtain ⟨g6, l6, S, h8⟩ : ∃ gz, Le g5 gz ∧ St gz [[bx b8 #[.i6 y4.2.Code, .i6 y4.2.Index] 28], [bx b7 #[v5, v6] 25], [bx b6 #[.i6 y3.2.Code, .i6 y3.2.Index] 28], [bx b5 #[v3, v4] 25], c3, [bx b4 #[.i6 y2.2.Code, .i6 y2.2.Index] 28], [bx b3 #[.i6 y1.2.Code, .i6 y1.2.Index] 28], [bx b2 #[vb_1, vb_2] 25], [bx b1 #[va_1, va_2] 25]] fr w ∧ RepSl gz y2.1 v2 := ⟨_, Le.add _ _, S.freeze 6 rfl, OwnS.freeze (S.front 6 rfl) (h2.mono ((l3.trans l4).trans l5))⟩
 obtain ⟨g7, l7, S, h9⟩ : ∃ gz, Le g6 gz ∧ St gz [[bx b8 #[.i6 y4.2.Code, .i6 y4.2.Index] 28], [bx b7 #[v5, v6] 25], [bx b6 #[.i6 y3.2.Code, .i6 y3.2.Index] 28], [bx b5 #[v3, v4] 25], [bx b4 #[.i6 y2.2.Code, .i6 y2.2.Index] 28], [bx b3 #[.i6 y1.2.Code, .i6 y1.2.Index] 28], [bx b2 #[vb_1, vb_2] 25], [bx b1 #[va_1, va_2] 25]] fr w ∧ RepSl gz y3.1.Columns v3 := ⟨_, Le.add _ _, S.freeze 4 rfl, OwnS.freeze (S.front 4 rfl) (h3.mono ((l4.trans l5).trans l6))⟩
 refine wp_quiet mo (by kernel_rfl) S ?_
 refine wq_ev (wn rfl) (ev_loadA tu25 rfl (cs := [va_1, va_2]) ts25 rfl (box_ptr (cells := [va_1, va_2]) 7 rfl 0 rfl (lb rfl))) F rfl rfl ?_; clear F a; intro a F
 obtain ⟨y5, hy5, hm⟩ := bind_some hm
 refine wq_call (wn rfl) rfl (xs := [.tmp 39]) (vs := [.agg #[va_1, va_2]]) (cap := []) F rfl rfl tc16 (v := .agg #[.i6 y5.Code, .i6 y5.Index]) (fun w S => (tablepatch_Validate_ok (g := g7) (fr := (fl [[bx b8 #[.i6 y4.2.Code, .i6 y4.2.Index] 28], [bx b7 #[v5, v6] 25], [bx b6 #[.i6 y3.2.Code, .i6 y3.2.Index] 28], [bx b5 #[v3, v4] 25], [bx b4 #[.i6 y2.2.Code, .i6 y2.2.Index] 28], [bx b3 #[.i6 y1.2.Code, .i6 y1.2.Index] 28], [bx b2 #[vb_1, vb_2] 25], [bx b1 #[va_1, va_2] 25]] fr)) (w := w) a_ va_1 (ha_1.mono ((((((l1.trans l2).trans l3).trans l4).trans l5).trans l6).trans l7)) va_2 (ha_2.mono ((((((l1.trans l2).trans l3).trans l4).trans l5).trans l6).trans l7)) S hy5).mono (by rintro en w' ⟨_, rfl, g2, l2, S2, rfl⟩; exact ⟨rfl, S2.weak l2⟩)) rfl rfl ?_; clear F a; intro a F
 refine wq_ev (wn rfl) (ev_loadA tu25 rfl (cs := [va_1, va_2]) ts25 rfl (box_ptr (cells := [va_1, va_2]) 7 rfl 0 rfl (lb rfl))) F rfl rfl ?_; clear F a; intro a F
 obtain ⟨y6, hy6, hm⟩ := bind_some hm
 refine wq_call (wn rfl) rfl (xs := [.tmp 41]) (vs := [.agg #[va_1, va_2]]) (cap := []) F rfl rfl tc22 (v := .agg #[.i6 y6.Code, .i6 y6.Index]) (fun w S => (changeforgeref2_TableFault_ok (g := g7) (fr := (fl [[bx b8 #[.i6 y4.2.Code, .i6 y4.2.Index] 28], [bx b7 #[v5, v6] 25], [bx b6 #[.i6 y3.2.Code, .i6 y3.2.Index] 28], [bx b5 #[v3, v4] 25], [bx b4 #[.i6 y2.2.Code, .i6 y2.2.Index] 28], [bx b3 #[.i6 y1.2.Code, .i6 y1.2.Index] 28], [bx b2 #[vb_1, vb_2] 25], [bx b1 #[va_1, va_2] 25]] fr)) (w := w) a_ va_1 (ha_1.mono ((((((l1.trans l2).trans l3).trans l4).trans l5).trans l6).trans l7)) va_2 (ha_2.mono ((((((l1.trans l2).trans l3).trans l4).trans l5).trans l6).trans l7)) S hy6).mono (by rintro en w' ⟨_, rfl, g2, l2, S2, rfl⟩; exact ⟨rfl, S2.weak l2⟩)) rfl rfl ?_; clear F a; intro a F
 refine wq_ev (wn rfl) (ev_eqS tu28 tqa28 tqb28 tqc28 (xs := [.i6 y5.Code, .i6 y5.Index]) (ys := [.i6 y6.Code, .i6 y6.Index]) rfl rfl ⟨_, _, rfl, by decide, ⟨_, _, rfl, rfl, leaf_int tu3⟩, ⟨_, _, rfl, by decide, ⟨_, _, rfl, rfl, leaf_int tu3⟩, rfl⟩⟩) F rfl rfl ?_; clear F a; intro a F
 refine wq_ev (wn rfl) (ev_move rfl) F rfl rfl ?_; clear F a; intro a F
 obtain ⟨x1, hx1, hm⟩ := bind_some hm
 refine wq_cut 4 (fun a => Fr 67 a [(48, .bool x1), (14, bp b8 0), (13, bp b7 0), (12, bp b6 0), (11, bp b5 0), (10, bp b4 0), (8, bp b3 0), (6, .bool false)]) ?_ ?_
 ·clear hm; obtain ⟨hc1, hm⟩ | ⟨hc1, hm⟩ := ite_or hx1
  ·refine wq_ev (wg F rfl rfl rfl rfl hc1) (ev_move rfl) F rfl rfl ?_; clear F a; intro a F
   refine wq_ev (wg F rfl rfl rfl rfl hc1) (ev_move rfl) F rfl rfl ?_; clear F a; intro a F
   obtain ⟨y7, hy7, hm⟩ := bind_some hm
   refine wq_call (wg F rfl rfl rfl rfl hc1) rfl (xs := [.tmp 45, .tmp 46]) (vs := [v1, v2]) (cap := []) F rfl rfl tc13 (v := .bool y7) (fun w S => (changeforgeequal_Cells_ok (g := g7) (fr := (fl [[bx b8 #[.i6 y4.2.Code, .i6 y4.2.Index] 28], [bx b7 #[v5, v6] 25], [bx b6 #[.i6 y3.2.Code, .i6 y3.2.Index] 28], [bx b5 #[v3, v4] 25], [bx b4 #[.i6 y2.2.Code, .i6 y2.2.Index] 28], [bx b3 #[.i6 y1.2.Code, .i6 y1.2.Index] 28], [bx b2 #[vb_1, vb_2] 25], [bx b1 #[va_1, va_2] 25]] fr)) (w := w) y1.1 v1 (h7.mono (l6.trans l7)) y2.1 v2 (h8.mono l7) S hy7).mono (by rintro en w' ⟨_, rfl, g2, l2, S2, rfl⟩; exact ⟨rfl, S2.weak l2⟩)) rfl rfl ?_; clear F a; intro a F
   refine wq_ev (wn rfl) (ev_pickT rfl hc1 rfl) F rfl rfl ?_; clear F a; intro a F
   obtain rfl := sinj hm
   refine wq_nil ?_; exact F.sub ⟨rfl, rfl, rfl, rfl, rfl, rfl, rfl, rfl, trivial⟩
  ·refine wq_skip rfl rfl rfl rfl (ne_tf hc1) F rfl rfl ?_; clear F a; intro a F
   refine wq_skip rfl rfl rfl rfl (ne_tf hc1) F rfl rfl ?_; clear F a; intro a F
   refine wq_skip rfl rfl rfl rfl (ne_tf hc1) F rfl rfl ?_; clear F a; intro a F
   refine wq_ev (wn rfl) (ev_pickF rfl hc1 rfl) F rfl rfl ?_; clear F a; intro a F
   obtain rfl := sinj hm
   refine wq_nil ?_; exact F.sub ⟨rfl, rfl, rfl, rfl, rfl, rfl, rfl, rfl, trivial⟩
 clear F; intro a F
 refine wq_ev (wn rfl) (ev_move rfl) F rfl rfl ?_; clear F a; intro a F
 obtain ⟨x2, hx2, hm⟩ := bind_some hm
 refine wq_cut 4 (fun a => Fr 67 a [(53, .bool x2), (14, bp b8 0), (13, bp b7 0), (12, bp b6 0), (11, bp b5 0), (6, .bool false)]) ?_ ?_
 ·clear hm; obtain ⟨hc2, hm⟩ | ⟨hc2, hm⟩ := ite_or hx2
  ·refine wq_ev (wg F rfl rfl rfl rfl hc2) (ev_loadA tu28 rfl (cs := [.i6 y1.2.Code, .i6 y1.2.Index]) ts28 rfl (box_ptr (cells := [.i6 y1.2.Code, .i6 y1.2.Index]) 5 rfl 0 rfl (lb rfl))) F rfl rfl ?_; clear F a; intro a F
   refine wq_ev (wg F rfl rfl rfl rfl hc2) (ev_loadA tu28 rfl (cs := [.i6 y2.2.Code, .i6 y2.2.Index]) ts28 rfl (box_ptr (cells := [.i6 y2.2.Code, .i6 y2.2.Index]) 4 rfl 0 rfl (lb rfl))) F rfl rfl ?_; clear F a; intro a F
   refine wq_ev (wg F rfl rfl rfl rfl hc2) (ev_eqS tu28 tqa28 tqb28 tqc28 (xs := [.i6 y1.2.Code, .i6 y1.2.Index]) (ys := [.i6 y2.2.Code, .i6 y2.2.Index]) rfl rfl ⟨_, _, rfl, by decide, ⟨_, _, rfl, rfl, leaf_int tu3⟩, ⟨_, _, rfl, by decide, ⟨_, _, rfl, rfl, leaf_int tu3⟩, rfl⟩⟩) F rfl rfl ?_; clear F a; intro a F
   refine wq_ev (wn rfl) (ev_pickT rfl hc2 rfl) F rfl rfl ?_; clear F a; intro a F
   obtain rfl := sinj hm
   refine wq_nil ?_; exact F.sub ⟨rfl, rfl, rfl, rfl, rfl, rfl, trivial⟩
  ·refine wq_skip rfl rfl rfl rfl (ne_tf hc2) F rfl rfl ?_; clear F a; intro a F
   refine wq_skip rfl rfl rfl rfl (ne_tf hc2) F rfl rfl ?_; clear F a; intro a F
   refine wq_skip rfl rfl rfl rfl (ne_tf hc2) F rfl rfl ?_; clear F a; intro a F
   refine wq_ev (wn rfl) (ev_pickF rfl hc2 rfl) F rfl rfl ?_; clear F a; intro a F
   obtain rfl := sinj hm
   refine wq_nil ?_; exact F.sub ⟨rfl, rfl, rfl, rfl, rfl, rfl, trivial⟩
 clear F; intro a F
 refine wq_ev (wn rfl) (ev_move rfl) F rfl rfl ?_; clear F a; intro a F
 obtain ⟨x3, hx3, hm⟩ := bind_some hm
 refine wq_cut 4 (fun a => Fr 67 a [(58, .bool x3), (14, bp b8 0), (12, bp b6 0), (6, .bool false)]) ?_ ?_
 ·clear hm; obtain ⟨hc3, hm⟩ | ⟨hc3, hm⟩ := ite_or hx3
  ·refine wq_ev (wg F rfl rfl rfl rfl hc3) (ev_loadA tu25 rfl (cs := [v3, v4]) ts25 rfl (box_ptr (cells := [v3, v4]) 3 rfl 0 rfl (lb rfl))) F rfl rfl ?_; clear F a; intro a F
   refine wq_ev (wg F rfl rfl rfl rfl hc3) (ev_loadA tu25 rfl (cs := [v5, v6]) ts25 rfl (box_ptr (cells := [v5, v6]) 1 rfl 0 rfl (lb rfl))) F rfl rfl ?_; clear F a; intro a F
   obtain ⟨y8, hy8, hm⟩ := bind_some hm
   refine wq_call (wg F rfl rfl rfl rfl hc3) rfl (xs := [.tmp 55, .tmp 56]) (vs := [.agg #[v3, v4], .agg #[v5, v6]]) (cap := []) F rfl rfl tc12 (v := .bool y8) (fun w S => (changeforgeequal_Table_ok (g := g7) (fr := (fl [[bx b8 #[.i6 y4.2.Code, .i6 y4.2.Index] 28], [bx b7 #[v5, v6] 25], [bx b6 #[.i6 y3.2.Code, .i6 y3.2.Index] 28], [bx b5 #[v3, v4] 25], [bx b4 #[.i6 y2.2.Code, .i6 y2.2.Index] 28], [bx b3 #[.i6 y1.2.Code, .i6 y1.2.Index] 28], [bx b2 #[vb_1, vb_2] 25], [bx b1 #[va_1, va_2] 25]] fr)) (w := w) y3.1 v3 h9 v4 (h4.mono (((l4.trans l5).trans l6).trans l7)) y4.1 v5 (h5.mono ((l5.trans l6).trans l7)) v6 (h6.mono ((l5.trans l6).trans l7)) S hy8).mono (by rintro en w' ⟨_, rfl, g2, l2, S2, rfl⟩; exact ⟨rfl, S2.weak l2⟩)) rfl rfl ?_; clear F a; intro a F
   refine wq_ev (wn rfl) (ev_pickT rfl hc3 rfl) F rfl rfl ?_; clear F a; intro a F
   obtain rfl := sinj hm
   refine wq_nil ?_; exact F.sub ⟨rfl, rfl, rfl, rfl, trivial⟩
  ·refine wq_skip rfl rfl rfl rfl (ne_tf hc3) F rfl rfl ?_; clear F a; intro a F
   refine wq_skip rfl rfl rfl rfl (ne_tf hc3) F rfl rfl ?_; clear F a; intro a F
   refine wq_skip rfl rfl rfl rfl (ne_tf hc3) F rfl rfl ?_; clear F a; intro a F
   refine wq_ev (wn rfl) (ev_pickF rfl hc3 rfl) F rfl rfl ?_; clear F a; intro a F
   obtain rfl := sinj hm
   refine wq_nil ?_; exact F.sub ⟨rfl, rfl, rfl, rfl, trivial⟩
 clear F; intro a F
 refine wq_ev (wn rfl) (ev_move rfl) F rfl rfl ?_; clear F a; intro a F
 obtain ⟨x4, hx4, hm⟩ := bind_some hm
 refine wq_cut 4 (fun a => Fr 67 a [(63, .bool x4), (6, .bool false)]) ?_ ?_
 ·clear hm; obtain ⟨hc4, hm⟩ | ⟨hc4, hm⟩ := ite_or hx4
  ·refine wq_ev (wg F rfl rfl rfl rfl hc4) (ev_loadA tu28 rfl (cs := [.i6 y3.2.Code, .i6 y3.2.Index]) ts28 rfl (box_ptr (cells := [.i6 y3.2.Code, .i6 y3.2.Index]) 2 rfl 0 rfl (lb rfl))) F rfl rfl ?_; clear F a; intro a F
   refine wq_ev (wg F rfl rfl rfl rfl hc4) (ev_loadA tu28 rfl (cs := [.i6 y4.2.Code, .i6 y4.2.Index]) ts28 rfl (box_ptr (cells := [.i6 y4.2.Code, .i6 y4.2.Index]) 0 rfl 0 rfl (lb rfl))) F rfl rfl ?_; clear F a; intro a F
   refine wq_ev (wg F rfl rfl rfl rfl hc4) (ev_eqS tu28 tqa28 tqb28 tqc28 (xs := [.i6 y3.2.Code, .i6 y3.2.Index]) (ys := [.i6 y4.2.Code, .i6 y4.2.Index]) rfl rfl ⟨_, _, rfl, by decide, ⟨_, _, rfl, rfl, leaf_int tu3⟩, ⟨_, _, rfl, by decide, ⟨_, _, rfl, rfl, leaf_int tu3⟩, rfl⟩⟩) F rfl rfl ?_; clear F a; intro a F
   refine wq_ev (wn rfl) (ev_pickT rfl hc4 rfl) F rfl rfl ?_; clear F a; intro a F
   obtain rfl := sinj hm
   refine wq_nil ?_; exact F.sub ⟨rfl, rfl, trivial⟩
  ·refine wq_skip rfl rfl rfl rfl (ne_tf hc4) F rfl rfl ?_; clear F a; intro a F
   refine wq_skip rfl rfl rfl rfl (ne_tf hc4) F rfl rfl ?_; clear F a; intro a F
   refine wq_skip rfl rfl rfl rfl (ne_tf hc4) F rfl rfl ?_; clear F a; intro a F
   refine wq_ev (wn rfl) (ev_pickF rfl hc4 rfl) F rfl rfl ?_; clear F a; intro a F
   obtain rfl := sinj hm
   refine wq_nil ?_; exact F.sub ⟨rfl, rfl, trivial⟩
 clear F; intro a F
 refine wq_ev (wn rfl) (ev_move rfl) F rfl rfl ?_; clear F a; intro a F
 obtain ⟨x5, hx5, hm⟩ := bind_some hm
 refine wq_cut 2 (fun a => Fr 67 a [(66, .bool x5), (6, .bool false)]) ?_ ?_
 ·clear hm; obtain ⟨hc5, hm⟩ | ⟨hc5, hm⟩ := ite_or hx5
  ·obtain ⟨y9, hy9, hm⟩ := bind_some hm
   refine wq_call (wg F rfl rfl rfl rfl hc5) rfl (xs := []) (vs := []) (cap := []) F rfl rfl tc14 (v := .bool y9) (fun w S => (changeforgelaw2_both_ok (g := g7) (fr := (fl [[bx b8 #[.i6 y4.2.Code, .i6 y4.2.Index] 28], [bx b7 #[v5, v6] 25], [bx b6 #[.i6 y3.2.Code, .i6 y3.2.Index] 28], [bx b5 #[v3, v4] 25], [bx b4 #[.i6 y2.2.Code, .i6 y2.2.Index] 28], [bx b3 #[.i6 y1.2.Code, .i6 y1.2.Index] 28], [bx b2 #[vb_1, vb_2] 25], [bx b1 #[va_1, va_2] 25]] fr)) (w := w)  S hy9).mono (by rintro en w' ⟨_, rfl, g2, l2, S2, rfl⟩; exact ⟨rfl, S2.weak l2⟩)) rfl rfl ?_; clear F a; intro a F
   refine wq_ev (wn rfl) (ev_pickT rfl hc5 rfl) F rfl rfl ?_; clear F a; intro a F
   obtain rfl := sinj hm
   refine wq_nil ?_; exact F.sub ⟨rfl, rfl, trivial⟩
  ·refine wq_skip rfl rfl rfl rfl (ne_tf hc5) F rfl rfl ?_; clear F a; intro a F
   refine wq_ev (wn rfl) (ev_pickF rfl hc5 rfl) F rfl rfl ?_; clear F a; intro a F
   obtain rfl := sinj hm
   refine wq_nil ?_; exact F.sub ⟨rfl, rfl, trivial⟩
 clear F; intro a F
 refine wq_ev (wn rfl) (ev_assign rfl) F rfl rfl ?_; clear F a; intro a F
 refine wq_nil ?_; clear S; intro w S
 refine then_n ?_
 refine wp_ret ?_
 obtain rfl := sinj hm
 refine post_r _ F rfl (ar_cons (resT rfl) ar_nil) ?_
 replace S : St g7 [] fr w := St.tail [] _ S
 exact ⟨_, rfl, g7, ((((((l1.trans l2).trans l3).trans l4).trans l5).trans l6).trans l7), S, rfl⟩
end Go.Dc
