/- Walks: each function comes to what its model says. -/
import Derived.Test.YtladljignaanfaaDcTab
import Derived.Test.YtladljignaanfaaDcM
import Derived.Test.YtladljignaanfaaDcW2
import Derived.Test.YtladljignaanfaaDcW4
namespace Go.Dc
open Go Go.Proofs
set_option maxRecDepth 100000
set_option maxHeartbeats 4000000
set_option linter.unusedVariables false
theorem changeforgelaw2_MultivalueCovers_ok {g : Gh} {fr : Hl} {w : World} {r : Bool} (a_ : (List VersionedValue)) (va_1 : Value) (ha_1 : RepSl g a_ va_1) (b_ : (List VersionedValue)) (vb_1 : Value) (hb_1 : RepSl g b_ vb_1) (i_ : Int) (S : St g [] fr w) (hm : changeforgelaw2_MultivalueCovers a_ b_ i_ = some r) :
  Calls Try.prog 7 [va_1, vb_1, .i6 i_].toArray w (fun en w' => ∃ v, en = .returned v ∧ ∃ (g' : Gh), Le g g' ∧ St g' [] fr w' ∧ .bool r = v) := by
 unfold changeforgelaw2_MultivalueCovers at hm
 refine calls_enter (fn := Try.f7) Try.func7 rfl Try.ntmps7 (lb rfl) ?_
 intro a F
 replace F : Fr 60 a [(0, va_1), (1, vb_1), (2, .i6 i_)] := F
 refine wp_seq ?_
 refine wp_region_lit ?_
 refine wE (ev_assign rfl) F S rfl fun a F=>?_
 refine wpList_nil ?_
 refine then_n ?_
 refine wp_seq ?_
 refine wp_region_lit ?_
 refine wE (ev_move rfl) F S rfl fun a F=>?_
 refine wE (ev_move rfl) F S rfl fun a F=>?_
 obtain ⟨y1, hy1, hm⟩ := bind_some hm
 refine wl_call0 (wn rfl) rfl F rfl (multivalue_Merge_ok a_ va_1 ha_1 b_ vb_1 hb_1 S hy1) rfl tc11 rfl rfl ?_; clear F a S
 rintro _ a w ⟨g1, v1, c1, l1, S, h1, rfl⟩ F; replace S : St g1 [c1] fr w := S
 refine wE (ev_move rfl) F S rfl fun a F=>?_
 refine wE (ev_extract rfl rfl) F S rfl fun a F=>?_
 refine wE (ev_extract rfl rfl) F S rfl fun a F=>?_
 refine wl_alloc (wn rfl) rfl tz24 (cs := [.i6 0, .i6 0]) rfl F S rfl rfl ?_; clear F a S; rintro b1 a w F S
 refine wE (ev_assign rfl) F S rfl fun a F=>?_
 refine wl_storeC (wn rfl) rfl F S rfl rfl (vs := [.i6 y1.2.Code, .i6 y1.2.Index]) rfl ts24 (one_cons rfl (one_cons rfl one_nil)) (k := 0) rfl (lb rfl) (c' := #[.i6 y1.2.Code, .i6 y1.2.Index]) rfl rfl ?_; clear S; intro w S
 refine wpList_nil ?_
 refine then_n ?_
 refine wp_seq ?_
 refine wp_region_lit ?_
 refine wl_lit (l := ([] : List VersionedValue)) (vs := []) (parts := []) (wn rfl) rfl rfl rfl tu22 te35 sz_nil rfl (Cat.nil _) coa_nil rfl F S rfl rfl ?_; clear F a S
 rintro v2 c2 a w h2 F S
 refine wE (ev_move rfl) F S rfl fun a F=>?_
 obtain ⟨cs1, hk1, hr1⟩ := RepSl.reads (ha_1.mono l1)
 obtain ⟨y2, hy2, hm⟩ := bind_some hm
 refine wl_append (wn rfl) rfl tu22 tu22 te35 (by decide) (by decide) F S rfl rfl (k := 0) rfl h2 hk1 rfl (hr1 _ _ S) hy2 rfl rfl ?_; clear F a S
 rintro v3 c3 a w h3 S F; replace S : St g1 [c3, [bx b1 #[.i6 y1.2.Code, .i6 y1.2.Index] 24], c1] fr w := S
 refine wE (ev_move rfl) F S rfl fun a F=>?_
 obtain ⟨cs2, hk2, hr2⟩ := RepSl.reads (hb_1.mono l1)
 obtain ⟨y3, hy3, hm⟩ := bind_some hm
 refine wl_append (wn rfl) rfl tu22 tu22 te35 (by decide) (by decide) F S rfl rfl (k := 0) rfl h3 hk2 rfl (hr2 _ _ S) hy3 rfl rfl ?_; clear F a S
 rintro v4 c4 a w h4 S F; replace S : St g1 [c4, [bx b1 #[.i6 y1.2.Code, .i6 y1.2.Index] 24], c1] fr w := S
 refine wE (ev_assign rfl) F S rfl fun a F=>?_
 refine wpList_nil ?_
 refine then_n ?_
 refine wp_seq ?_
 refine wp_seq ?_
 refine wp_region_lit ?_
 refine wE (ev_fieldAddr' tu24 tf24_0 (z := 0) ts3 rfl ⟨_, rfl⟩ rfl) F S rfl fun a F=>?_
 refine wE (ev_load1 tu3 rfl rfl (box_ptr (cells := [.i6 y1.2.Code]) 1 rfl 0 rfl (lb rfl))) F S rfl fun a F=>?_
 refine wE (ev_int rfl rfl (bo_neq _ _ _ _)) F S rfl fun a F=>?_
 refine wE (ev_move rfl) F S rfl fun a F=>?_
 obtain ⟨x1, hx1, hm⟩ := bind_some hm
 refine wl_cut 3 (fun a w' => w = w' ∧ Fr 60 a [(30, .bool x1), (9, v4), (7, v1), (2, .i6 i_)]) ?_ ?_
 ·clear hm; obtain ⟨hc1, hm⟩ | ⟨hc1, hm⟩ := ite_or hx1
  ·refine wl_skip rfl rfl rfl rfl (ne_ft hc1) F rfl rfl ?_; clear F a; intro a F
   refine wl_skip rfl rfl rfl rfl (ne_ft hc1) F rfl rfl ?_; clear F a; intro a F
   refine wE (ev_pickT rfl hc1 rfl) F S rfl fun a F=>?_
   obtain rfl := sinj hm
   refine wpList_nil (then_n ?_); exact ⟨rfl, F.sub ⟨rfl, rfl, rfl, rfl, trivial⟩⟩
  ·refine wl_ev (wg F rfl rfl rfl rfl hc1) (ev_move rfl) F S rfl rfl ?_; clear F a; intro a F
   refine wl_ev (wg F rfl rfl rfl rfl hc1) (ev_int rfl rfl (bo_lss _ _ _ _)) F S rfl rfl ?_; clear F a; intro a F
   refine wE (ev_pickF rfl hc1 rfl) F S rfl fun a F=>?_
   obtain rfl := sinj hm
   refine wpList_nil (then_n ?_); exact ⟨rfl, F.sub ⟨rfl, rfl, rfl, rfl, trivial⟩⟩
 clear F; rintro a w' ⟨rfl, F⟩
 refine wE (ev_move rfl) F S rfl fun a F=>?_
 obtain ⟨x2, hx2, hm⟩ := bind_some hm
 refine wl_cut 5 (fun a w' => w = w' ∧ Fr 60 a [(36, .bool x2), (9, v4), (7, v1), (2, .i6 i_)]) ?_ ?_
 ·clear hm; obtain ⟨hc2, hm⟩ | ⟨hc2, hm⟩ := ite_or hx2
  ·refine wl_skip rfl rfl rfl rfl (ne_ft hc2) F rfl rfl ?_; clear F a; intro a F
   refine wl_skip rfl rfl rfl rfl (ne_ft hc2) F rfl rfl ?_; clear F a; intro a F
   refine wl_skip rfl rfl rfl rfl (ne_ft hc2) F rfl rfl ?_; clear F a; intro a F
   refine wl_skip rfl rfl rfl rfl (ne_ft hc2) F rfl rfl ?_; clear F a; intro a F
   refine wE (ev_pickT rfl hc2 rfl) F S rfl fun a F=>?_
   obtain rfl := sinj hm
   refine wpList_nil (then_n ?_); exact ⟨rfl, F.sub ⟨rfl, rfl, rfl, rfl, trivial⟩⟩
  ·refine wl_ev (wg F rfl rfl rfl rfl hc2) (ev_move rfl) F S rfl rfl ?_; clear F a; intro a F
   refine wl_ev (wg F rfl rfl rfl rfl hc2) (ev_move rfl) F S rfl rfl ?_; clear F a; intro a F
   refine wl_ev (wg F rfl rfl rfl rfl hc2) (ev_lenOw h4 rfl tu22) F S rfl rfl ?_; clear F a; intro a F
   refine wl_ev (wg F rfl rfl rfl rfl hc2) (ev_int rfl rfl (bo_geq _ _ _ _)) F S rfl rfl ?_; clear F a; intro a F
   refine wE (ev_pickF rfl hc2 rfl) F S rfl fun a F=>?_
   obtain rfl := sinj hm
   refine wpList_nil (then_n ?_); exact ⟨rfl, F.sub ⟨rfl, rfl, rfl, rfl, trivial⟩⟩
 clear F; rintro a w' ⟨rfl, F⟩
 refine wpList_nil ?_
 refine then_n ?_
 obtain ⟨hc3, hm⟩ | ⟨hc3, hm⟩ := ite_or hm
 ·refine wp_condT F rfl hc3 ?_
  refine wp_seq ?_
  refine wp_region_lit ?_
  obtain ⟨y4, hy4, hm⟩ := bind_some hm
  refine wl_call0 (wn rfl) rfl F rfl (changeforgelaw2_first_ok (fr := (fl [c4, [bx b1 #[.i6 y1.2.Code, .i6 y1.2.Index] 24], c1] fr))  S hy4) rfl tc16 rfl rfl ?_; clear F a S
  rintro _ a w ⟨g2, l2, S, rfl⟩ F; replace S : St g2 [c4, [bx b1 #[.i6 y1.2.Code, .i6 y1.2.Index] 24], c1] fr w := S
  refine wE (ev_assign rfl) F S rfl fun a F=>?_
  refine wpList_nil ?_
  refine then_n ?_
  refine wp_ret ?_
  refine then_r ?_
  obtain rfl := sinj hm
  refine post_r _ F rfl (ar_cons (resT rfl) ar_nil) ?_
  replace S : St g2 [] fr w := St.tail [] _ S
  exact ⟨_, rfl, g2, (l1.trans l2), S, rfl⟩
 ·refine wp_condF F rfl hc3 ?_
  refine wp_skip ?_
  refine then_n ?_
  refine wp_cut (fun a w => ∃ (g3 : Gh), Fr 60 a [] ∧ Le g1 g3 ∧ St g3 [] fr w ∧ changeforgelaw2_MultivalueCovers.j1 = some r) ?_ ?_
  ·refine wp_seq ?_
   refine wp_region_lit ?_
   refine wE (ev_assign rfl) F S rfl fun a F=>?_
   refine wpList_nil ?_
   refine then_n ?_
   refine wp_block ?_
   obtain ⟨r1, hr3, hm⟩ := bind_some hm
   have hmo1 := hm; clear hm
   refine wp_iter (σ := Int) (ρ := Bool ⊕ Unit) (m := fun s => changeforgelaw2_MultivalueCovers.l1 i_ y1 y3 s) (I := fun x3 a w => ∃ (g4 : Gh), Fr 60 a [(10, .i6 x3), (9, v4), (7, v1), (2, .i6 i_)] ∧ Le g1 g4 ∧ St g4 [c4, c1] fr w) hr3 ?_ ?_
   ·replace S : St g1 [c4, c1] fr w := St.tail [c4, c1] _ ((S.frontC 2 rfl).frontC 1 rfl)
    exact ⟨g1, F.sub ⟨rfl, rfl, rfl, rfl, trivial⟩, (Le.refl _), S⟩
   ·clear F S; rintro x3 a w x4 ⟨g4, F, l4, S⟩ hx3 hfin1
    have hm : changeforgelaw2_MultivalueCovers.l1 i_ y1 y3 x3 = some x4 := hx3; clear hx3
    unfold changeforgelaw2_MultivalueCovers.l1 at hm
    refine wp_seq ?_
    refine wp_seq ?_
    refine wp_region_lit ?_
    refine wE (ev_move rfl) F S rfl fun a F=>?_
    refine wE (ev_move rfl) F S rfl fun a F=>?_
    refine wE (ev_lenOw h1 rfl tu22) F S rfl fun a F=>?_
    refine wE (ev_int rfl rfl (bo_lss _ _ _ _)) F S rfl fun a F=>?_
    refine wpList_nil ?_
    refine then_n ?_
    obtain ⟨hc4, hm⟩ | ⟨hc4, hm⟩ := ite_or hm
    ·refine wp_condT F rfl hc4 ?_
     refine wp_skip ?_
     refine then_n ?_
     refine wp_seq ?_
     refine wp_block ?_
     refine wp_seq ?_
     refine wp_quiet mo (by kernel_rfl) S ?_
     refine wq_ev (wn rfl) (ev_move rfl) F rfl rfl ?_; clear F a; intro a F
     refine wq_ev (wn rfl) (ev_move rfl) F rfl rfl ?_; clear F a; intro a F
     obtain ⟨y5, hy5, hm⟩ := bind_some hm
     refine wq_ev (wn rfl) (ev_idxO (h1.mono l4) hy5 tu22 ts35 rfl rfl) F rfl rfl ?_; clear F a; intro a F
     refine wq_ev (wn rfl) (ev_fieldAddr' tu35 tf35_1 (z := 0) ts33 rfl (elemO_ptr (h1.mono l4) hy5) rfl) F rfl rfl ?_; clear F a; intro a F
     obtain ⟨cs3, hr4, hq1⟩ := elemO (h1.mono l4) hy5
     obtain ⟨v5, rfl, h5⟩ := rep_VersionedValue hr4
     refine wq_ev (wn rfl) (ev_load1 tu33 rfl rfl (fun w s => fieldP (cells := [v5]) 1 (hq1 _ _ 1 rfl w s) rfl (lb rfl))) F rfl rfl ?_; clear F a; intro a F
     refine wq_ev (wn rfl) (ev_move rfl) F rfl rfl ?_; clear F a; intro a F
     refine wq_ev (wn rfl) (ev_move rfl) F rfl rfl ?_; clear F a; intro a F
     obtain ⟨y6, hy6, hm⟩ := bind_some hm
     refine wq_ev (wn rfl) (ev_idxO (h4.mono l4) hy6 tu22 ts35 rfl rfl) F rfl rfl ?_; clear F a; intro a F
     refine wq_ev (wn rfl) (ev_fieldAddr' tu35 tf35_1 (z := 0) ts33 rfl (elemO_ptr (h4.mono l4) hy6) rfl) F rfl rfl ?_; clear F a; intro a F
     obtain ⟨cs4, hr5, hq2⟩ := elemO (h4.mono l4) hy6
     obtain ⟨v6, rfl, h6⟩ := rep_VersionedValue hr5
     refine wq_ev (wn rfl) (ev_load1 tu33 rfl rfl (fun w s => fieldP (cells := [v6]) 1 (hq2 _ _ 0 rfl w s) rfl (lb rfl))) F rfl rfl ?_; clear F a; intro a F
     obtain ⟨y7, hy7, hm⟩ := bind_some hm
     refine wq_call (wn rfl) rfl (xs := [.tmp 49, .tmp 54]) (vs := [v5, v6]) (cap := []) F rfl rfl tc17 (v := .tuple #[.bool y7.1, .bool y7.2]) (fun w S => (changeforgeref2_Relation_ok (g := g4) (fr := (fl [c4, c1] fr)) (w := w) y5.Vector v5 h5 y6.Vector v6 h6 S hy7).mono (by rintro en w' ⟨_, rfl, g2, l2, S2, rfl⟩; exact ⟨rfl, S2.weak l2⟩)) rfl rfl ?_; clear F a; intro a F
     refine wq_ev (wn rfl) (ev_move rfl) F rfl rfl ?_; clear F a; intro a F
     refine wq_ev (wn rfl) (ev_extract rfl rfl) F rfl rfl ?_; clear F a; intro a F
     refine wq_ev (wn rfl) (ev_extract rfl rfl) F rfl rfl ?_; clear F a; intro a F
     refine wq_ev (wn rfl) (ev_assign rfl) F rfl rfl ?_; clear F a; intro a F
     refine wq_ev (wn rfl) (ev_assign rfl) F rfl rfl ?_; clear F a; intro a F
     refine wq_nil ?_; clear S; intro w S
     refine then_n ?_
     refine wp_seq ?_
     refine wp_region_lit ?_
     refine wE (ev_move rfl) F S rfl fun a F=>?_
     refine wpList_nil ?_
     refine then_n ?_
     obtain ⟨hc5, hm⟩ | ⟨hc5, hm⟩ := ite_or hm
     ·refine wp_condT F rfl hc5 ?_
      refine wp_seq ?_
      refine wp_region_lit ?_
      obtain ⟨y8, hy8, hm⟩ := bind_some hm
      refine wl_call0 (wn rfl) rfl F rfl (changeforgelaw2_first_ok (fr := (fl [c4, c1] fr))  S hy8) rfl tc16 rfl rfl ?_; clear F a S
      rintro _ a w ⟨g6, l6, S, rfl⟩ F; replace S : St g6 [c4, c1] fr w := S
      refine wE (ev_assign rfl) F S rfl fun a F=>?_
      refine wpList_nil ?_
      refine then_n ?_
      refine wp_ret ?_
      refine inb_r ?_
      refine then_r ?_
      refine then_r ?_
      refine inb_r ?_
      refine then_r ?_
      obtain rfl := sinj hm
      obtain rfl := hfin1 _ rfl
      clear hm
      have hm : (some y8 : Option Bool) = some _ := hmo1
      obtain rfl := sinj hm
      refine post_r _ F rfl (ar_cons (resT rfl) ar_nil) ?_
      replace S : St g6 [] fr w := St.tail [] _ S
      exact ⟨_, rfl, g6, ((l1.trans l4).trans l6), S, rfl⟩
     ·refine wp_condF F rfl hc5 ?_
      refine wp_skip ?_
      refine inb_n ?_
      refine then_n ?_
      refine wp_region_lit ?_
      refine wE (ev_move rfl) F S rfl fun a F=>?_
      obtain ⟨z1, hz1, hm⟩ := bind_some hm
      refine wE (ev_int rfl rfl (bo_add hz1)) F S rfl fun a F=>?_
      refine wE (ev_assign rfl) F S rfl fun a F=>?_
      refine wpList_nil ?_
      refine then_n ?_
      obtain rfl := sinj hm
      refine ⟨_, rfl, ?_⟩
      exact ⟨g4, F.sub ⟨rfl, rfl, rfl, rfl, trivial⟩, l4, S⟩
    ·refine wp_condF F rfl hc4 ?_
     refine wp_exit ?_
     refine then_e ?_
     refine then_e ?_
     refine inb_x ?_
     refine then_n ?_
     obtain rfl := sinj hm
     obtain rfl := hfin1 _ rfl
     clear hm
     have hm : (changeforgelaw2_MultivalueCovers.j1 : Option Bool) = some _ := hmo1
     replace S : St g4 [] fr w := St.tail [] _ S
     exact ⟨g4, F.sub trivial, l4, S, hm⟩
  ·clear F S hm; rintro a w ⟨g3, F, l3, S, hm⟩
   refine wp_seq ?_
   refine wp_region_lit ?_
   refine wE (ev_assign rfl) F S rfl fun a F=>?_
   refine wpList_nil ?_
   refine then_n ?_
   refine wp_ret ?_
   obtain rfl := sinj hm
   refine post_r _ F rfl (ar_cons (resT rfl) ar_nil) ?_
   exact ⟨_, rfl, g3, (l1.trans l3), S, rfl⟩
end Go.Dc
