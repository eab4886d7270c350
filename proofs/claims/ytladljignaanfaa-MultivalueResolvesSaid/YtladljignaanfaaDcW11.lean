/- Walks: each function comes to what its model says. -/
import Derived.Test.YtladljignaanfaaDcTab
import Derived.Test.YtladljignaanfaaDcM
import Derived.Test.YtladljignaanfaaDcW1
import Derived.Test.YtladljignaanfaaDcW4
namespace Go.Dc
open Go Go.Proofs
set_option maxRecDepth 100000
set_option maxHeartbeats 4000000
set_option linter.unusedVariables false
theorem changeforgelaw2_MultivalueResolves_ok {g : Gh} {fr : Hl} {w : World} {r : Bool} (a_ : (List VersionedValue)) (va_1 : Value) (ha_1 : RepSl g a_ va_1) (b_ : (List VersionedValue)) (vb_1 : Value) (hb_1 : RepSl g b_ vb_1) (replica : Int) (value : Int) (S : St g [] fr w) (hm : changeforgelaw2_MultivalueResolves a_ b_ replica value = some r) :
  Calls Try.prog 8 [va_1, vb_1, .i6 replica, .i6 value].toArray w (fun en w' => ∃ v, en = .returned v ∧ ∃ (g' : Gh), Le g g' ∧ St g' [] fr w' ∧ .bool r = v) := by
 unfold changeforgelaw2_MultivalueResolves at hm
 refine calls_enter (fn := Try.f8) Try.func8 rfl Try.ntmps8 (lb rfl) ?_
 intro a F
 replace F : Fr 72 a [(0, va_1), (1, vb_1), (2, .i6 replica), (3, .i6 value)] := F
 refine wp_seq ?_
 refine wp_region_lit ?_
 refine wE (ev_assign rfl) F S rfl fun a F=>?_
 refine wpList_nil ?_
 refine then_n ?_
 refine wp_seq ?_
 refine wp_region_lit ?_
 refine wE (ev_move rfl) F S rfl fun a F=>?_
 refine wE (ev_move rfl) F S rfl fun a F=>?_
 obtain ⟨y1, hy1, hm⟩ := bind_some hm
 refine wl_call0 (wn rfl) rfl F rfl (multivalue_Merge_ok a_ va_1 ha_1 b_ vb_1 hb_1 S hy1) rfl tc11 rfl rfl ?_; clear F a S
 rintro _ a w ⟨g1, v1, c1, l1, S, h1, rfl⟩ F; replace S : St g1 [c1] fr w := S
 refine wE (ev_move rfl) F S rfl fun a F=>?_
 refine wE (ev_extract rfl rfl) F S rfl fun a F=>?_
 refine wE (ev_extract rfl rfl) F S rfl fun a F=>?_
 refine wl_alloc (wn rfl) rfl tz24 (cs := [.i6 0, .i6 0]) rfl F S rfl rfl ?_; clear F a S; rintro b1 a w F S
 refine wE (ev_assign rfl) F S rfl fun a F=>?_
 refine wl_storeC (wn rfl) rfl F S rfl rfl (vs := [.i6 y1.2.Code, .i6 y1.2.Index]) rfl ts24 (one_cons rfl (one_cons rfl one_nil)) (k := 0) rfl (lb rfl) (c' := #[.i6 y1.2.Code, .i6 y1.2.Index]) rfl rfl ?_; clear S; intro w S
 refine wpList_nil ?_
 refine then_n ?_
 refine wp_seq ?_
 refine wp_region_lit ?_
 refine wE (ev_move rfl) F S rfl fun a F=>?_
 refine wE (ev_move rfl) F S rfl fun a F=>?_
 refine wE (ev_move rfl) F S rfl fun a F=>?_
 obtain ⟨g2, l2, S, h2⟩ : ∃ gz, Le g1 gz ∧ St gz [[bx b1 #[.i6 y1.2.Code, .i6 y1.2.Index] 24]] fr w ∧ RepSl gz y1.1 v1 := ⟨_, Le.add _ _, S.freeze 1 rfl, OwnS.freeze (S.front 1 rfl) h1⟩
 obtain ⟨y2, hy2, hm⟩ := bind_some hm
 refine wl_call0 (wn rfl) rfl F rfl (multivalue_Write_ok (fr := (fl [[bx b1 #[.i6 y1.2.Code, .i6 y1.2.Index] 24]] fr)) y1.1 v1 h2 replica value S hy2) rfl tc9 rfl rfl ?_; clear F a S
 rintro _ a w ⟨g3, v2, c2, l3, S, h3, rfl⟩ F; replace S : St g3 [c2, [bx b1 #[.i6 y1.2.Code, .i6 y1.2.Index] 24]] fr w := S
 refine wE (ev_move rfl) F S rfl fun a F=>?_
 refine wE (ev_extract rfl rfl) F S rfl fun a F=>?_
 refine wE (ev_extract rfl rfl) F S rfl fun a F=>?_
 refine wl_alloc (wn rfl) rfl tz24 (cs := [.i6 0, .i6 0]) rfl F S rfl rfl ?_; clear F a S; rintro b2 a w F S
 refine wE (ev_assign rfl) F S rfl fun a F=>?_
 refine wl_storeC (wn rfl) rfl F S rfl rfl (vs := [.i6 y2.2.Code, .i6 y2.2.Index]) rfl ts24 (one_cons rfl (one_cons rfl one_nil)) (k := 0) rfl (lb rfl) (c' := #[.i6 y2.2.Code, .i6 y2.2.Index]) rfl rfl ?_; clear S; intro w S
 refine wpList_nil ?_
 refine then_n ?_
 refine wp_seq ?_
 refine wp_seq ?_
 refine wp_region_lit ?_
 refine wE (ev_fieldAddr' tu24 tf24_0 (z := 0) ts3 rfl ⟨_, rfl⟩ rfl) F S rfl fun a F=>?_
 refine wE (ev_load1 tu3 rfl rfl (box_ptr (cells := [.i6 y1.2.Code]) 2 rfl 0 rfl (lb rfl))) F S rfl fun a F=>?_
 refine wE (ev_int rfl rfl (bo_neq _ _ _ _)) F S rfl fun a F=>?_
 refine wE (ev_move rfl) F S rfl fun a F=>?_
 obtain ⟨x1, hx1, hm⟩ := bind_some hm
 refine wl_cut 4 (fun a w' => w = w' ∧ Fr 72 a [(37, .bool x1), (11, v2), (0, va_1), (1, vb_1)]) ?_ ?_
 ·clear hm; obtain ⟨hc1, hm⟩ | ⟨hc1, hm⟩ := ite_or hx1
  ·refine wl_skip rfl rfl rfl rfl (ne_ft hc1) F rfl rfl ?_; clear F a; intro a F
   refine wl_skip rfl rfl rfl rfl (ne_ft hc1) F rfl rfl ?_; clear F a; intro a F
   refine wl_skip rfl rfl rfl rfl (ne_ft hc1) F rfl rfl ?_; clear F a; intro a F
   refine wE (ev_pickT rfl hc1 rfl) F S rfl fun a F=>?_
   obtain rfl := sinj hm
   refine wpList_nil (then_n ?_); exact ⟨rfl, F.sub ⟨rfl, rfl, rfl, rfl, trivial⟩⟩
  ·refine wl_ev (wg F rfl rfl rfl rfl hc1) (ev_fieldAddr' tu24 tf24_0 (z := 0) ts3 rfl ⟨_, rfl⟩ rfl) F S rfl rfl ?_; clear F a; intro a F
   refine wl_ev (wg F rfl rfl rfl rfl hc1) (ev_load1 tu3 rfl rfl (box_ptr (cells := [.i6 y2.2.Code]) 0 rfl 0 rfl (lb rfl))) F S rfl rfl ?_; clear F a; intro a F
   refine wl_ev (wg F rfl rfl rfl rfl hc1) (ev_int rfl rfl (bo_neq _ _ _ _)) F S rfl rfl ?_; clear F a; intro a F
   refine wE (ev_pickF rfl hc1 rfl) F S rfl fun a F=>?_
   obtain rfl := sinj hm
   refine wpList_nil (then_n ?_); exact ⟨rfl, F.sub ⟨rfl, rfl, rfl, rfl, trivial⟩⟩
 clear F; rintro a w' ⟨rfl, F⟩
 refine wpList_nil ?_
 refine then_n ?_
 obtain ⟨hc2, hm⟩ | ⟨hc2, hm⟩ := ite_or hm
 ·refine wp_condT F rfl hc2 ?_
  refine wp_seq ?_
  refine wp_region_lit ?_
  obtain ⟨y3, hy3, hm⟩ := bind_some hm
  refine wl_call0 (wn rfl) rfl F rfl (changeforgelaw2_first_ok (fr := (fl [[bx b2 #[.i6 y2.2.Code, .i6 y2.2.Index] 24], c2, [bx b1 #[.i6 y1.2.Code, .i6 y1.2.Index] 24]] fr))  S hy3) rfl tc16 rfl rfl ?_; clear F a S
  rintro _ a w ⟨g4, l4, S, rfl⟩ F; replace S : St g4 [[bx b2 #[.i6 y2.2.Code, .i6 y2.2.Index] 24], c2, [bx b1 #[.i6 y1.2.Code, .i6 y1.2.Index] 24]] fr w := S
  refine wE (ev_assign rfl) F S rfl fun a F=>?_
  refine wpList_nil ?_
  refine then_n ?_
  refine wp_ret ?_
  refine then_r ?_
  obtain rfl := sinj hm
  refine post_r _ F rfl (ar_cons (resT rfl) ar_nil) ?_
  replace S : St g4 [] fr w := St.tail [] _ S
  exact ⟨_, rfl, g4, (((l1.trans l2).trans l3).trans l4), S, rfl⟩
 ·refine wp_condF F rfl hc2 ?_
  refine wp_skip ?_
  refine then_n ?_
  refine wp_seq ?_
  refine wp_region_lit ?_
  refine wE (ev_move rfl) F S rfl fun a F=>?_
  refine wE (ev_move rfl) F S rfl fun a F=>?_
  obtain ⟨g5, l5, S, h4⟩ : ∃ gz, Le g3 gz ∧ St gz [[bx b2 #[.i6 y2.2.Code, .i6 y2.2.Index] 24], [bx b1 #[.i6 y1.2.Code, .i6 y1.2.Index] 24]] fr w ∧ RepSl gz y2.1 v2 := ⟨_, Le.add _ _, S.freeze 1 rfl, OwnS.freeze (S.front 1 rfl) h3⟩
  obtain ⟨y4, hy4, hm⟩ := bind_some hm
  refine wl_call0 (wn rfl) rfl F rfl (multivalue_Merge_ok (fr := (fl [[bx b2 #[.i6 y2.2.Code, .i6 y2.2.Index] 24], [bx b1 #[.i6 y1.2.Code, .i6 y1.2.Index] 24]] fr)) y2.1 v2 h4 a_ va_1 (ha_1.mono (((l1.trans l2).trans l3).trans l5)) S hy4) rfl tc11 rfl rfl ?_; clear F a S
  rintro _ a w ⟨g6, v3, c3, l6, S, h5, rfl⟩ F; replace S : St g6 [c3, [bx b2 #[.i6 y2.2.Code, .i6 y2.2.Index] 24], [bx b1 #[.i6 y1.2.Code, .i6 y1.2.Index] 24]] fr w := S
  refine wE (ev_move rfl) F S rfl fun a F=>?_
  refine wE (ev_extract rfl rfl) F S rfl fun a F=>?_
  refine wE (ev_extract rfl rfl) F S rfl fun a F=>?_
  refine wl_alloc (wn rfl) rfl tz24 (cs := [.i6 0, .i6 0]) rfl F S rfl rfl ?_; clear F a S; rintro b3 a w F S
  refine wE (ev_assign rfl) F S rfl fun a F=>?_
  refine wl_storeC (wn rfl) rfl F S rfl rfl (vs := [.i6 y4.2.Code, .i6 y4.2.Index]) rfl ts24 (one_cons rfl (one_cons rfl one_nil)) (k := 0) rfl (lb rfl) (c' := #[.i6 y4.2.Code, .i6 y4.2.Index]) rfl rfl ?_; clear S; intro w S
  refine wpList_nil ?_
  refine then_n ?_
  refine wp_seq ?_
  refine wp_region_lit ?_
  refine wE (ev_move rfl) F S rfl fun a F=>?_
  refine wE (ev_move rfl) F S rfl fun a F=>?_
  obtain ⟨y5, hy5, hm⟩ := bind_some hm
  refine wl_call0 (wn rfl) rfl F rfl (multivalue_Merge_ok (fr := (fl [[bx b3 #[.i6 y4.2.Code, .i6 y4.2.Index] 24], c3, [bx b2 #[.i6 y2.2.Code, .i6 y2.2.Index] 24], [bx b1 #[.i6 y1.2.Code, .i6 y1.2.Index] 24]] fr)) b_ vb_1 (hb_1.mono ((((l1.trans l2).trans l3).trans l5).trans l6)) y2.1 v2 (h4.mono l6) S hy5) rfl tc11 rfl rfl ?_; clear F a S
  rintro _ a w ⟨g7, v4, c4, l7, S, h6, rfl⟩ F; replace S : St g7 [c4, [bx b3 #[.i6 y4.2.Code, .i6 y4.2.Index] 24], c3, [bx b2 #[.i6 y2.2.Code, .i6 y2.2.Index] 24], [bx b1 #[.i6 y1.2.Code, .i6 y1.2.Index] 24]] fr w := S
  refine wE (ev_move rfl) F S rfl fun a F=>?_
  refine wE (ev_extract rfl rfl) F S rfl fun a F=>?_
  refine wE (ev_extract rfl rfl) F S rfl fun a F=>?_
  refine wl_alloc (wn rfl) rfl tz24 (cs := [.i6 0, .i6 0]) rfl F S rfl rfl ?_; clear F a S; rintro b4 a w F S
  refine wE (ev_assign rfl) F S rfl fun a F=>?_
  refine wl_storeC (wn rfl) rfl F S rfl rfl (vs := [.i6 y5.2.Code, .i6 y5.2.Index]) rfl ts24 (one_cons rfl (one_cons rfl one_nil)) (k := 0) rfl (lb rfl) (c' := #[.i6 y5.2.Code, .i6 y5.2.Index]) rfl rfl ?_; clear S; intro w S
  refine wpList_nil ?_
  refine then_n ?_
  refine wp_seq ?_
  refine wp_region_lit ?_
  refine wE (ev_fieldAddr' tu24 tf24_0 (z := 0) ts3 rfl ⟨_, rfl⟩ rfl) F S rfl fun a F=>?_
  refine wE (ev_load1 tu3 rfl rfl (box_ptr (cells := [.i6 y4.2.Code]) 2 rfl 0 rfl (lb rfl))) F S rfl fun a F=>?_
  refine wE (ev_int rfl rfl (bo_eql _ _ _ _)) F S rfl fun a F=>?_
  refine wE (ev_move rfl) F S rfl fun a F=>?_
  obtain ⟨x2, hx2, hm⟩ := bind_some hm
  refine wl_cut 4 (fun a w' => w = w' ∧ Fr 72 a [(58, .bool x2), (15, v4), (13, v3), (11, v2)]) ?_ ?_
  ·clear hm; obtain ⟨hc3, hm⟩ | ⟨hc3, hm⟩ := ite_or hx2
   ·refine wl_ev (wg F rfl rfl rfl rfl hc3) (ev_fieldAddr' tu24 tf24_0 (z := 0) ts3 rfl ⟨_, rfl⟩ rfl) F S rfl rfl ?_; clear F a; intro a F
    refine wl_ev (wg F rfl rfl rfl rfl hc3) (ev_load1 tu3 rfl rfl (box_ptr (cells := [.i6 y5.2.Code]) 0 rfl 0 rfl (lb rfl))) F S rfl rfl ?_; clear F a; intro a F
    refine wl_ev (wg F rfl rfl rfl rfl hc3) (ev_int rfl rfl (bo_eql _ _ _ _)) F S rfl rfl ?_; clear F a; intro a F
    refine wE (ev_pickT rfl hc3 rfl) F S rfl fun a F=>?_
    obtain rfl := sinj hm
    refine wpList_nil (then_n ?_); exact ⟨rfl, F.sub ⟨rfl, rfl, rfl, rfl, trivial⟩⟩
   ·refine wl_skip rfl rfl rfl rfl (ne_tf hc3) F rfl rfl ?_; clear F a; intro a F
    refine wl_skip rfl rfl rfl rfl (ne_tf hc3) F rfl rfl ?_; clear F a; intro a F
    refine wl_skip rfl rfl rfl rfl (ne_tf hc3) F rfl rfl ?_; clear F a; intro a F
    refine wE (ev_pickF rfl hc3 rfl) F S rfl fun a F=>?_
    obtain rfl := sinj hm
    refine wpList_nil (then_n ?_); exact ⟨rfl, F.sub ⟨rfl, rfl, rfl, rfl, trivial⟩⟩
  clear F; rintro a w' ⟨rfl, F⟩
  refine wE (ev_move rfl) F S rfl fun a F=>?_
  obtain ⟨g8, l8, S, h7⟩ : ∃ gz, Le g7 gz ∧ St gz [[bx b4 #[.i6 y5.2.Code, .i6 y5.2.Index] 24], c4, [bx b3 #[.i6 y4.2.Code, .i6 y4.2.Index] 24], [bx b2 #[.i6 y2.2.Code, .i6 y2.2.Index] 24], [bx b1 #[.i6 y1.2.Code, .i6 y1.2.Index] 24]] fr w ∧ RepSl gz y4.1 v3 := ⟨_, Le.add _ _, S.freeze 3 rfl, OwnS.freeze (S.front 3 rfl) (h5.mono l7)⟩
  obtain ⟨x3, hx3, hm⟩ := bind_some hm
  refine wl_cut 4 (fun a w => ∃ g9, Fr 72 a [(63, .bool x3), (15, v4), (11, v2)] ∧ Le g8 g9 ∧ St g9 [[bx b4 #[.i6 y5.2.Code, .i6 y5.2.Index] 24], c4, [bx b3 #[.i6 y4.2.Code, .i6 y4.2.Index] 24], [bx b2 #[.i6 y2.2.Code, .i6 y2.2.Index] 24], [bx b1 #[.i6 y1.2.Code, .i6 y1.2.Index] 24]] fr w) ?_ ?_
  ·clear hm; obtain ⟨hc4, hm⟩ | ⟨hc4, hm⟩ := ite_or hx3
   ·refine wl_ev (wg F rfl rfl rfl rfl hc4) (ev_move rfl) F S rfl rfl ?_; clear F a; intro a F
    refine wl_ev (wg F rfl rfl rfl rfl hc4) (ev_move rfl) F S rfl rfl ?_; clear F a; intro a F
    obtain ⟨y6, hy6, hm⟩ := bind_some hm
    refine wl_call0 (wg F rfl rfl rfl rfl hc4) rfl F rfl (changeforgeequal_Values_ok (fr := (fl [[bx b4 #[.i6 y5.2.Code, .i6 y5.2.Index] 24], c4, [bx b3 #[.i6 y4.2.Code, .i6 y4.2.Index] 24], [bx b2 #[.i6 y2.2.Code, .i6 y2.2.Index] 24], [bx b1 #[.i6 y1.2.Code, .i6 y1.2.Index] 24]] fr)) y4.1 v3 h7 y2.1 v2 (h4.mono ((l6.trans l7).trans l8)) S hy6) rfl tc15 rfl rfl ?_; clear F a S
    rintro _ a w ⟨g10, l10, S, rfl⟩ F; replace S : St g10 [[bx b4 #[.i6 y5.2.Code, .i6 y5.2.Index] 24], c4, [bx b3 #[.i6 y4.2.Code, .i6 y4.2.Index] 24], [bx b2 #[.i6 y2.2.Code, .i6 y2.2.Index] 24], [bx b1 #[.i6 y1.2.Code, .i6 y1.2.Index] 24]] fr w := S
    refine wE (ev_pickT rfl hc4 rfl) F S rfl fun a F=>?_
    obtain rfl := sinj hm
    refine wpList_nil (then_n ?_); exact ⟨g10, F.sub ⟨rfl, rfl, rfl, trivial⟩, l10, S⟩
   ·refine wl_skip rfl rfl rfl rfl (ne_tf hc4) F rfl rfl ?_; clear F a; intro a F
    refine wl_skip rfl rfl rfl rfl (ne_tf hc4) F rfl rfl ?_; clear F a; intro a F
    refine wl_skip rfl rfl rfl rfl (ne_tf hc4) F rfl rfl ?_; clear F a; intro a F
    refine wE (ev_pickF rfl hc4 rfl) F S rfl fun a F=>?_
    obtain rfl := sinj hm
    refine wpList_nil (then_n ?_); exact ⟨g8, F.sub ⟨rfl, rfl, rfl, trivial⟩, (Le.refl _), S⟩
  clear F S; rintro a w ⟨g9, F, l9, S⟩
  refine wE (ev_move rfl) F S rfl fun a F=>?_
  obtain ⟨g11, l11, S, h8⟩ : ∃ gz, Le g9 gz ∧ St gz [[bx b4 #[.i6 y5.2.Code, .i6 y5.2.Index] 24], [bx b3 #[.i6 y4.2.Code, .i6 y4.2.Index] 24], [bx b2 #[.i6 y2.2.Code, .i6 y2.2.Index] 24], [bx b1 #[.i6 y1.2.Code, .i6 y1.2.Index] 24]] fr w ∧ RepSl gz y5.1 v4 := ⟨_, Le.add _ _, S.freeze 1 rfl, OwnS.freeze (S.front 1 rfl) (h6.mono (l8.trans l9))⟩
  obtain ⟨x4, hx4, hm⟩ := bind_some hm
  refine wl_cut 4 (fun a w => ∃ g12, Fr 72 a [(68, .bool x4)] ∧ Le g11 g12 ∧ St g12 [[bx b4 #[.i6 y5.2.Code, .i6 y5.2.Index] 24], [bx b3 #[.i6 y4.2.Code, .i6 y4.2.Index] 24], [bx b2 #[.i6 y2.2.Code, .i6 y2.2.Index] 24], [bx b1 #[.i6 y1.2.Code, .i6 y1.2.Index] 24]] fr w) ?_ ?_
  ·clear hm; obtain ⟨hc5, hm⟩ | ⟨hc5, hm⟩ := ite_or hx4
   ·refine wl_ev (wg F rfl rfl rfl rfl hc5) (ev_move rfl) F S rfl rfl ?_; clear F a; intro a F
    refine wl_ev (wg F rfl rfl rfl rfl hc5) (ev_move rfl) F S rfl rfl ?_; clear F a; intro a F
    obtain ⟨y7, hy7, hm⟩ := bind_some hm
    refine wl_call0 (wg F rfl rfl rfl rfl hc5) rfl F rfl (changeforgeequal_Values_ok (fr := (fl [[bx b4 #[.i6 y5.2.Code, .i6 y5.2.Index] 24], [bx b3 #[.i6 y4.2.Code, .i6 y4.2.Index] 24], [bx b2 #[.i6 y2.2.Code, .i6 y2.2.Index] 24], [bx b1 #[.i6 y1.2.Code, .i6 y1.2.Index] 24]] fr)) y5.1 v4 h8 y2.1 v2 (h4.mono ((((l6.trans l7).trans l8).trans l9).trans l11)) S hy7) rfl tc15 rfl rfl ?_; clear F a S
    rintro _ a w ⟨g13, l13, S, rfl⟩ F; replace S : St g13 [[bx b4 #[.i6 y5.2.Code, .i6 y5.2.Index] 24], [bx b3 #[.i6 y4.2.Code, .i6 y4.2.Index] 24], [bx b2 #[.i6 y2.2.Code, .i6 y2.2.Index] 24], [bx b1 #[.i6 y1.2.Code, .i6 y1.2.Index] 24]] fr w := S
    refine wE (ev_pickT rfl hc5 rfl) F S rfl fun a F=>?_
    obtain rfl := sinj hm
    refine wpList_nil (then_n ?_); exact ⟨g13, F.sub ⟨rfl, trivial⟩, l13, S⟩
   ·refine wl_skip rfl rfl rfl rfl (ne_tf hc5) F rfl rfl ?_; clear F a; intro a F
    refine wl_skip rfl rfl rfl rfl (ne_tf hc5) F rfl rfl ?_; clear F a; intro a F
    refine wl_skip rfl rfl rfl rfl (ne_tf hc5) F rfl rfl ?_; clear F a; intro a F
    refine wE (ev_pickF rfl hc5 rfl) F S rfl fun a F=>?_
    obtain rfl := sinj hm
    refine wpList_nil (then_n ?_); exact ⟨g11, F.sub ⟨rfl, trivial⟩, (Le.refl _), S⟩
  clear F S; rintro a w ⟨g12, F, l12, S⟩
  refine wE (ev_move rfl) F S rfl fun a F=>?_
  obtain ⟨x5, hx5, hm⟩ := bind_some hm
  refine wl_cut 2 (fun a w => ∃ g14, Fr 72 a [(71, .bool x5)] ∧ Le g12 g14 ∧ St g14 [[bx b4 #[.i6 y5.2.Code, .i6 y5.2.Index] 24], [bx b3 #[.i6 y4.2.Code, .i6 y4.2.Index] 24], [bx b2 #[.i6 y2.2.Code, .i6 y2.2.Index] 24], [bx b1 #[.i6 y1.2.Code, .i6 y1.2.Index] 24]] fr w) ?_ ?_
  ·clear hm; obtain ⟨hc6, hm⟩ | ⟨hc6, hm⟩ := ite_or hx5
   ·obtain ⟨y8, hy8, hm⟩ := bind_some hm
    refine wl_call0 (wg F rfl rfl rfl rfl hc6) rfl F rfl (changeforgelaw2_first_ok (fr := (fl [[bx b4 #[.i6 y5.2.Code, .i6 y5.2.Index] 24], [bx b3 #[.i6 y4.2.Code, .i6 y4.2.Index] 24], [bx b2 #[.i6 y2.2.Code, .i6 y2.2.Index] 24], [bx b1 #[.i6 y1.2.Code, .i6 y1.2.Index] 24]] fr))  S hy8) rfl tc16 rfl rfl ?_; clear F a S
    rintro _ a w ⟨g15, l15, S, rfl⟩ F; replace S : St g15 [[bx b4 #[.i6 y5.2.Code, .i6 y5.2.Index] 24], [bx b3 #[.i6 y4.2.Code, .i6 y4.2.Index] 24], [bx b2 #[.i6 y2.2.Code, .i6 y2.2.Index] 24], [bx b1 #[.i6 y1.2.Code, .i6 y1.2.Index] 24]] fr w := S
    refine wE (ev_pickT rfl hc6 rfl) F S rfl fun a F=>?_
    obtain rfl := sinj hm
    refine wpList_nil (then_n ?_); exact ⟨g15, F.sub ⟨rfl, trivial⟩, l15, S⟩
   ·refine wl_skip rfl rfl rfl rfl (ne_tf hc6) F rfl rfl ?_; clear F a; intro a F
    refine wE (ev_pickF rfl hc6 rfl) F S rfl fun a F=>?_
    obtain rfl := sinj hm
    refine wpList_nil (then_n ?_); exact ⟨g12, F.sub ⟨rfl, trivial⟩, (Le.refl _), S⟩
  clear F S; rintro a w ⟨g14, F, l14, S⟩
  refine wE (ev_assign rfl) F S rfl fun a F=>?_
  refine wpList_nil ?_
  refine then_n ?_
  refine wp_ret ?_
  obtain rfl := sinj hm
  refine post_r _ F rfl (ar_cons (resT rfl) ar_nil) ?_
  replace S : St g14 [] fr w := St.tail [] _ S
  exact ⟨_, rfl, g14, ((((((((((l1.trans l2).trans l3).trans l5).trans l6).trans l7).trans l8).trans l9).trans l11).trans l12).trans l14), S, rfl⟩
end Go.Dc
