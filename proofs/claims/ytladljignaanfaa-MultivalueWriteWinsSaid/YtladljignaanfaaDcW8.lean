/- Walks: each function comes to what its model says. -/
import Derived.Test.YtladljignaanfaaDcTab
import Derived.Test.YtladljignaanfaaDcM
import Derived.Test.YtladljignaanfaaDcW1
import Derived.Test.YtladljignaanfaaDcW4
namespace Go.Dc
open Go Go.Proofs
set_option maxRecDepth 100000
set_option maxHeartbeats 4000000
set_option linter.unusedVariables false
theorem changeforgelaw2_MultivalueWriteWins_ok {g : Gh} {fr : Hl} {w : World} {r : Bool} (a_ : (List VersionedValue)) (va_1 : Value) (ha_1 : RepSl g a_ va_1) (replica : Int) (value : Int) (S : St g [] fr w) (hm : changeforgelaw2_MultivalueWriteWins a_ replica value = some r) :
  Calls Try.prog 5 [va_1, .i6 replica, .i6 value].toArray w (fun en w' => ∃ v, en = .returned v ∧ ∃ (g' : Gh), Le g g' ∧ St g' [] fr w' ∧ .bool r = v) := by
 unfold changeforgelaw2_MultivalueWriteWins at hm
 refine calls_enter (fn := Try.f5) Try.func5 rfl Try.ntmps5 (lb rfl) ?_
 intro a F
 replace F : Fr 52 a [(0, va_1), (1, .i6 replica), (2, .i6 value)] := F
 refine wp_seq ?_
 refine wp_region_lit ?_
 refine wE (ev_assign rfl) F S rfl fun a F=>?_
 refine wpList_nil ?_
 refine then_n ?_
 refine wp_seq ?_
 refine wp_region_lit ?_
 refine wE (ev_move rfl) F S rfl fun a F=>?_
 refine wE (ev_move rfl) F S rfl fun a F=>?_
 refine wE (ev_move rfl) F S rfl fun a F=>?_
 obtain ⟨y1, hy1, hm⟩ := bind_some hm
 refine wl_call0 (wn rfl) rfl F rfl (multivalue_Write_ok a_ va_1 ha_1 replica value S hy1) rfl tc9 rfl rfl ?_; clear F a S
 rintro _ a w ⟨g1, v1, c1, l1, S, h1, rfl⟩ F; replace S : St g1 [c1] fr w := S
 refine wE (ev_move rfl) F S rfl fun a F=>?_
 refine wE (ev_extract rfl rfl) F S rfl fun a F=>?_
 refine wE (ev_extract rfl rfl) F S rfl fun a F=>?_
 refine wl_alloc (wn rfl) rfl tz24 (cs := [.i6 0, .i6 0]) rfl F S rfl rfl ?_; clear F a S; rintro b1 a w F S
 refine wE (ev_assign rfl) F S rfl fun a F=>?_
 refine wl_storeC (wn rfl) rfl F S rfl rfl (vs := [.i6 y1.2.Code, .i6 y1.2.Index]) rfl ts24 (one_cons rfl (one_cons rfl one_nil)) (k := 0) rfl (lb rfl) (c' := #[.i6 y1.2.Code, .i6 y1.2.Index]) rfl rfl ?_; clear S; intro w S
 refine wpList_nil ?_
 refine then_n ?_
 refine wp_seq ?_
 refine wp_seq ?_
 refine wp_region_lit ?_
 refine wE (ev_fieldAddr' tu24 tf24_0 (z := 0) ts3 rfl ⟨_, rfl⟩ rfl) F S rfl fun a F=>?_
 refine wE (ev_load1 tu3 rfl rfl (box_ptr (cells := [.i6 y1.2.Code]) 0 rfl 0 rfl (lb rfl))) F S rfl fun a F=>?_
 refine wE (ev_int rfl rfl (bo_neq _ _ _ _)) F S rfl fun a F=>?_
 refine wpList_nil ?_
 refine then_n ?_
 obtain ⟨hc1, hm⟩ | ⟨hc1, hm⟩ := ite_or hm
 ·refine wp_condT F rfl hc1 ?_
  refine wp_seq ?_
  refine wp_region_lit ?_
  obtain ⟨y2, hy2, hm⟩ := bind_some hm
  refine wl_call0 (wn rfl) rfl F rfl (changeforgelaw2_first_ok (fr := (fl [[bx b1 #[.i6 y1.2.Code, .i6 y1.2.Index] 24], c1] fr))  S hy2) rfl tc16 rfl rfl ?_; clear F a S
  rintro _ a w ⟨g2, l2, S, rfl⟩ F; replace S : St g2 [[bx b1 #[.i6 y1.2.Code, .i6 y1.2.Index] 24], c1] fr w := S
  refine wE (ev_assign rfl) F S rfl fun a F=>?_
  refine wpList_nil ?_
  refine then_n ?_
  refine wp_ret ?_
  refine then_r ?_
  obtain rfl := sinj hm
  refine post_r _ F rfl (ar_cons (resT rfl) ar_nil) ?_
  replace S : St g2 [] fr w := St.tail [] _ S
  exact ⟨_, rfl, g2, (l1.trans l2), S, rfl⟩
 ·refine wp_condF F rfl hc1 ?_
  refine wp_skip ?_
  refine then_n ?_
  refine wp_seq ?_
  refine wp_region_lit ?_
  refine wE (ev_move rfl) F S rfl fun a F=>?_
  refine wE (ev_move rfl) F S rfl fun a F=>?_
  obtain ⟨g3, l3, S, h2⟩ : ∃ gz, Le g1 gz ∧ St gz [[bx b1 #[.i6 y1.2.Code, .i6 y1.2.Index] 24]] fr w ∧ RepSl gz y1.1 v1 := ⟨_, Le.add _ _, S.freeze 1 rfl, OwnS.freeze (S.front 1 rfl) h1⟩
  obtain ⟨y3, hy3, hm⟩ := bind_some hm
  refine wl_call0 (wn rfl) rfl F rfl (multivalue_Merge_ok (fr := (fl [[bx b1 #[.i6 y1.2.Code, .i6 y1.2.Index] 24]] fr)) a_ va_1 (ha_1.mono (l1.trans l3)) y1.1 v1 h2 S hy3) rfl tc11 rfl rfl ?_; clear F a S
  rintro _ a w ⟨g4, v2, c2, l4, S, h3, rfl⟩ F; replace S : St g4 [c2, [bx b1 #[.i6 y1.2.Code, .i6 y1.2.Index] 24]] fr w := S
  refine wE (ev_move rfl) F S rfl fun a F=>?_
  refine wE (ev_extract rfl rfl) F S rfl fun a F=>?_
  refine wE (ev_extract rfl rfl) F S rfl fun a F=>?_
  refine wl_alloc (wn rfl) rfl tz24 (cs := [.i6 0, .i6 0]) rfl F S rfl rfl ?_; clear F a S; rintro b2 a w F S
  refine wE (ev_assign rfl) F S rfl fun a F=>?_
  refine wl_storeC (wn rfl) rfl F S rfl rfl (vs := [.i6 y3.2.Code, .i6 y3.2.Index]) rfl ts24 (one_cons rfl (one_cons rfl one_nil)) (k := 0) rfl (lb rfl) (c' := #[.i6 y3.2.Code, .i6 y3.2.Index]) rfl rfl ?_; clear S; intro w S
  refine wpList_nil ?_
  refine then_n ?_
  refine wp_seq ?_
  refine wp_region_lit ?_
  refine wE (ev_fieldAddr' tu24 tf24_0 (z := 0) ts3 rfl ⟨_, rfl⟩ rfl) F S rfl fun a F=>?_
  refine wE (ev_load1 tu3 rfl rfl (box_ptr (cells := [.i6 y3.2.Code]) 0 rfl 0 rfl (lb rfl))) F S rfl fun a F=>?_
  refine wE (ev_int rfl rfl (bo_eql _ _ _ _)) F S rfl fun a F=>?_
  refine wE (ev_move rfl) F S rfl fun a F=>?_
  obtain ⟨g5, l5, S, h4⟩ : ∃ gz, Le g4 gz ∧ St gz [[bx b2 #[.i6 y3.2.Code, .i6 y3.2.Index] 24], [bx b1 #[.i6 y1.2.Code, .i6 y1.2.Index] 24]] fr w ∧ RepSl gz y3.1 v2 := ⟨_, Le.add _ _, S.freeze 1 rfl, OwnS.freeze (S.front 1 rfl) h3⟩
  obtain ⟨x1, hx1, hm⟩ := bind_some hm
  refine wl_cut 4 (fun a w => ∃ g6, Fr 52 a [(35, .bool x1), (7, v1), (6, .bool false), (2, .i6 value)] ∧ Le g5 g6 ∧ St g6 [[bx b2 #[.i6 y3.2.Code, .i6 y3.2.Index] 24], [bx b1 #[.i6 y1.2.Code, .i6 y1.2.Index] 24]] fr w) ?_ ?_
  ·clear hm; obtain ⟨hc2, hm⟩ | ⟨hc2, hm⟩ := ite_or hx1
   ·refine wl_ev (wg F rfl rfl rfl rfl hc2) (ev_move rfl) F S rfl rfl ?_; clear F a; intro a F
    refine wl_ev (wg F rfl rfl rfl rfl hc2) (ev_move rfl) F S rfl rfl ?_; clear F a; intro a F
    obtain ⟨y4, hy4, hm⟩ := bind_some hm
    refine wl_call0 (wg F rfl rfl rfl rfl hc2) rfl F rfl (changeforgeequal_Values_ok (fr := (fl [[bx b2 #[.i6 y3.2.Code, .i6 y3.2.Index] 24], [bx b1 #[.i6 y1.2.Code, .i6 y1.2.Index] 24]] fr)) y3.1 v2 h4 y1.1 v1 (h2.mono (l4.trans l5)) S hy4) rfl tc15 rfl rfl ?_; clear F a S
    rintro _ a w ⟨g7, l7, S, rfl⟩ F; replace S : St g7 [[bx b2 #[.i6 y3.2.Code, .i6 y3.2.Index] 24], [bx b1 #[.i6 y1.2.Code, .i6 y1.2.Index] 24]] fr w := S
    refine wE (ev_pickT rfl hc2 rfl) F S rfl fun a F=>?_
    obtain rfl := sinj hm
    refine wpList_nil (then_n ?_); exact ⟨g7, F.sub ⟨rfl, rfl, rfl, rfl, trivial⟩, l7, S⟩
   ·refine wl_skip rfl rfl rfl rfl (ne_tf hc2) F rfl rfl ?_; clear F a; intro a F
    refine wl_skip rfl rfl rfl rfl (ne_tf hc2) F rfl rfl ?_; clear F a; intro a F
    refine wl_skip rfl rfl rfl rfl (ne_tf hc2) F rfl rfl ?_; clear F a; intro a F
    refine wE (ev_pickF rfl hc2 rfl) F S rfl fun a F=>?_
    obtain rfl := sinj hm
    refine wpList_nil (then_n ?_); exact ⟨g5, F.sub ⟨rfl, rfl, rfl, rfl, trivial⟩, (Le.refl _), S⟩
  clear F S; rintro a w ⟨g6, F, l6, S⟩
  refine wE (ev_move rfl) F S rfl fun a F=>?_
  obtain ⟨x2, hx2, hm⟩ := bind_some hm
  refine wl_cut 4 (fun a w' => w = w' ∧ Fr 52 a [(40, .bool x2), (7, v1), (6, .bool false), (2, .i6 value)]) ?_ ?_
  ·clear hm; obtain ⟨hc3, hm⟩ | ⟨hc3, hm⟩ := ite_or hx2
   ·refine wl_ev (wg F rfl rfl rfl rfl hc3) (ev_move rfl) F S rfl rfl ?_; clear F a; intro a F
    refine wl_ev (wg F rfl rfl rfl rfl hc3) (ev_lenSh h2 rfl tu22) F S rfl rfl ?_; clear F a; intro a F
    refine wl_ev (wg F rfl rfl rfl rfl hc3) (ev_int rfl rfl (bo_eql _ _ _ _)) F S rfl rfl ?_; clear F a; intro a F
    refine wE (ev_pickT rfl hc3 rfl) F S rfl fun a F=>?_
    obtain rfl := sinj hm
    refine wpList_nil (then_n ?_); exact ⟨rfl, F.sub ⟨rfl, rfl, rfl, rfl, trivial⟩⟩
   ·refine wl_skip rfl rfl rfl rfl (ne_tf hc3) F rfl rfl ?_; clear F a; intro a F
    refine wl_skip rfl rfl rfl rfl (ne_tf hc3) F rfl rfl ?_; clear F a; intro a F
    refine wl_skip rfl rfl rfl rfl (ne_tf hc3) F rfl rfl ?_; clear F a; intro a F
    refine wE (ev_pickF rfl hc3 rfl) F S rfl fun a F=>?_
    obtain rfl := sinj hm
    refine wpList_nil (then_n ?_); exact ⟨rfl, F.sub ⟨rfl, rfl, rfl, rfl, trivial⟩⟩
  clear F; rintro a w' ⟨rfl, F⟩
  refine wE (ev_move rfl) F S rfl fun a F=>?_
  obtain ⟨x3, hx3, hm⟩ := bind_some hm
  refine wl_cut 7 (fun a w' => w = w' ∧ Fr 52 a [(48, .bool x3), (6, .bool false)]) ?_ ?_
  ·clear hm; obtain ⟨hc4, hm⟩ | ⟨hc4, hm⟩ := ite_or hx3
   ·refine wl_ev (wg F rfl rfl rfl rfl hc4) (ev_move rfl) F S rfl rfl ?_; clear F a; intro a F
    obtain ⟨y5, hy5, hm⟩ := bind_some hm
    obtain ⟨cs1, hr1, hp1⟩ := elemS (h2.mono ((l4.trans l5).trans l6)) hy5
    obtain ⟨v3, rfl, h5⟩ := rep_VersionedValue hr1
    refine wl_ev (wg F rfl rfl rfl rfl hc4) (ev_idxS (h2.mono ((l4.trans l5).trans l6)) hy5 tu22 ts35 rfl rfl) F S rfl rfl ?_; clear F a; intro a F
    have hp2 := PtrC.field hp1 0 1 (lb rfl)
    have hp2 : PtrC g6 (addP (elemP v1 0 2) 0) [.i6 y5.Value] := hp2
    refine wl_ev (wg F rfl rfl rfl rfl hc4) (ev_fieldAddr' tu35 tf35_0 (z := 0) ts3 rfl hp1.ptr rfl) F S rfl rfl ?_; clear F a; intro a F
    refine wl_ev (wg F rfl rfl rfl rfl hc4) (ev_load1 tu3 rfl rfl (ptr_mono (cks := [[bx b2 #[.i6 y3.2.Code, .i6 y3.2.Index] 24], [bx b1 #[.i6 y1.2.Code, .i6 y1.2.Index] 24]]) (fr := fr) hp2 (Le.refl _))) F S rfl rfl ?_; clear F a; intro a F
    refine wl_ev (wg F rfl rfl rfl rfl hc4) (ev_move rfl) F S rfl rfl ?_; clear F a; intro a F
    refine wl_ev (wg F rfl rfl rfl rfl hc4) (ev_int rfl rfl (bo_eql _ _ _ _)) F S rfl rfl ?_; clear F a; intro a F
    refine wE (ev_pickT rfl hc4 rfl) F S rfl fun a F=>?_
    obtain rfl := sinj hm
    refine wpList_nil (then_n ?_); exact ⟨rfl, F.sub ⟨rfl, rfl, trivial⟩⟩
   ·refine wl_skip rfl rfl rfl rfl (ne_tf hc4) F rfl rfl ?_; clear F a; intro a F
    refine wl_skip rfl rfl rfl rfl (ne_tf hc4) F rfl rfl ?_; clear F a; intro a F
    refine wl_skip rfl rfl rfl rfl (ne_tf hc4) F rfl rfl ?_; clear F a; intro a F
    refine wl_skip rfl rfl rfl rfl (ne_tf hc4) F rfl rfl ?_; clear F a; intro a F
    refine wl_skip rfl rfl rfl rfl (ne_tf hc4) F rfl rfl ?_; clear F a; intro a F
    refine wl_skip rfl rfl rfl rfl (ne_tf hc4) F rfl rfl ?_; clear F a; intro a F
    refine wE (ev_pickF rfl hc4 rfl) F S rfl fun a F=>?_
    obtain rfl := sinj hm
    refine wpList_nil (then_n ?_); exact ⟨rfl, F.sub ⟨rfl, rfl, trivial⟩⟩
  clear F; rintro a w' ⟨rfl, F⟩
  refine wE (ev_move rfl) F S rfl fun a F=>?_
  obtain ⟨x4, hx4, hm⟩ := bind_some hm
  refine wl_cut 2 (fun a w => ∃ g8, Fr 52 a [(51, .bool x4), (6, .bool false)] ∧ Le g6 g8 ∧ St g8 [[bx b2 #[.i6 y3.2.Code, .i6 y3.2.Index] 24], [bx b1 #[.i6 y1.2.Code, .i6 y1.2.Index] 24]] fr w) ?_ ?_
  ·clear hm; obtain ⟨hc5, hm⟩ | ⟨hc5, hm⟩ := ite_or hx4
   ·obtain ⟨y6, hy6, hm⟩ := bind_some hm
    refine wl_call0 (wg F rfl rfl rfl rfl hc5) rfl F rfl (changeforgelaw2_first_ok (fr := (fl [[bx b2 #[.i6 y3.2.Code, .i6 y3.2.Index] 24], [bx b1 #[.i6 y1.2.Code, .i6 y1.2.Index] 24]] fr))  S hy6) rfl tc16 rfl rfl ?_; clear F a S
    rintro _ a w ⟨g9, l9, S, rfl⟩ F; replace S : St g9 [[bx b2 #[.i6 y3.2.Code, .i6 y3.2.Index] 24], [bx b1 #[.i6 y1.2.Code, .i6 y1.2.Index] 24]] fr w := S
    refine wE (ev_pickT rfl hc5 rfl) F S rfl fun a F=>?_
    obtain rfl := sinj hm
    refine wpList_nil (then_n ?_); exact ⟨g9, F.sub ⟨rfl, rfl, trivial⟩, l9, S⟩
   ·refine wl_skip rfl rfl rfl rfl (ne_tf hc5) F rfl rfl ?_; clear F a; intro a F
    refine wE (ev_pickF rfl hc5 rfl) F S rfl fun a F=>?_
    obtain rfl := sinj hm
    refine wpList_nil (then_n ?_); exact ⟨g6, F.sub ⟨rfl, rfl, trivial⟩, (Le.refl _), S⟩
  clear F S; rintro a w ⟨g8, F, l8, S⟩
  refine wE (ev_assign rfl) F S rfl fun a F=>?_
  refine wpList_nil ?_
  refine then_n ?_
  refine wp_ret ?_
  obtain rfl := sinj hm
  refine post_r _ F rfl (ar_cons (resT rfl) ar_nil) ?_
  replace S : St g8 [] fr w := St.tail [] _ S
  exact ⟨_, rfl, g8, (((((l1.trans l3).trans l4).trans l5).trans l6).trans l8), S, rfl⟩
end Go.Dc
