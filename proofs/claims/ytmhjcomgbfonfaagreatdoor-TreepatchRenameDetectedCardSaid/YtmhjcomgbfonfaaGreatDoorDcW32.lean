/- Walks: each function comes to what its model says. -/
import Derived.Test.YtmhjcomgbfonfaaGreatDoorDcTab
import Derived.Test.YtmhjcomgbfonfaaGreatDoorDcM
import Derived.Test.YtmhjcomgbfonfaaGreatDoorDcW1
import Derived.Test.YtmhjcomgbfonfaaGreatDoorDcW20
import Derived.Test.YtmhjcomgbfonfaaGreatDoorDcW28
import Derived.Test.YtmhjcomgbfonfaaGreatDoorDcW4
namespace Go.Dc
open Go Go.Proofs
set_option maxRecDepth 100000
set_option maxHeartbeats 4000000
set_option linter.unusedVariables false
theorem changeforgelaw2_renamed_ok {g : Gh} {fr : Hl} {w : World} {r : Bool}  (S : St g [] fr w) (hm : changeforgelaw2_renamed = some r) :
  Calls Tryz.prog 27 [].toArray w (fun en w' => ∃ v, en = .returned v ∧ ∃ (g' : Gh), Le g g' ∧ St g' [] fr w' ∧ .bool r = v) := by
 unfold changeforgelaw2_renamed at hm
 refine calls_enter (fn := Tryz.f27) Tryz.func27 rfl Tryz.ntmps27 (lb rfl) ?_
 intro a F
 replace F : Fr 27 a [] := F
 refine wp_seq ?_
 refine wp_region_lit ?_
 refine wE (ev_assign rfl) F S rfl fun a F=>?_
 refine wpList_nil ?_
 refine then_n ?_
 refine wp_seq ?_
 refine wp_region_lit ?_
 refine wE (ev_build (parts := [(0, .const (.i6 3)), (1, .const (.string (⟨#[97]⟩ : ByteArray))), (2, .const (.string (⟨#[98]⟩ : ByteArray)))]) (vs := [(0, .i6 3), (1, .string (⟨#[97]⟩ : ByteArray)), (2, .string (⟨#[98]⟩ : ByteArray))]) rfl (fun w => tb51_0_1_2 3 (⟨#[97]⟩ : ByteArray) (⟨#[98]⟩ : ByteArray) w)) F S rfl fun a F=>?_
 obtain ⟨y1, hy1, hm⟩ := bind_some hm
 refine wl_call0 (wn rfl) rfl F rfl (changeforgelaw2_change_ok ({ Kind := 3, Path := (⟨#[97]⟩ : ByteArray), To := (⟨#[98]⟩ : ByteArray), Lines := [], Patch := ({ Hunks := [] } : Patch) } : TreeChange) (nilS) (RepSl.nil _) (nilS) (RepSl.nil _) S hy1) rfl tc19 rfl rfl ?_; clear F a S
 rintro _ a w ⟨g1, v1, c1, l1, S, h1, rfl⟩ F; replace S : St g1 [c1] fr w := S
 refine wl_lit (l := ([(⟨#[120]⟩ : ByteArray)] : List ByteArray)) (vs := [.string (⟨#[120]⟩ : ByteArray)]) (parts := [(0, .const (.string (⟨#[120]⟩ : ByteArray)))]) (wn rfl) rfl rfl rfl tu42 te9 (sz_cons rfl sz_nil) rfl (Cat.cons (show Rep.rep _ (⟨#[120]⟩ : ByteArray) _ from rfl) (Cat.nil _)) (coa_cons rfl coa_nil) rfl F S rfl rfl ?_; clear F a S
 rintro v2 c2 a w h2 F S
 obtain ⟨g2, l2, S, h3⟩ : ∃ gz, Le g1 gz ∧ St gz [c1] fr w ∧ RepSl gz ([(⟨#[120]⟩ : ByteArray)] : List ByteArray) v2 := ⟨_, Le.add _ _, S.freeze 0 rfl, OwnS.freeze (S.front 0 rfl) h2⟩
 obtain ⟨y2, hy2, hm⟩ := bind_some hm
 refine wl_call0 (wn rfl) rfl F rfl (changeforgelaw2_one_ok (fr := (fl [c1] fr)) (⟨#[97]⟩ : ByteArray) ([(⟨#[120]⟩ : ByteArray)] : List ByteArray) v2 h3 S hy2) rfl tc18 rfl rfl ?_; clear F a S
 rintro _ a w ⟨g3, v3, c3, l3, S, h4, rfl⟩ F; replace S : St g3 [c3, c1] fr w := S
 obtain ⟨g4, l4, S, h5⟩ : ∃ gz, Le g3 gz ∧ St gz [c3] fr w ∧ RepSl gz y1.Changes v1 := ⟨_, Le.add _ _, S.freeze 1 rfl, OwnS.freeze (S.front 1 rfl) (h1.mono (l2.trans l3))⟩
 obtain ⟨g5, l5, S, h6⟩ : ∃ gz, Le g4 gz ∧ St gz [] fr w ∧ RepSl gz y2.Files v3 := ⟨_, Le.add _ _, S.freeze 0 rfl, OwnS.freeze (S.front 0 rfl) (h4.mono l4)⟩
 obtain ⟨y3, hy3, hm⟩ := bind_some hm
 refine wl_call0 (wn rfl) rfl F rfl (treepatch_Apply_ok y1 v1 (h5.mono l5) y2 v3 h6 S hy3) rfl tc15 rfl rfl ?_; clear F a S
 rintro _ a w ⟨g6, v4, c4, l6, S, h7, rfl⟩ F; replace S : St g6 [c4] fr w := S
 refine wE (ev_move rfl) F S rfl fun a F=>?_
 refine wE (ev_extract rfl rfl) F S rfl fun a F=>?_
 refine wE (ev_extract rfl rfl) F S rfl fun a F=>?_
 refine wl_alloc (wn rfl) rfl tz24 (cs := [nilS]) rfl F S rfl rfl ?_; clear F a S; rintro b1 a w F S
 refine wl_alloc (wn rfl) rfl tz30 (cs := [.i6 0, .i6 0]) rfl F S rfl rfl ?_; clear F a S; rintro b2 a w F S
 refine wl_storeC (wn rfl) rfl F S rfl rfl (vs := [v4]) rfl ts24 (one_cons (OwnS.one h7) one_nil) (k := 1) rfl (lb rfl) (c' := #[v4]) rfl rfl ?_; clear S; intro w S
 refine wl_storeC (wn rfl) rfl F S rfl rfl (vs := [.i6 y3.2.Code, .i6 y3.2.Index]) rfl ts30 (one_cons rfl (one_cons rfl one_nil)) (k := 0) rfl (lb rfl) (c' := #[.i6 y3.2.Code, .i6 y3.2.Index]) rfl rfl ?_; clear S; intro w S
 refine wpList_nil ?_
 refine then_n ?_
 refine wp_seq ?_
 refine wp_cut1 (fun a w => ∃ (x1 : Bool) (g7 : Gh), Fr 27 a [(0, .bool x1)] ∧ Le g6 g7 ∧ St g7 [] fr w ∧ changeforgelaw2_renamed.j1 x1 = some r) ?_ ?_
 ·refine wp_dv [] mo S ?_; clear S; intro ok1 w S
  refine dv_et ok1 0 rfl (ev_fieldAddr' tu30 tf30_0 (z := 0) ts3 rfl ⟨_, rfl⟩ rfl) F rfl fun a F=>?_
  refine dv_ev ok1 1 rfl (ev_load1 tu3 rfl rfl (box_ptr (cells := [.i6 y3.2.Code]) 0 rfl 0 rfl (lb rfl))) F S rfl fun a F=>?_
  refine dv_et ok1 2 rfl (ev_int rfl rfl (bo_eql _ _ _ _)) F rfl fun a F=>?_
  refine dv_et ok1 3 rfl (ev_move rfl) F rfl fun a F=>?_
  obtain ⟨hc1, hm⟩ | ⟨hc1, hm⟩ := ite_or hm
  ·refine dv_evg ok1 4 rfl rfl rfl rfl rfl hc1 (ev_loadA tu24 rfl (cs := [v4]) ts24 rfl (box_ptr (cells := [v4]) 1 rfl 0 rfl (lb rfl))) F S rfl rfl fun a F=>?_
   refine dv_op ok1 5 rfl [(4, .agg #[v4])] ?_
   refine wl_lit (l := ([(⟨#[120]⟩ : ByteArray)] : List ByteArray)) (vs := [.string (⟨#[120]⟩ : ByteArray)]) (parts := [(0, .const (.string (⟨#[120]⟩ : ByteArray)))]) (wg F rfl rfl rfl rfl hc1) rfl rfl rfl tu42 te9 (sz_cons rfl sz_nil) rfl (Cat.cons (show Rep.rep _ (⟨#[120]⟩ : ByteArray) _ from rfl) (Cat.nil _)) (coa_cons rfl coa_nil) rfl F S rfl rfl ?_; clear F a S
   rintro v5 c5 a w h8 F S
   refine dv_nx ⟨yl_evg rfl rfl rfl rfl rfl hc1 (ev_loadA tu24 rfl (cs := [v4]) ts24 rfl (box_ptr (cells := [v4]) 2 rfl 0 rfl (lb rfl))) F S, trivial⟩ ?_
   refine dv_op ok1 6 rfl [(4, .agg #[v4])] ?_
   obtain ⟨g8, l8, S, h9⟩ : ∃ gz, Le g6 gz ∧ St gz [[bx b2 #[.i6 y3.2.Code, .i6 y3.2.Index] 30], [bx b1 #[v4] 24], c4] fr w ∧ RepSl gz ([(⟨#[120]⟩ : ByteArray)] : List ByteArray) v5 := ⟨_, Le.add _ _, S.freeze 0 rfl, OwnS.freeze (S.front 0 rfl) h8⟩
   obtain ⟨y4, hy4, hm⟩ := bind_some hm
   refine wl_call0 (wg F rfl rfl rfl rfl hc1) rfl F rfl (changeforgelaw2_one_ok (fr := (fl [[bx b2 #[.i6 y3.2.Code, .i6 y3.2.Index] 30], [bx b1 #[v4] 24], c4] fr)) (⟨#[98]⟩ : ByteArray) ([(⟨#[120]⟩ : ByteArray)] : List ByteArray) v5 h9 S hy4) rfl tc18 rfl rfl ?_; clear F a S
   rintro _ a w ⟨g9, v6, c6, l9, S, h10, rfl⟩ F; replace S : St g9 [c6, [bx b2 #[.i6 y3.2.Code, .i6 y3.2.Index] 30], [bx b1 #[v4] 24], c4] fr w := S
   refine dv_nx ⟨yl_evg rfl rfl rfl rfl rfl hc1 (ev_loadA tu24 rfl (cs := [v4]) ts24 rfl (box_ptr (cells := [v4]) 2 rfl 0 rfl (lb rfl))) F S, trivial⟩ ?_
   refine dv_op ok1 7 rfl [] ?_
   obtain ⟨g10, l10, S, h11⟩ : ∃ gz, Le g9 gz ∧ St gz [c6, [bx b2 #[.i6 y3.2.Code, .i6 y3.2.Index] 30], [bx b1 #[v4] 24]] fr w ∧ RepSl gz y3.1.Files v4 := ⟨_, Le.add _ _, S.freeze 3 rfl, OwnS.freeze (S.front 3 rfl) (h7.mono (l8.trans l9))⟩
   obtain ⟨g11, l11, S, h12⟩ : ∃ gz, Le g10 gz ∧ St gz [[bx b2 #[.i6 y3.2.Code, .i6 y3.2.Index] 30], [bx b1 #[v4] 24]] fr w ∧ RepSl gz y4.Files v6 := ⟨_, Le.add _ _, S.freeze 0 rfl, OwnS.freeze (S.front 0 rfl) (h10.mono l10)⟩
   obtain ⟨y5, hy5, hm⟩ := bind_some hm
   refine wl_call0 (wg F rfl rfl rfl rfl hc1) rfl F rfl (changeforgeequal_Tree_ok (fr := (fl [[bx b2 #[.i6 y3.2.Code, .i6 y3.2.Index] 30], [bx b1 #[v4] 24]] fr)) y3.1 v4 (h11.mono l11) y4 v6 h12 S hy5) rfl tc12 rfl rfl ?_; clear F a S
   rintro _ a w ⟨g12, l12, S, rfl⟩ F; replace S : St g12 [[bx b2 #[.i6 y3.2.Code, .i6 y3.2.Index] 30], [bx b1 #[v4] 24]] fr w := S
   refine dv_nx trivial ?_
   refine dv_et ok1 8 rfl (ev_pickT rfl hc1 rfl) F rfl fun a F=>?_
   refine dv_et ok1 9 rfl (ev_move rfl) F rfl fun a F=>?_
   obtain ⟨hc2, hm⟩ | ⟨hc2, hm⟩ := ite_or hm
   ·refine dv_op ok1 10 rfl [] ?_
    obtain ⟨y6, hy6, hm⟩ := bind_some hm
    refine wl_call0 (wg F rfl rfl rfl rfl hc2) rfl F rfl (treepatch_ValidPath_ok (fr := (fl [[bx b2 #[.i6 y3.2.Code, .i6 y3.2.Index] 30], [bx b1 #[v4] 24]] fr)) (⟨#[97, 47, 98, 46, 103, 111]⟩ : ByteArray) S hy6) rfl tc53 rfl rfl ?_; clear F a S
    rintro _ a w ⟨g13, l13, S, rfl⟩ F; replace S : St g13 [[bx b2 #[.i6 y3.2.Code, .i6 y3.2.Index] 30], [bx b1 #[v4] 24]] fr w := S
    refine dv_nx trivial ?_
    refine dv_et ok1 11 rfl (ev_pickT rfl hc2 rfl) F rfl fun a F=>?_
    refine dv_et ok1 12 rfl (ev_move rfl) F rfl fun a F=>?_
    obtain ⟨hc3, hm⟩ | ⟨hc3, hm⟩ := ite_or hm
    ·refine dv_op ok1 13 rfl [] ?_
     obtain ⟨y7, hy7, hm⟩ := bind_some hm
     refine wl_call0 (wg F rfl rfl rfl rfl hc3) rfl F rfl (treepatch_ValidPath_ok (fr := (fl [[bx b2 #[.i6 y3.2.Code, .i6 y3.2.Index] 30], [bx b1 #[v4] 24]] fr)) (⟨#[47, 97]⟩ : ByteArray) S hy7) rfl tc53 rfl rfl ?_; clear F a S
     rintro _ a w ⟨g14, l14, S, rfl⟩ F; replace S : St g14 [[bx b2 #[.i6 y3.2.Code, .i6 y3.2.Index] 30], [bx b1 #[v4] 24]] fr w := S
     refine dv_nx trivial ?_
     refine dv_etg ok1 14 rfl rfl rfl rfl rfl hc3 (ev_not rfl) F rfl rfl fun a F=>?_
     refine dv_et ok1 15 rfl (ev_pickT rfl hc3 rfl) F rfl fun a F=>?_
     refine dv_et ok1 16 rfl (ev_assign rfl) F rfl fun a F=>?_
     refine dv_fin ok1 ?_
     refine then_n ?_
     replace S : St g14 [] fr w := St.tail [] _ S
     exact ⟨!y7, g14, F.sub ⟨rfl, trivial⟩, ((((((l8.trans l9).trans l10).trans l11).trans l12).trans l13).trans l14), S, hm⟩
    ·refine dv_skip ok1 13 rfl rfl rfl rfl rfl (ne_tf hc3) F rfl rfl fun a F=>?_
     refine dv_skip ok1 14 rfl rfl rfl rfl rfl (ne_tf hc3) F rfl rfl fun a F=>?_
     refine dv_et ok1 15 rfl (ev_pickF rfl hc3 rfl) F rfl fun a F=>?_
     refine dv_et ok1 16 rfl (ev_assign rfl) F rfl fun a F=>?_
     refine dv_fin ok1 ?_
     refine then_n ?_
     replace S : St g13 [] fr w := St.tail [] _ S
     exact ⟨false, g13, F.sub ⟨rfl, trivial⟩, (((((l8.trans l9).trans l10).trans l11).trans l12).trans l13), S, hm⟩
   ·refine dv_skip ok1 10 rfl rfl rfl rfl rfl (ne_tf hc2) F rfl rfl fun a F=>?_
    refine dv_et ok1 11 rfl (ev_pickF rfl hc2 rfl) F rfl fun a F=>?_
    refine dv_et ok1 12 rfl (ev_move rfl) F rfl fun a F=>?_
    refine dv_skip ok1 13 rfl rfl rfl rfl rfl (ne_tf rfl) F rfl rfl fun a F=>?_
    refine dv_skip ok1 14 rfl rfl rfl rfl rfl (ne_tf rfl) F rfl rfl fun a F=>?_
    refine dv_et ok1 15 rfl (ev_pickF rfl rfl rfl) F rfl fun a F=>?_
    refine dv_et ok1 16 rfl (ev_assign rfl) F rfl fun a F=>?_
    refine dv_fin ok1 ?_
    refine then_n ?_
    replace S : St g12 [] fr w := St.tail [] _ S
    exact ⟨false, g12, F.sub ⟨rfl, trivial⟩, ((((l8.trans l9).trans l10).trans l11).trans l12), S, hm⟩
  ·refine dv_skip ok1 4 rfl rfl rfl rfl rfl (ne_tf hc1) F rfl rfl fun a F=>?_
   refine dv_skip ok1 5 rfl rfl rfl rfl rfl (ne_tf hc1) F rfl rfl fun a F=>?_
   refine dv_skip ok1 6 rfl rfl rfl rfl rfl (ne_tf hc1) F rfl rfl fun a F=>?_
   refine dv_skip ok1 7 rfl rfl rfl rfl rfl (ne_tf hc1) F rfl rfl fun a F=>?_
   refine dv_et ok1 8 rfl (ev_pickF rfl hc1 rfl) F rfl fun a F=>?_
   refine dv_et ok1 9 rfl (ev_move rfl) F rfl fun a F=>?_
   refine dv_skip ok1 10 rfl rfl rfl rfl rfl (ne_tf rfl) F rfl rfl fun a F=>?_
   refine dv_et ok1 11 rfl (ev_pickF rfl rfl rfl) F rfl fun a F=>?_
   refine dv_et ok1 12 rfl (ev_move rfl) F rfl fun a F=>?_
   refine dv_skip ok1 13 rfl rfl rfl rfl rfl (ne_tf rfl) F rfl rfl fun a F=>?_
   refine dv_skip ok1 14 rfl rfl rfl rfl rfl (ne_tf rfl) F rfl rfl fun a F=>?_
   refine dv_et ok1 15 rfl (ev_pickF rfl rfl rfl) F rfl fun a F=>?_
   refine dv_et ok1 16 rfl (ev_assign rfl) F rfl fun a F=>?_
   refine dv_fin ok1 ?_
   refine then_n ?_
   replace S : St g6 [] fr w := St.tail [] _ S
   exact ⟨false, g6, F.sub ⟨rfl, trivial⟩, (Le.refl _), S, hm⟩
 ·clear F S hm; rintro a w ⟨x1, g7, F, l7, S, hm⟩
  refine then_n ?_
  refine wp_ret ?_
  obtain rfl := sinj hm
  refine post_r _ F rfl (ar_cons (resT rfl) ar_nil) ?_
  exact ⟨_, rfl, g7, ((((((l1.trans l2).trans l3).trans l4).trans l5).trans l6).trans l7), S, rfl⟩
end Go.Dc
