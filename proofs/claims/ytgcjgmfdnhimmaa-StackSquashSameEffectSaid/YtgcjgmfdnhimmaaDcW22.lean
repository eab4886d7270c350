/- Walks: each function comes to what its model says. -/
import Derived.Test.YtgcjgmfdnhimmaaDcTab
import Derived.Test.YtgcjgmfdnhimmaaDcM
import Derived.Test.YtgcjgmfdnhimmaaDcW10
import Derived.Test.YtgcjgmfdnhimmaaDcW11
import Derived.Test.YtgcjgmfdnhimmaaDcW19
import Derived.Test.YtgcjgmfdnhimmaaDcW4
namespace Go.Dc
open Go Go.Proofs
set_option maxRecDepth 100000
set_option maxHeartbeats 4000000
set_option linter.unusedVariables false
theorem changeforgelaw2_StackSquashSameEffect_ok {g : Gh} {fr : Hl} {w : World} {r : Bool} (base : (List ByteArray)) (vbase1 : Value) (hbase1 : RepSl g base vbase1) (l_ : (List Patch)) (vl_1 : Value) (hl_1 : RepSl g l_ vl_1) (i_ : Int) (S : St g [] fr w) (hm : changeforgelaw2_StackSquashSameEffect base l_ i_ = some r) :
  Calls Try.prog 9 [vbase1, vl_1, .int .i64 i_].toArray w (fun en w' => ∃ v, en = .returned v ∧ ∃ (g' : Gh), Le g g' ∧ St g' [] fr w' ∧ .bool r = v) := by
 unfold changeforgelaw2_StackSquashSameEffect at hm
 refine calls_enter (fn := Try.f9) Try.func9 rfl Try.ntmps9 (lb rfl) ?_
 intro a F
 replace F : Fr 59 a [(0, vbase1), (1, vl_1), (2, .int .i64 i_)] := F
 refine wp_seq ?_
 refine wp_region_lit ?_
 refine wl_ev (wn rfl) (ev_assign rfl) F S rfl rfl ?_; clear F a; intro a F
 refine wpList_nil ?_
 replace F := F.sub (e' := [(0, vbase1), (1, vl_1), (2, .int .i64 i_)]) ⟨rfl, rfl, rfl, trivial⟩
 refine then_n ?_
 refine wp_seq ?_
 refine wp_region_lit ?_
 refine wl_ev (wn rfl) (ev_move rfl) F S rfl rfl ?_; clear F a; intro a F
 refine wl_ev (wn rfl) (ev_move rfl) F S rfl rfl ?_; clear F a; intro a F
 obtain ⟨y1, hy1, hm⟩ := bind_some hm
 refine wl_call (wn rfl) rfl (xs := [.tmp 14, .tmp 15]) (vs := [vl_1, .int .i64 i_]) (cap := []) F rfl rfl tc21 (stack_Squash_ok (g := g) (fr := fr) (w := w) l_ vl_1 hl_1 i_ S hy1) rfl rfl ?_; clear F a S
 rintro _ a w ⟨g1, v1, c1, l1, S, h1, rfl⟩ F; replace S : St g1 [c1] fr w := S
 refine wl_ev (wn rfl) (ev_move rfl) F S rfl rfl ?_; clear F a; intro a F
 refine wl_ev (wn rfl) (ev_extract (vs := [v1, .agg #[.int .i64 y1.2.Code, .int .i64 y1.2.Index]]) rfl rfl) F S rfl rfl ?_; clear F a; intro a F
 refine wl_ev (wn rfl) (ev_extract (vs := [v1, .agg #[.int .i64 y1.2.Code, .int .i64 y1.2.Index]]) rfl rfl) F S rfl rfl ?_; clear F a; intro a F
 refine wl_alloc (wn rfl) rfl tz24 (cs := [.int .i64 0, .int .i64 0]) rfl F S rfl rfl ?_; clear F a S; rintro b1 a w F S
 refine wl_ev (wn rfl) (ev_assign rfl) F S rfl rfl ?_; clear F a; intro a F
 refine wl_storeC (wn rfl) rfl F S rfl rfl (vs := [.int .i64 y1.2.Code, .int .i64 y1.2.Index]) rfl ts24 (one_cons rfl (one_cons rfl one_nil)) (k := 0) rfl (lb rfl) (c' := #[.int .i64 y1.2.Code, .int .i64 y1.2.Index]) rfl rfl ?_; clear S; intro w S
 replace S : St g1 [[(b1, .cells #[.int .i64 y1.2.Code, .int .i64 y1.2.Index] 24 (0, 0))], c1] fr w := S
 refine wpList_nil ?_
 replace F := F.sub (e' := [(7, v1), (8, bp b1 0), (0, vbase1), (1, vl_1)]) ⟨rfl, rfl, rfl, rfl, trivial⟩
 refine then_n ?_
 refine wp_seq ?_
 refine wp_region_lit ?_
 refine wl_ev (wn rfl) (ev_move rfl) F S rfl rfl ?_; clear F a; intro a F
 refine wl_ev (wn rfl) (ev_move rfl) F S rfl rfl ?_; clear F a; intro a F
 obtain ⟨y2, hy2, hm⟩ := bind_some hm
 refine wl_call (wn rfl) rfl (xs := [.tmp 20, .tmp 21]) (vs := [vbase1, vl_1]) (cap := []) F rfl rfl tc16 (stack_Apply_ok (g := g1) (fr := (fl [[(b1, .cells #[.int .i64 y1.2.Code, .int .i64 y1.2.Index] 24 (0, 0))], c1] fr)) (w := w) base vbase1 (hbase1.mono l1) l_ vl_1 (hl_1.mono l1) S hy2) rfl rfl ?_; clear F a S
 rintro _ a w ⟨g2, v2, c2, l2, S, h2, rfl⟩ F; replace S : St g2 [c2, [(b1, .cells #[.int .i64 y1.2.Code, .int .i64 y1.2.Index] 24 (0, 0))], c1] fr w := S
 refine wl_ev (wn rfl) (ev_move rfl) F S rfl rfl ?_; clear F a; intro a F
 refine wl_ev (wn rfl) (ev_extract (vs := [v2, .agg #[.int .i64 y2.2.Code, .int .i64 y2.2.Index]]) rfl rfl) F S rfl rfl ?_; clear F a; intro a F
 refine wl_ev (wn rfl) (ev_extract (vs := [v2, .agg #[.int .i64 y2.2.Code, .int .i64 y2.2.Index]]) rfl rfl) F S rfl rfl ?_; clear F a; intro a F
 refine wl_alloc (wn rfl) rfl tz24 (cs := [.int .i64 0, .int .i64 0]) rfl F S rfl rfl ?_; clear F a S; rintro b2 a w F S
 refine wl_ev (wn rfl) (ev_assign rfl) F S rfl rfl ?_; clear F a; intro a F
 refine wl_storeC (wn rfl) rfl F S rfl rfl (vs := [.int .i64 y2.2.Code, .int .i64 y2.2.Index]) rfl ts24 (one_cons rfl (one_cons rfl one_nil)) (k := 0) rfl (lb rfl) (c' := #[.int .i64 y2.2.Code, .int .i64 y2.2.Index]) rfl rfl ?_; clear S; intro w S
 replace S : St g2 [[(b2, .cells #[.int .i64 y2.2.Code, .int .i64 y2.2.Index] 24 (0, 0))], c2, [(b1, .cells #[.int .i64 y1.2.Code, .int .i64 y1.2.Index] 24 (0, 0))], c1] fr w := S
 refine wpList_nil ?_
 replace F := F.sub (e' := [(9, v2), (10, bp b2 0), (7, v1), (8, bp b1 0), (0, vbase1), (1, vl_1)]) ⟨rfl, rfl, rfl, rfl, rfl, rfl, trivial⟩
 refine then_n ?_
 refine wp_seq ?_
 refine wp_seq ?_
 refine wp_region_lit ?_
 refine wl_ev (wn rfl) (ev_fieldAddr' tu24 tf24_0 (z := 0) ts3 rfl ⟨_, rfl⟩ rfl) F S rfl rfl ?_; clear F a; intro a F
 refine wl_ev (wn rfl) (ev_load1 tu3 rfl rfl (box_ptr (cells := [.int .i64 y1.2.Code]) 2 rfl 0 rfl (lb rfl))) F S rfl rfl ?_; clear F a; intro a F
 refine wl_ev (wn rfl) (ev_int rfl rfl (bo_neq _ _ _ _)) F S rfl rfl ?_; clear F a; intro a F
 refine wl_ev (wn rfl) (ev_move rfl) F S rfl rfl ?_; clear F a; intro a F
 obtain ⟨x1, hx1, hm⟩ := bind_some hm
 refine wl_cut 4 (fun a w' => w = w' ∧ Fr 59 a [(32, .bool x1), (9, v2), (7, v1), (0, vbase1), (1, vl_1)]) ?_ ?_
 ·clear hm; obtain ⟨hc1, hm⟩ | ⟨hc1, hm⟩ := ite_or hx1
  ·refine wl_skip rfl rfl rfl rfl (ne_ft hc1) F rfl rfl ?_; clear F a; intro a F
   refine wl_skip rfl rfl rfl rfl (ne_ft hc1) F rfl rfl ?_; clear F a; intro a F
   refine wl_skip rfl rfl rfl rfl (ne_ft hc1) F rfl rfl ?_; clear F a; intro a F
   refine wl_ev (wn rfl) (ev_pickT rfl hc1 rfl) F S rfl rfl ?_; clear F a; intro a F
   obtain rfl := sinj hm
   refine wpList_nil (then_n ?_); exact ⟨rfl, F.sub ⟨rfl, rfl, rfl, rfl, rfl, trivial⟩⟩
  ·refine wl_ev (wg F rfl rfl rfl rfl hc1) (ev_fieldAddr' tu24 tf24_0 (z := 0) ts3 rfl ⟨_, rfl⟩ rfl) F S rfl rfl ?_; clear F a; intro a F
   refine wl_ev (wg F rfl rfl rfl rfl hc1) (ev_load1 tu3 rfl rfl (box_ptr (cells := [.int .i64 y2.2.Code]) 0 rfl 0 rfl (lb rfl))) F S rfl rfl ?_; clear F a; intro a F
   refine wl_ev (wg F rfl rfl rfl rfl hc1) (ev_int rfl rfl (bo_neq _ _ _ _)) F S rfl rfl ?_; clear F a; intro a F
   refine wl_ev (wn rfl) (ev_pickF rfl hc1 rfl) F S rfl rfl ?_; clear F a; intro a F
   obtain rfl := sinj hm
   refine wpList_nil (then_n ?_); exact ⟨rfl, F.sub ⟨rfl, rfl, rfl, rfl, rfl, trivial⟩⟩
 clear F; rintro a w' ⟨rfl, F⟩
 refine wpList_nil ?_
 refine then_n ?_
 obtain ⟨hc2, hm⟩ | ⟨hc2, hm⟩ := ite_or hm
 ·refine wp_condT F rfl hc2 ?_
  refine wp_seq ?_
  refine wp_region_lit ?_
  obtain ⟨y3, hy3, hm⟩ := bind_some hm
  refine wl_call (wn rfl) rfl (xs := []) (vs := []) (cap := []) F rfl rfl tc15 (changeforgelaw2_dropped_ok (g := g2) (fr := (fl [[(b2, .cells #[.int .i64 y2.2.Code, .int .i64 y2.2.Index] 24 (0, 0))], c2, [(b1, .cells #[.int .i64 y1.2.Code, .int .i64 y1.2.Index] 24 (0, 0))], c1] fr)) (w := w)  S hy3) rfl rfl ?_; clear F a S
  rintro _ a w ⟨g3, l3, S, rfl⟩ F; replace S : St g3 [[(b2, .cells #[.int .i64 y2.2.Code, .int .i64 y2.2.Index] 24 (0, 0))], c2, [(b1, .cells #[.int .i64 y1.2.Code, .int .i64 y1.2.Index] 24 (0, 0))], c1] fr w := S
  refine wl_ev (wn rfl) (ev_assign rfl) F S rfl rfl ?_; clear F a; intro a F
  refine wpList_nil ?_
  replace F := F.sub (e' := [(6, .bool y3)]) ⟨rfl, trivial⟩
  refine then_n ?_
  refine wp_ret ?_
  refine then_r ?_
  obtain rfl := sinj hm
  refine post_r (fn := Try.f9) (rs := [.tmp 6]) [.bool y3] F rfl (ar_cons (resT rfl) ar_nil) ?_
  replace S : St g3 [] fr w := St.tail [] _ S
  exact ⟨_, rfl, g3, ((l1.trans l2).trans l3), S, rfl⟩
 ·refine wp_condF F rfl hc2 ?_
  refine wp_skip ?_
  refine then_n ?_
  refine wp_seq ?_
  refine wp_region_lit ?_
  refine wl_ev (wn rfl) (ev_move rfl) F S rfl rfl ?_; clear F a; intro a F
  refine wl_ev (wn rfl) (ev_move rfl) F S rfl rfl ?_; clear F a; intro a F
  obtain ⟨g4, l4, S, h3⟩ : ∃ gz, Le g2 gz ∧ St gz [[(b2, .cells #[.int .i64 y2.2.Code, .int .i64 y2.2.Index] 24 (0, 0))], c2, [(b1, .cells #[.int .i64 y1.2.Code, .int .i64 y1.2.Index] 24 (0, 0))]] fr w ∧ RepSl gz y1.1 v1 := ⟨_, Le.add _ _, S.freeze 3 rfl, OwnS.freeze (S.front 3 rfl) (h1.mono l2)⟩
  obtain ⟨y4, hy4, hm⟩ := bind_some hm
  refine wl_call (wn rfl) rfl (xs := [.tmp 35, .tmp 36]) (vs := [vbase1, v1]) (cap := []) F rfl rfl tc16 (stack_Apply_ok (g := g4) (fr := (fl [[(b2, .cells #[.int .i64 y2.2.Code, .int .i64 y2.2.Index] 24 (0, 0))], c2, [(b1, .cells #[.int .i64 y1.2.Code, .int .i64 y1.2.Index] 24 (0, 0))]] fr)) (w := w) base vbase1 (hbase1.mono ((l1.trans l2).trans l4)) y1.1 v1 h3 S hy4) rfl rfl ?_; clear F a S
  rintro _ a w ⟨g5, v3, c3, l5, S, h4, rfl⟩ F; replace S : St g5 [c3, [(b2, .cells #[.int .i64 y2.2.Code, .int .i64 y2.2.Index] 24 (0, 0))], c2, [(b1, .cells #[.int .i64 y1.2.Code, .int .i64 y1.2.Index] 24 (0, 0))]] fr w := S
  refine wl_ev (wn rfl) (ev_move rfl) F S rfl rfl ?_; clear F a; intro a F
  refine wl_ev (wn rfl) (ev_extract (vs := [v3, .agg #[.int .i64 y4.2.Code, .int .i64 y4.2.Index]]) rfl rfl) F S rfl rfl ?_; clear F a; intro a F
  refine wl_ev (wn rfl) (ev_extract (vs := [v3, .agg #[.int .i64 y4.2.Code, .int .i64 y4.2.Index]]) rfl rfl) F S rfl rfl ?_; clear F a; intro a F
  refine wl_alloc (wn rfl) rfl tz24 (cs := [.int .i64 0, .int .i64 0]) rfl F S rfl rfl ?_; clear F a S; rintro b3 a w F S
  refine wl_ev (wn rfl) (ev_assign rfl) F S rfl rfl ?_; clear F a; intro a F
  refine wl_storeC (wn rfl) rfl F S rfl rfl (vs := [.int .i64 y4.2.Code, .int .i64 y4.2.Index]) rfl ts24 (one_cons rfl (one_cons rfl one_nil)) (k := 0) rfl (lb rfl) (c' := #[.int .i64 y4.2.Code, .int .i64 y4.2.Index]) rfl rfl ?_; clear S; intro w S
  replace S : St g5 [[(b3, .cells #[.int .i64 y4.2.Code, .int .i64 y4.2.Index] 24 (0, 0))], c3, [(b2, .cells #[.int .i64 y2.2.Code, .int .i64 y2.2.Index] 24 (0, 0))], c2, [(b1, .cells #[.int .i64 y1.2.Code, .int .i64 y1.2.Index] 24 (0, 0))]] fr w := S
  refine wpList_nil ?_
  replace F := F.sub (e' := [(11, v3), (12, bp b3 0), (9, v2), (7, v1), (1, vl_1)]) ⟨rfl, rfl, rfl, rfl, rfl, trivial⟩
  refine then_n ?_
  refine wp_seq ?_
  refine wp_region_lit ?_
  refine wl_ev (wn rfl) (ev_fieldAddr' tu24 tf24_0 (z := 0) ts3 rfl ⟨_, rfl⟩ rfl) F S rfl rfl ?_; clear F a; intro a F
  refine wl_ev (wn rfl) (ev_load1 tu3 rfl rfl (box_ptr (cells := [.int .i64 y4.2.Code]) 0 rfl 0 rfl (lb rfl))) F S rfl rfl ?_; clear F a; intro a F
  refine wl_ev (wn rfl) (ev_int rfl rfl (bo_eql _ _ _ _)) F S rfl rfl ?_; clear F a; intro a F
  refine wl_ev (wn rfl) (ev_move rfl) F S rfl rfl ?_; clear F a; intro a F
  obtain ⟨g6, l6, S, h5⟩ : ∃ gz, Le g5 gz ∧ St gz [[(b3, .cells #[.int .i64 y4.2.Code, .int .i64 y4.2.Index] 24 (0, 0))], [(b2, .cells #[.int .i64 y2.2.Code, .int .i64 y2.2.Index] 24 (0, 0))], c2, [(b1, .cells #[.int .i64 y1.2.Code, .int .i64 y1.2.Index] 24 (0, 0))]] fr w ∧ RepSl gz y4.1 v3 := ⟨_, Le.add _ _, S.freeze 1 rfl, OwnS.freeze (S.front 1 rfl) h4⟩
  obtain ⟨g7, l7, S, h6⟩ : ∃ gz, Le g6 gz ∧ St gz [[(b3, .cells #[.int .i64 y4.2.Code, .int .i64 y4.2.Index] 24 (0, 0))], [(b2, .cells #[.int .i64 y2.2.Code, .int .i64 y2.2.Index] 24 (0, 0))], [(b1, .cells #[.int .i64 y1.2.Code, .int .i64 y1.2.Index] 24 (0, 0))]] fr w ∧ RepSl gz y2.1 v2 := ⟨_, Le.add _ _, S.freeze 2 rfl, OwnS.freeze (S.front 2 rfl) (h2.mono ((l4.trans l5).trans l6))⟩
  obtain ⟨x2, hx2, hm⟩ := bind_some hm
  refine wl_cut 4 (fun a w => ∃ g8, Fr 59 a [(47, .bool x2), (7, v1), (1, vl_1)] ∧ Le g7 g8 ∧ St g8 [[(b3, .cells #[.int .i64 y4.2.Code, .int .i64 y4.2.Index] 24 (0, 0))], [(b2, .cells #[.int .i64 y2.2.Code, .int .i64 y2.2.Index] 24 (0, 0))], [(b1, .cells #[.int .i64 y1.2.Code, .int .i64 y1.2.Index] 24 (0, 0))]] fr w) ?_ ?_
  ·clear hm; obtain ⟨hc3, hm⟩ | ⟨hc3, hm⟩ := ite_or hx2
   ·refine wl_ev (wg F rfl rfl rfl rfl hc3) (ev_move rfl) F S rfl rfl ?_; clear F a; intro a F
    refine wl_ev (wg F rfl rfl rfl rfl hc3) (ev_move rfl) F S rfl rfl ?_; clear F a; intro a F
    obtain ⟨y5, hy5, hm⟩ := bind_some hm
    refine wl_call (wg F rfl rfl rfl rfl hc3) rfl (xs := [.tmp 44, .tmp 45]) (vs := [v3, v2]) (cap := []) F rfl rfl tc17 (changeforgeequal_Strings_ok (g := g7) (fr := (fl [[(b3, .cells #[.int .i64 y4.2.Code, .int .i64 y4.2.Index] 24 (0, 0))], [(b2, .cells #[.int .i64 y2.2.Code, .int .i64 y2.2.Index] 24 (0, 0))], [(b1, .cells #[.int .i64 y1.2.Code, .int .i64 y1.2.Index] 24 (0, 0))]] fr)) (w := w) y4.1 v3 (h5.mono l7) y2.1 v2 h6 S hy5) rfl rfl ?_; clear F a S
    rintro _ a w ⟨g9, l9, S, rfl⟩ F; replace S : St g9 [[(b3, .cells #[.int .i64 y4.2.Code, .int .i64 y4.2.Index] 24 (0, 0))], [(b2, .cells #[.int .i64 y2.2.Code, .int .i64 y2.2.Index] 24 (0, 0))], [(b1, .cells #[.int .i64 y1.2.Code, .int .i64 y1.2.Index] 24 (0, 0))]] fr w := S
    refine wl_ev (wn rfl) (ev_pickT rfl hc3 rfl) F S rfl rfl ?_; clear F a; intro a F
    obtain rfl := sinj hm
    refine wpList_nil (then_n ?_); exact ⟨g9, F.sub ⟨rfl, rfl, rfl, trivial⟩, l9, S⟩
   ·refine wl_skip rfl rfl rfl rfl (ne_tf hc3) F rfl rfl ?_; clear F a; intro a F
    refine wl_skip rfl rfl rfl rfl (ne_tf hc3) F rfl rfl ?_; clear F a; intro a F
    refine wl_skip rfl rfl rfl rfl (ne_tf hc3) F rfl rfl ?_; clear F a; intro a F
    refine wl_ev (wn rfl) (ev_pickF rfl hc3 rfl) F S rfl rfl ?_; clear F a; intro a F
    obtain rfl := sinj hm
    refine wpList_nil (then_n ?_); exact ⟨g7, F.sub ⟨rfl, rfl, rfl, trivial⟩, (Le.refl _), S⟩
  clear F S; rintro a w ⟨g8, F, l8, S⟩
  refine wl_ev (wn rfl) (ev_move rfl) F S rfl rfl ?_; clear F a; intro a F
  obtain ⟨x3, hx3, hm⟩ := bind_some hm
  refine wl_cut 7 (fun a w' => w = w' ∧ Fr 59 a [(55, .bool x3)]) ?_ ?_
  ·clear hm; obtain ⟨hc4, hm⟩ | ⟨hc4, hm⟩ := ite_or hx3
   ·refine wl_ev (wg F rfl rfl rfl rfl hc4) (ev_move rfl) F S rfl rfl ?_; clear F a; intro a F
    refine wl_ev (wg F rfl rfl rfl rfl hc4) (ev_lenSh h3 rfl tu22) F S rfl rfl ?_; clear F a; intro a F
    refine wl_ev (wg F rfl rfl rfl rfl hc4) (ev_move rfl) F S rfl rfl ?_; clear F a; intro a F
    refine wl_ev (wg F rfl rfl rfl rfl hc4) (ev_lenSh hl_1 rfl tu22) F S rfl rfl ?_; clear F a; intro a F
    obtain ⟨z1, hz1, hm⟩ := bind_some hm
    refine wl_ev (wg F rfl rfl rfl rfl hc4) (ev_int rfl rfl (bo_sub hz1)) F S rfl rfl ?_; clear F a; intro a F
    refine wl_ev (wg F rfl rfl rfl rfl hc4) (ev_int rfl rfl (bo_eql _ _ _ _)) F S rfl rfl ?_; clear F a; intro a F
    refine wl_ev (wn rfl) (ev_pickT rfl hc4 rfl) F S rfl rfl ?_; clear F a; intro a F
    obtain rfl := sinj hm
    refine wpList_nil (then_n ?_); exact ⟨rfl, F.sub ⟨rfl, trivial⟩⟩
   ·refine wl_skip rfl rfl rfl rfl (ne_tf hc4) F rfl rfl ?_; clear F a; intro a F
    refine wl_skip rfl rfl rfl rfl (ne_tf hc4) F rfl rfl ?_; clear F a; intro a F
    refine wl_skip rfl rfl rfl rfl (ne_tf hc4) F rfl rfl ?_; clear F a; intro a F
    refine wl_skip rfl rfl rfl rfl (ne_tf hc4) F rfl rfl ?_; clear F a; intro a F
    refine wl_skip rfl rfl rfl rfl (ne_tf hc4) F rfl rfl ?_; clear F a; intro a F
    refine wl_skip rfl rfl rfl rfl (ne_tf hc4) F rfl rfl ?_; clear F a; intro a F
    refine wl_ev (wn rfl) (ev_pickF rfl hc4 rfl) F S rfl rfl ?_; clear F a; intro a F
    obtain rfl := sinj hm
    refine wpList_nil (then_n ?_); exact ⟨rfl, F.sub ⟨rfl, trivial⟩⟩
  clear F; rintro a w' ⟨rfl, F⟩
  refine wl_ev (wn rfl) (ev_move rfl) F S rfl rfl ?_; clear F a; intro a F
  obtain ⟨x4, hx4, hm⟩ := bind_some hm
  refine wl_cut 2 (fun a w => ∃ g10, Fr 59 a [(58, .bool x4)] ∧ Le g8 g10 ∧ St g10 [[(b3, .cells #[.int .i64 y4.2.Code, .int .i64 y4.2.Index] 24 (0, 0))], [(b2, .cells #[.int .i64 y2.2.Code, .int .i64 y2.2.Index] 24 (0, 0))], [(b1, .cells #[.int .i64 y1.2.Code, .int .i64 y1.2.Index] 24 (0, 0))]] fr w) ?_ ?_
  ·clear hm; obtain ⟨hc5, hm⟩ | ⟨hc5, hm⟩ := ite_or hx4
   ·obtain ⟨y6, hy6, hm⟩ := bind_some hm
    refine wl_call (wg F rfl rfl rfl rfl hc5) rfl (xs := []) (vs := []) (cap := []) F rfl rfl tc15 (changeforgelaw2_dropped_ok (g := g8) (fr := (fl [[(b3, .cells #[.int .i64 y4.2.Code, .int .i64 y4.2.Index] 24 (0, 0))], [(b2, .cells #[.int .i64 y2.2.Code, .int .i64 y2.2.Index] 24 (0, 0))], [(b1, .cells #[.int .i64 y1.2.Code, .int .i64 y1.2.Index] 24 (0, 0))]] fr)) (w := w)  S hy6) rfl rfl ?_; clear F a S
    rintro _ a w ⟨g11, l11, S, rfl⟩ F; replace S : St g11 [[(b3, .cells #[.int .i64 y4.2.Code, .int .i64 y4.2.Index] 24 (0, 0))], [(b2, .cells #[.int .i64 y2.2.Code, .int .i64 y2.2.Index] 24 (0, 0))], [(b1, .cells #[.int .i64 y1.2.Code, .int .i64 y1.2.Index] 24 (0, 0))]] fr w := S
    refine wl_ev (wn rfl) (ev_pickT rfl hc5 rfl) F S rfl rfl ?_; clear F a; intro a F
    obtain rfl := sinj hm
    refine wpList_nil (then_n ?_); exact ⟨g11, F.sub ⟨rfl, trivial⟩, l11, S⟩
   ·refine wl_skip rfl rfl rfl rfl (ne_tf hc5) F rfl rfl ?_; clear F a; intro a F
    refine wl_ev (wn rfl) (ev_pickF rfl hc5 rfl) F S rfl rfl ?_; clear F a; intro a F
    obtain rfl := sinj hm
    refine wpList_nil (then_n ?_); exact ⟨g8, F.sub ⟨rfl, trivial⟩, (Le.refl _), S⟩
  clear F S; rintro a w ⟨g10, F, l10, S⟩
  refine wl_ev (wn rfl) (ev_assign rfl) F S rfl rfl ?_; clear F a; intro a F
  refine wpList_nil ?_
  replace F := F.sub (e' := [(6, .bool x4)]) ⟨rfl, trivial⟩
  refine then_n ?_
  refine wp_ret ?_
  obtain rfl := sinj hm
  refine post_r (fn := Try.f9) (rs := [.tmp 6]) [.bool x4] F rfl (ar_cons (resT rfl) ar_nil) ?_
  replace S : St g10 [] fr w := St.tail [] _ S
  exact ⟨_, rfl, g10, (((((((l1.trans l2).trans l4).trans l5).trans l6).trans l7).trans l8).trans l10), S, rfl⟩
end Go.Dc
