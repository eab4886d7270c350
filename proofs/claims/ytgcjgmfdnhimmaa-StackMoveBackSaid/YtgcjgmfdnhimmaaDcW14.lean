/- Walks: each function comes to what its model says. -/
import Derived.Test.YtgcjgmfdnhimmaaDcTab
import Derived.Test.YtgcjgmfdnhimmaaDcM
import Derived.Test.YtgcjgmfdnhimmaaDcW10
import Derived.Test.YtgcjgmfdnhimmaaDcW11
import Derived.Test.YtgcjgmfdnhimmaaDcW5
namespace Go.Dc
open Go Go.Proofs
set_option maxRecDepth 100000
set_option maxHeartbeats 4000000
set_option linter.unusedVariables false
theorem changeforgelaw2_StackMoveBack_ok {g : Gh} {fr : Hl} {w : World} {r : Bool} (l_ : (List Patch)) (vl_1 : Value) (hl_1 : RepSl g l_ vl_1) (from_ : Int) (to : Int) (S : St g [] fr w) (hm : changeforgelaw2_StackMoveBack l_ from_ to = some r) :
  Calls Try.prog 5 [vl_1, .int .i64 from_, .int .i64 to].toArray w (fun en w' => ∃ v, en = .returned v ∧ ∃ (g' : Gh), Le g g' ∧ St g' [] fr w' ∧ .bool r = v) := by
 unfold changeforgelaw2_StackMoveBack at hm
 refine calls_enter (fn := Try.f5) Try.func5 rfl Try.ntmps5 (lb rfl) ?_
 intro a F
 replace F : Fr 51 a [(0, vl_1), (1, .int .i64 from_), (2, .int .i64 to)] := F
 refine wp_seq ?_
 refine wp_region_lit ?_
 refine wl_ev (wn rfl) (ev_assign rfl) F S rfl rfl ?_; clear F a; intro a F
 refine wpList_nil ?_
 replace F := F.sub (e' := [(0, vl_1), (1, .int .i64 from_), (2, .int .i64 to)]) ⟨rfl, rfl, rfl, trivial⟩
 refine then_n ?_
 refine wp_seq ?_
 refine wp_region_lit ?_
 refine wl_ev (wn rfl) (ev_move rfl) F S rfl rfl ?_; clear F a; intro a F
 refine wl_ev (wn rfl) (ev_move rfl) F S rfl rfl ?_; clear F a; intro a F
 refine wl_ev (wn rfl) (ev_move rfl) F S rfl rfl ?_; clear F a; intro a F
 obtain ⟨y1, hy1, hm⟩ := bind_some hm
 refine wl_call (wn rfl) rfl (xs := [.tmp 14, .tmp 15, .tmp 16]) (vs := [vl_1, .int .i64 from_, .int .i64 to]) (cap := []) F rfl rfl tc10 (stack_Move_ok (g := g) (fr := fr) (w := w) l_ vl_1 hl_1 from_ to S hy1) rfl rfl ?_; clear F a S
 rintro _ a w ⟨g1, v1, c1, l1, S, h1, rfl⟩ F; replace S : St g1 [c1] fr w := S
 refine wl_ev (wn rfl) (ev_move rfl) F S rfl rfl ?_; clear F a; intro a F
 refine wl_ev (wn rfl) (ev_extract (vs := [v1, .bool y1.2.1, .agg #[.int .i64 y1.2.2.Code, .int .i64 y1.2.2.Index]]) rfl rfl) F S rfl rfl ?_; clear F a; intro a F
 refine wl_ev (wn rfl) (ev_extract (vs := [v1, .bool y1.2.1, .agg #[.int .i64 y1.2.2.Code, .int .i64 y1.2.2.Index]]) rfl rfl) F S rfl rfl ?_; clear F a; intro a F
 refine wl_ev (wn rfl) (ev_extract (vs := [v1, .bool y1.2.1, .agg #[.int .i64 y1.2.2.Code, .int .i64 y1.2.2.Index]]) rfl rfl) F S rfl rfl ?_; clear F a; intro a F
 refine wl_alloc (wn rfl) rfl tz24 (cs := [.int .i64 0, .int .i64 0]) rfl F S rfl rfl ?_; clear F a S; rintro b1 a w F S
 refine wl_ev (wn rfl) (ev_assign rfl) F S rfl rfl ?_; clear F a; intro a F
 refine wl_ev (wn rfl) (ev_assign rfl) F S rfl rfl ?_; clear F a; intro a F
 refine wl_storeC (wn rfl) rfl F S rfl rfl (vs := [.int .i64 y1.2.2.Code, .int .i64 y1.2.2.Index]) rfl ts24 (one_cons rfl (one_cons rfl one_nil)) (k := 0) rfl (lb rfl) (c' := #[.int .i64 y1.2.2.Code, .int .i64 y1.2.2.Index]) rfl rfl ?_; clear S; intro w S
 replace S : St g1 [[(b1, .cells #[.int .i64 y1.2.2.Code, .int .i64 y1.2.2.Index] 24 (0, 0))], c1] fr w := S
 refine wpList_nil ?_
 replace F := F.sub (e' := [(8, .bool y1.2.1), (7, v1), (9, bp b1 0), (0, vl_1), (1, .int .i64 from_), (2, .int .i64 to)]) ⟨rfl, rfl, rfl, rfl, rfl, rfl, trivial⟩
 refine then_n ?_
 refine wp_seq ?_
 refine wp_seq ?_
 refine wp_region_lit ?_
 refine wl_ev (wn rfl) (ev_fieldAddr' tu24 tf24_0 (z := 0) ts3 rfl ⟨_, rfl⟩ rfl) F S rfl rfl ?_; clear F a; intro a F
 refine wl_ev (wn rfl) (ev_load1 tu3 rfl rfl (box_ptr (cells := [.int .i64 y1.2.2.Code]) 0 rfl 0 rfl (lb rfl))) F S rfl rfl ?_; clear F a; intro a F
 refine wl_ev (wn rfl) (ev_int rfl rfl (bo_neq _ _ _ _)) F S rfl rfl ?_; clear F a; intro a F
 refine wl_ev (wn rfl) (ev_move rfl) F S rfl rfl ?_; clear F a; intro a F
 obtain ⟨x1, hx1, hm⟩ := bind_some hm
 refine wl_cut 3 (fun a w' => w = w' ∧ Fr 51 a [(27, .bool x1), (7, v1), (0, vl_1), (1, .int .i64 from_), (2, .int .i64 to)]) ?_ ?_
 ·clear hm; obtain ⟨hc1, hm⟩ | ⟨hc1, hm⟩ := ite_or hx1
  ·refine wl_skip rfl rfl rfl rfl (ne_ft hc1) F rfl rfl ?_; clear F a; intro a F
   refine wl_skip rfl rfl rfl rfl (ne_ft hc1) F rfl rfl ?_; clear F a; intro a F
   refine wl_ev (wn rfl) (ev_pickT rfl hc1 rfl) F S rfl rfl ?_; clear F a; intro a F
   obtain rfl := sinj hm
   refine wpList_nil (then_n ?_); exact ⟨rfl, F.sub ⟨rfl, rfl, rfl, rfl, rfl, trivial⟩⟩
  ·refine wl_ev (wg F rfl rfl rfl rfl hc1) (ev_move rfl) F S rfl rfl ?_; clear F a; intro a F
   refine wl_ev (wg F rfl rfl rfl rfl hc1) (ev_not rfl) F S rfl rfl ?_; clear F a; intro a F
   refine wl_ev (wn rfl) (ev_pickF rfl hc1 rfl) F S rfl rfl ?_; clear F a; intro a F
   obtain rfl := sinj hm
   refine wpList_nil (then_n ?_); exact ⟨rfl, F.sub ⟨rfl, rfl, rfl, rfl, rfl, trivial⟩⟩
 clear F; rintro a w' ⟨rfl, F⟩
 refine wpList_nil ?_
 refine then_n ?_
 obtain ⟨hc2, hm⟩ | ⟨hc2, hm⟩ := ite_or hm
 ·refine wp_condT F rfl hc2 ?_
  refine wp_seq ?_
  refine wp_region_lit ?_
  obtain ⟨y2, hy2, hm⟩ := bind_some hm
  refine wl_call (wn rfl) rfl (xs := []) (vs := []) (cap := []) F rfl rfl tc15 (changeforgelaw2_dropped_ok (g := g1) (fr := (fl [[(b1, .cells #[.int .i64 y1.2.2.Code, .int .i64 y1.2.2.Index] 24 (0, 0))], c1] fr)) (w := w)  S hy2) rfl rfl ?_; clear F a S
  rintro _ a w ⟨g2, l2, S, rfl⟩ F; replace S : St g2 [[(b1, .cells #[.int .i64 y1.2.2.Code, .int .i64 y1.2.2.Index] 24 (0, 0))], c1] fr w := S
  refine wl_ev (wn rfl) (ev_assign rfl) F S rfl rfl ?_; clear F a; intro a F
  refine wpList_nil ?_
  replace F := F.sub (e' := [(6, .bool y2)]) ⟨rfl, trivial⟩
  refine then_n ?_
  refine wp_ret ?_
  refine then_r ?_
  obtain rfl := sinj hm
  refine post_r (fn := Try.f5) (rs := [.tmp 6]) [.bool y2] F rfl (ar_cons (resT rfl) ar_nil) ?_
  replace S : St g2 [] fr w := St.tail [] _ S
  exact ⟨_, rfl, g2, (l1.trans l2), S, rfl⟩
 ·refine wp_condF F rfl hc2 ?_
  refine wp_skip ?_
  refine then_n ?_
  refine wp_seq ?_
  refine wp_region_lit ?_
  refine wl_ev (wn rfl) (ev_move rfl) F S rfl rfl ?_; clear F a; intro a F
  refine wl_ev (wn rfl) (ev_move rfl) F S rfl rfl ?_; clear F a; intro a F
  refine wl_ev (wn rfl) (ev_move rfl) F S rfl rfl ?_; clear F a; intro a F
  obtain ⟨g3, l3, S, h2⟩ : ∃ gz, Le g1 gz ∧ St gz [[(b1, .cells #[.int .i64 y1.2.2.Code, .int .i64 y1.2.2.Index] 24 (0, 0))]] fr w ∧ RepSl gz y1.1 v1 := ⟨_, Le.add _ _, S.freeze 1 rfl, OwnS.freeze (S.front 1 rfl) h1⟩
  obtain ⟨y3, hy3, hm⟩ := bind_some hm
  refine wl_call (wn rfl) rfl (xs := [.tmp 30, .tmp 31, .tmp 32]) (vs := [v1, .int .i64 to, .int .i64 from_]) (cap := []) F rfl rfl tc10 (stack_Move_ok (g := g3) (fr := (fl [[(b1, .cells #[.int .i64 y1.2.2.Code, .int .i64 y1.2.2.Index] 24 (0, 0))]] fr)) (w := w) y1.1 v1 h2 to from_ S hy3) rfl rfl ?_; clear F a S
  rintro _ a w ⟨g4, v2, c2, l4, S, h3, rfl⟩ F; replace S : St g4 [c2, [(b1, .cells #[.int .i64 y1.2.2.Code, .int .i64 y1.2.2.Index] 24 (0, 0))]] fr w := S
  refine wl_ev (wn rfl) (ev_move rfl) F S rfl rfl ?_; clear F a; intro a F
  refine wl_ev (wn rfl) (ev_extract (vs := [v2, .bool y3.2.1, .agg #[.int .i64 y3.2.2.Code, .int .i64 y3.2.2.Index]]) rfl rfl) F S rfl rfl ?_; clear F a; intro a F
  refine wl_ev (wn rfl) (ev_extract (vs := [v2, .bool y3.2.1, .agg #[.int .i64 y3.2.2.Code, .int .i64 y3.2.2.Index]]) rfl rfl) F S rfl rfl ?_; clear F a; intro a F
  refine wl_ev (wn rfl) (ev_extract (vs := [v2, .bool y3.2.1, .agg #[.int .i64 y3.2.2.Code, .int .i64 y3.2.2.Index]]) rfl rfl) F S rfl rfl ?_; clear F a; intro a F
  refine wl_alloc (wn rfl) rfl tz24 (cs := [.int .i64 0, .int .i64 0]) rfl F S rfl rfl ?_; clear F a S; rintro b2 a w F S
  refine wl_ev (wn rfl) (ev_assign rfl) F S rfl rfl ?_; clear F a; intro a F
  refine wl_ev (wn rfl) (ev_assign rfl) F S rfl rfl ?_; clear F a; intro a F
  refine wl_storeC (wn rfl) rfl F S rfl rfl (vs := [.int .i64 y3.2.2.Code, .int .i64 y3.2.2.Index]) rfl ts24 (one_cons rfl (one_cons rfl one_nil)) (k := 0) rfl (lb rfl) (c' := #[.int .i64 y3.2.2.Code, .int .i64 y3.2.2.Index]) rfl rfl ?_; clear S; intro w S
  replace S : St g4 [[(b2, .cells #[.int .i64 y3.2.2.Code, .int .i64 y3.2.2.Index] 24 (0, 0))], c2, [(b1, .cells #[.int .i64 y1.2.2.Code, .int .i64 y1.2.2.Index] 24 (0, 0))]] fr w := S
  refine wpList_nil ?_
  replace F := F.sub (e' := [(11, .bool y3.2.1), (10, v2), (12, bp b2 0), (0, vl_1)]) ⟨rfl, rfl, rfl, rfl, trivial⟩
  refine then_n ?_
  refine wp_seq ?_
  refine wp_region_lit ?_
  refine wl_ev (wn rfl) (ev_fieldAddr' tu24 tf24_0 (z := 0) ts3 rfl ⟨_, rfl⟩ rfl) F S rfl rfl ?_; clear F a; intro a F
  refine wl_ev (wn rfl) (ev_load1 tu3 rfl rfl (box_ptr (cells := [.int .i64 y3.2.2.Code]) 0 rfl 0 rfl (lb rfl))) F S rfl rfl ?_; clear F a; intro a F
  refine wl_ev (wn rfl) (ev_int rfl rfl (bo_eql _ _ _ _)) F S rfl rfl ?_; clear F a; intro a F
  refine wl_ev (wn rfl) (ev_move rfl) F S rfl rfl ?_; clear F a; intro a F
  obtain ⟨x2, hx2, hm⟩ := bind_some hm
  refine wl_cut 2 (fun a w' => w = w' ∧ Fr 51 a [(42, .bool x2), (10, v2), (0, vl_1)]) ?_ ?_
  ·clear hm; obtain ⟨hc3, hm⟩ | ⟨hc3, hm⟩ := ite_or hx2
   ·refine wl_ev (wg F rfl rfl rfl rfl hc3) (ev_move rfl) F S rfl rfl ?_; clear F a; intro a F
    refine wl_ev (wn rfl) (ev_pickT rfl hc3 rfl) F S rfl rfl ?_; clear F a; intro a F
    obtain rfl := sinj hm
    refine wpList_nil (then_n ?_); exact ⟨rfl, F.sub ⟨rfl, rfl, rfl, trivial⟩⟩
   ·refine wl_skip rfl rfl rfl rfl (ne_tf hc3) F rfl rfl ?_; clear F a; intro a F
    refine wl_ev (wn rfl) (ev_pickF rfl hc3 rfl) F S rfl rfl ?_; clear F a; intro a F
    obtain rfl := sinj hm
    refine wpList_nil (then_n ?_); exact ⟨rfl, F.sub ⟨rfl, rfl, rfl, trivial⟩⟩
  clear F; rintro a w' ⟨rfl, F⟩
  refine wl_ev (wn rfl) (ev_move rfl) F S rfl rfl ?_; clear F a; intro a F
  obtain ⟨g5, l5, S, h4⟩ : ∃ gz, Le g4 gz ∧ St gz [[(b2, .cells #[.int .i64 y3.2.2.Code, .int .i64 y3.2.2.Index] 24 (0, 0))], [(b1, .cells #[.int .i64 y1.2.2.Code, .int .i64 y1.2.2.Index] 24 (0, 0))]] fr w ∧ RepSl gz y3.1 v2 := ⟨_, Le.add _ _, S.freeze 1 rfl, OwnS.freeze (S.front 1 rfl) h3⟩
  obtain ⟨x3, hx3, hm⟩ := bind_some hm
  refine wl_cut 4 (fun a w => ∃ g6, Fr 51 a [(47, .bool x3)] ∧ Le g5 g6 ∧ St g6 [[(b2, .cells #[.int .i64 y3.2.2.Code, .int .i64 y3.2.2.Index] 24 (0, 0))], [(b1, .cells #[.int .i64 y1.2.2.Code, .int .i64 y1.2.2.Index] 24 (0, 0))]] fr w) ?_ ?_
  ·clear hm; obtain ⟨hc4, hm⟩ | ⟨hc4, hm⟩ := ite_or hx3
   ·refine wl_ev (wg F rfl rfl rfl rfl hc4) (ev_move rfl) F S rfl rfl ?_; clear F a; intro a F
    refine wl_ev (wg F rfl rfl rfl rfl hc4) (ev_move rfl) F S rfl rfl ?_; clear F a; intro a F
    obtain ⟨y4, hy4, hm⟩ := bind_some hm
    refine wl_call (wg F rfl rfl rfl rfl hc4) rfl (xs := [.tmp 44, .tmp 45]) (vs := [v2, vl_1]) (cap := []) F rfl rfl tc14 (changeforgeequal_Patches_ok (g := g5) (fr := (fl [[(b2, .cells #[.int .i64 y3.2.2.Code, .int .i64 y3.2.2.Index] 24 (0, 0))], [(b1, .cells #[.int .i64 y1.2.2.Code, .int .i64 y1.2.2.Index] 24 (0, 0))]] fr)) (w := w) y3.1 v2 h4 l_ vl_1 (hl_1.mono (((l1.trans l3).trans l4).trans l5)) S hy4) rfl rfl ?_; clear F a S
    rintro _ a w ⟨g7, l7, S, rfl⟩ F; replace S : St g7 [[(b2, .cells #[.int .i64 y3.2.2.Code, .int .i64 y3.2.2.Index] 24 (0, 0))], [(b1, .cells #[.int .i64 y1.2.2.Code, .int .i64 y1.2.2.Index] 24 (0, 0))]] fr w := S
    refine wl_ev (wn rfl) (ev_pickT rfl hc4 rfl) F S rfl rfl ?_; clear F a; intro a F
    obtain rfl := sinj hm
    refine wpList_nil (then_n ?_); exact ⟨g7, F.sub ⟨rfl, trivial⟩, l7, S⟩
   ·refine wl_skip rfl rfl rfl rfl (ne_tf hc4) F rfl rfl ?_; clear F a; intro a F
    refine wl_skip rfl rfl rfl rfl (ne_tf hc4) F rfl rfl ?_; clear F a; intro a F
    refine wl_skip rfl rfl rfl rfl (ne_tf hc4) F rfl rfl ?_; clear F a; intro a F
    refine wl_ev (wn rfl) (ev_pickF rfl hc4 rfl) F S rfl rfl ?_; clear F a; intro a F
    obtain rfl := sinj hm
    refine wpList_nil (then_n ?_); exact ⟨g5, F.sub ⟨rfl, trivial⟩, (Le.refl _), S⟩
  clear F S; rintro a w ⟨g6, F, l6, S⟩
  refine wl_ev (wn rfl) (ev_move rfl) F S rfl rfl ?_; clear F a; intro a F
  obtain ⟨x4, hx4, hm⟩ := bind_some hm
  refine wl_cut 2 (fun a w => ∃ g8, Fr 51 a [(50, .bool x4)] ∧ Le g6 g8 ∧ St g8 [[(b2, .cells #[.int .i64 y3.2.2.Code, .int .i64 y3.2.2.Index] 24 (0, 0))], [(b1, .cells #[.int .i64 y1.2.2.Code, .int .i64 y1.2.2.Index] 24 (0, 0))]] fr w) ?_ ?_
  ·clear hm; obtain ⟨hc5, hm⟩ | ⟨hc5, hm⟩ := ite_or hx4
   ·obtain ⟨y5, hy5, hm⟩ := bind_some hm
    refine wl_call (wg F rfl rfl rfl rfl hc5) rfl (xs := []) (vs := []) (cap := []) F rfl rfl tc15 (changeforgelaw2_dropped_ok (g := g6) (fr := (fl [[(b2, .cells #[.int .i64 y3.2.2.Code, .int .i64 y3.2.2.Index] 24 (0, 0))], [(b1, .cells #[.int .i64 y1.2.2.Code, .int .i64 y1.2.2.Index] 24 (0, 0))]] fr)) (w := w)  S hy5) rfl rfl ?_; clear F a S
    rintro _ a w ⟨g9, l9, S, rfl⟩ F; replace S : St g9 [[(b2, .cells #[.int .i64 y3.2.2.Code, .int .i64 y3.2.2.Index] 24 (0, 0))], [(b1, .cells #[.int .i64 y1.2.2.Code, .int .i64 y1.2.2.Index] 24 (0, 0))]] fr w := S
    refine wl_ev (wn rfl) (ev_pickT rfl hc5 rfl) F S rfl rfl ?_; clear F a; intro a F
    obtain rfl := sinj hm
    refine wpList_nil (then_n ?_); exact ⟨g9, F.sub ⟨rfl, trivial⟩, l9, S⟩
   ·refine wl_skip rfl rfl rfl rfl (ne_tf hc5) F rfl rfl ?_; clear F a; intro a F
    refine wl_ev (wn rfl) (ev_pickF rfl hc5 rfl) F S rfl rfl ?_; clear F a; intro a F
    obtain rfl := sinj hm
    refine wpList_nil (then_n ?_); exact ⟨g6, F.sub ⟨rfl, trivial⟩, (Le.refl _), S⟩
  clear F S; rintro a w ⟨g8, F, l8, S⟩
  refine wl_ev (wn rfl) (ev_assign rfl) F S rfl rfl ?_; clear F a; intro a F
  refine wpList_nil ?_
  replace F := F.sub (e' := [(6, .bool x4)]) ⟨rfl, trivial⟩
  refine then_n ?_
  refine wp_ret ?_
  obtain rfl := sinj hm
  refine post_r (fn := Try.f5) (rs := [.tmp 6]) [.bool x4] F rfl (ar_cons (resT rfl) ar_nil) ?_
  replace S : St g8 [] fr w := St.tail [] _ S
  exact ⟨_, rfl, g8, (((((l1.trans l3).trans l4).trans l5).trans l6).trans l8), S, rfl⟩
end Go.Dc
