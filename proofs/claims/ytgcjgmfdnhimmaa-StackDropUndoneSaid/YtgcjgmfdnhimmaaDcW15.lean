/- Walks: each function comes to what its model says. -/
import Derived.Test.YtgcjgmfdnhimmaaDcTab
import Derived.Test.YtgcjgmfdnhimmaaDcM
import Derived.Test.YtgcjgmfdnhimmaaDcW10
import Derived.Test.YtgcjgmfdnhimmaaDcW11
import Derived.Test.YtgcjgmfdnhimmaaDcW4
import Derived.Test.YtgcjgmfdnhimmaaDcW5
namespace Go.Dc
open Go Go.Proofs
set_option maxRecDepth 100000
set_option maxHeartbeats 4000000
set_option linter.unusedVariables false
theorem changeforgelaw2_StackDropUndone_ok {g : Gh} {fr : Hl} {w : World} {r : Bool} (base : (List ByteArray)) (vbase1 : Value) (hbase1 : RepSl g base vbase1) (l_ : (List Patch)) (vl_1 : Value) (hl_1 : RepSl g l_ vl_1) (i_ : Int) (S : St g [] fr w) (hm : changeforgelaw2_StackDropUndone base l_ i_ = some r) :
  Calls Try.prog 7 [vbase1, vl_1, .int .i64 i_].toArray w (fun en w' => ∃ v, en = .returned v ∧ ∃ (g' : Gh), Le g g' ∧ St g' [] fr w' ∧ .bool r = v) := by
 unfold changeforgelaw2_StackDropUndone at hm
 refine calls_enter (fn := Try.f7) Try.func7 rfl Try.ntmps7 (lb rfl) ?_
 intro a F
 replace F : Fr 106 a [(0, vbase1), (1, vl_1), (2, .int .i64 i_)] := F
 refine wp_seq ?_
 refine wp_region_lit ?_
 refine wl_ev (wn rfl) (ev_assign rfl) F S rfl rfl ?_; clear F a; intro a F
 refine wpList_nil ?_
 replace F := F.sub (e' := [(0, vbase1), (1, vl_1), (2, .int .i64 i_)]) ⟨rfl, rfl, rfl, trivial⟩
 refine then_n ?_
 refine wp_seq ?_
 refine wp_region_lit ?_
 refine wl_ev (wn rfl) (ev_move rfl) F S rfl rfl ?_; clear F a; intro a F
 refine wl_ev (wn rfl) (ev_move rfl) F S rfl rfl ?_; clear F a; intro a F
 obtain ⟨y1, hy1, hm⟩ := bind_some hm
 refine wl_call (wn rfl) rfl (xs := [.tmp 20, .tmp 21]) (vs := [vl_1, .int .i64 i_]) (cap := []) F rfl rfl tc12 (stack_Drop_ok (g := g) (fr := fr) (w := w) l_ vl_1 hl_1 i_ S hy1) rfl rfl ?_; clear F a S
 rintro _ a w ⟨g1, v1, c1, l1, S, h1, rfl⟩ F; replace S : St g1 [c1] fr w := S
 refine wl_ev (wn rfl) (ev_move rfl) F S rfl rfl ?_; clear F a; intro a F
 refine wl_ev (wn rfl) (ev_extract (vs := [v1, .bool y1.2.1, .agg #[.int .i64 y1.2.2.Code, .int .i64 y1.2.2.Index]]) rfl rfl) F S rfl rfl ?_; clear F a; intro a F
 refine wl_ev (wn rfl) (ev_extract (vs := [v1, .bool y1.2.1, .agg #[.int .i64 y1.2.2.Code, .int .i64 y1.2.2.Index]]) rfl rfl) F S rfl rfl ?_; clear F a; intro a F
 refine wl_ev (wn rfl) (ev_extract (vs := [v1, .bool y1.2.1, .agg #[.int .i64 y1.2.2.Code, .int .i64 y1.2.2.Index]]) rfl rfl) F S rfl rfl ?_; clear F a; intro a F
 refine wl_alloc (wn rfl) rfl tz24 (cs := [.int .i64 0, .int .i64 0]) rfl F S rfl rfl ?_; clear F a S; rintro b1 a w F S
 refine wl_ev (wn rfl) (ev_assign rfl) F S rfl rfl ?_; clear F a; intro a F
 refine wl_ev (wn rfl) (ev_assign rfl) F S rfl rfl ?_; clear F a; intro a F
 refine wl_storeC (wn rfl) rfl F S rfl rfl (vs := [.int .i64 y1.2.2.Code, .int .i64 y1.2.2.Index]) rfl ts24 (one_cons rfl (one_cons rfl one_nil)) (k := 0) rfl (lb rfl) (c' := #[.int .i64 y1.2.2.Code, .int .i64 y1.2.2.Index]) rfl rfl ?_; clear S; intro w S
 replace S : St g1 [[(b1, .cells #[.int .i64 y1.2.2.Code, .int .i64 y1.2.2.Index] 24 (0, 0))], c1] fr w := S
 refine wpList_nil ?_
 replace F := F.sub (e' := [(8, .bool y1.2.1), (7, v1), (9, bp b1 0), (0, vbase1), (1, vl_1), (2, .int .i64 i_)]) ⟨rfl, rfl, rfl, rfl, rfl, rfl, trivial⟩
 refine then_n ?_
 refine wp_seq ?_
 refine wp_region_lit ?_
 refine wl_ev (wn rfl) (ev_move rfl) F S rfl rfl ?_; clear F a; intro a F
 refine wl_ev (wn rfl) (ev_move rfl) F S rfl rfl ?_; clear F a; intro a F
 refine wl_ev (wn rfl) (ev_move rfl) F S rfl rfl ?_; clear F a; intro a F
 refine wl_ev (wn rfl) (ev_lenSh hl_1 rfl tu22) F S rfl rfl ?_; clear F a; intro a F
 obtain ⟨z1, hz1, hm⟩ := bind_some hm
 refine wl_ev (wn rfl) (ev_int rfl rfl (bo_sub hz1)) F S rfl rfl ?_; clear F a; intro a F
 obtain ⟨y2, hy2, hm⟩ := bind_some hm
 refine wl_call (wn rfl) rfl (xs := [.tmp 27, .tmp 28, .tmp 31]) (vs := [vl_1, .int .i64 i_, .int .i64 z1]) (cap := []) F rfl rfl tc10 (stack_Move_ok (g := g1) (fr := (fl [[(b1, .cells #[.int .i64 y1.2.2.Code, .int .i64 y1.2.2.Index] 24 (0, 0))], c1] fr)) (w := w) l_ vl_1 (hl_1.mono l1) i_ z1 S hy2) rfl rfl ?_; clear F a S
 rintro _ a w ⟨g2, v2, c2, l2, S, h2, rfl⟩ F; replace S : St g2 [c2, [(b1, .cells #[.int .i64 y1.2.2.Code, .int .i64 y1.2.2.Index] 24 (0, 0))], c1] fr w := S
 refine wl_ev (wn rfl) (ev_move rfl) F S rfl rfl ?_; clear F a; intro a F
 refine wl_ev (wn rfl) (ev_extract (vs := [v2, .bool y2.2.1, .agg #[.int .i64 y2.2.2.Code, .int .i64 y2.2.2.Index]]) rfl rfl) F S rfl rfl ?_; clear F a; intro a F
 refine wl_ev (wn rfl) (ev_extract (vs := [v2, .bool y2.2.1, .agg #[.int .i64 y2.2.2.Code, .int .i64 y2.2.2.Index]]) rfl rfl) F S rfl rfl ?_; clear F a; intro a F
 refine wl_ev (wn rfl) (ev_extract (vs := [v2, .bool y2.2.1, .agg #[.int .i64 y2.2.2.Code, .int .i64 y2.2.2.Index]]) rfl rfl) F S rfl rfl ?_; clear F a; intro a F
 refine wl_alloc (wn rfl) rfl tz24 (cs := [.int .i64 0, .int .i64 0]) rfl F S rfl rfl ?_; clear F a S; rintro b2 a w F S
 refine wl_ev (wn rfl) (ev_assign rfl) F S rfl rfl ?_; clear F a; intro a F
 refine wl_ev (wn rfl) (ev_assign rfl) F S rfl rfl ?_; clear F a; intro a F
 refine wl_storeC (wn rfl) rfl F S rfl rfl (vs := [.int .i64 y2.2.2.Code, .int .i64 y2.2.2.Index]) rfl ts24 (one_cons rfl (one_cons rfl one_nil)) (k := 0) rfl (lb rfl) (c' := #[.int .i64 y2.2.2.Code, .int .i64 y2.2.2.Index]) rfl rfl ?_; clear S; intro w S
 replace S : St g2 [[(b2, .cells #[.int .i64 y2.2.2.Code, .int .i64 y2.2.2.Index] 24 (0, 0))], c2, [(b1, .cells #[.int .i64 y1.2.2.Code, .int .i64 y1.2.2.Index] 24 (0, 0))], c1] fr w := S
 refine wpList_nil ?_
 replace F := F.sub (e' := [(11, .bool y2.2.1), (10, v2), (12, bp b2 0), (8, .bool y1.2.1), (7, v1), (9, bp b1 0), (0, vbase1), (1, vl_1)]) ⟨rfl, rfl, rfl, rfl, rfl, rfl, rfl, rfl, trivial⟩
 refine then_n ?_
 refine wp_seq ?_
 refine wp_region_lit ?_
 refine wl_ev (wn rfl) (ev_move rfl) F S rfl rfl ?_; clear F a; intro a F
 refine wl_ev (wn rfl) (ev_move rfl) F S rfl rfl ?_; clear F a; intro a F
 obtain ⟨y3, hy3, hm⟩ := bind_some hm
 refine wl_call (wn rfl) rfl (xs := [.tmp 37, .tmp 38]) (vs := [vbase1, vl_1]) (cap := []) F rfl rfl tc16 (stack_Apply_ok (g := g2) (fr := (fl [[(b2, .cells #[.int .i64 y2.2.2.Code, .int .i64 y2.2.2.Index] 24 (0, 0))], c2, [(b1, .cells #[.int .i64 y1.2.2.Code, .int .i64 y1.2.2.Index] 24 (0, 0))], c1] fr)) (w := w) base vbase1 (hbase1.mono (l1.trans l2)) l_ vl_1 (hl_1.mono (l1.trans l2)) S hy3) rfl rfl ?_; clear F a S
 rintro _ a w ⟨g3, v3, c3, l3, S, h3, rfl⟩ F; replace S : St g3 [c3, [(b2, .cells #[.int .i64 y2.2.2.Code, .int .i64 y2.2.2.Index] 24 (0, 0))], c2, [(b1, .cells #[.int .i64 y1.2.2.Code, .int .i64 y1.2.2.Index] 24 (0, 0))], c1] fr w := S
 refine wl_ev (wn rfl) (ev_move rfl) F S rfl rfl ?_; clear F a; intro a F
 refine wl_ev (wn rfl) (ev_extract (vs := [v3, .agg #[.int .i64 y3.2.Code, .int .i64 y3.2.Index]]) rfl rfl) F S rfl rfl ?_; clear F a; intro a F
 refine wl_ev (wn rfl) (ev_extract (vs := [v3, .agg #[.int .i64 y3.2.Code, .int .i64 y3.2.Index]]) rfl rfl) F S rfl rfl ?_; clear F a; intro a F
 refine wl_alloc (wn rfl) rfl tz24 (cs := [.int .i64 0, .int .i64 0]) rfl F S rfl rfl ?_; clear F a S; rintro b3 a w F S
 refine wl_ev (wn rfl) (ev_assign rfl) F S rfl rfl ?_; clear F a; intro a F
 refine wl_storeC (wn rfl) rfl F S rfl rfl (vs := [.int .i64 y3.2.Code, .int .i64 y3.2.Index]) rfl ts24 (one_cons rfl (one_cons rfl one_nil)) (k := 0) rfl (lb rfl) (c' := #[.int .i64 y3.2.Code, .int .i64 y3.2.Index]) rfl rfl ?_; clear S; intro w S
 replace S : St g3 [[(b3, .cells #[.int .i64 y3.2.Code, .int .i64 y3.2.Index] 24 (0, 0))], c3, [(b2, .cells #[.int .i64 y2.2.2.Code, .int .i64 y2.2.2.Index] 24 (0, 0))], c2, [(b1, .cells #[.int .i64 y1.2.2.Code, .int .i64 y1.2.2.Index] 24 (0, 0))], c1] fr w := S
 refine wpList_nil ?_
 replace F := F.sub (e' := [(13, v3), (14, bp b3 0), (11, .bool y2.2.1), (10, v2), (12, bp b2 0), (8, .bool y1.2.1), (7, v1), (9, bp b1 0), (0, vbase1)]) ⟨rfl, rfl, rfl, rfl, rfl, rfl, rfl, rfl, rfl, trivial⟩
 refine then_n ?_
 refine wp_seq ?_
 refine wp_seq ?_
 refine wp_region_lit ?_
 refine wl_ev (wn rfl) (ev_fieldAddr' tu24 tf24_0 (z := 0) ts3 rfl ⟨_, rfl⟩ rfl) F S rfl rfl ?_; clear F a; intro a F
 refine wl_ev (wn rfl) (ev_load1 tu3 rfl rfl (box_ptr (cells := [.int .i64 y1.2.2.Code]) 4 rfl 0 rfl (lb rfl))) F S rfl rfl ?_; clear F a; intro a F
 refine wl_ev (wn rfl) (ev_int rfl rfl (bo_neq _ _ _ _)) F S rfl rfl ?_; clear F a; intro a F
 refine wl_ev (wn rfl) (ev_move rfl) F S rfl rfl ?_; clear F a; intro a F
 obtain ⟨x1, hx1, hm⟩ := bind_some hm
 refine wl_cut 4 (fun a w' => w = w' ∧ Fr 106 a [(49, .bool x1), (13, v3), (14, bp b3 0), (11, .bool y2.2.1), (10, v2), (8, .bool y1.2.1), (7, v1), (0, vbase1)]) ?_ ?_
 ·clear hm; obtain ⟨hc1, hm⟩ | ⟨hc1, hm⟩ := ite_or hx1
  ·refine wl_skip rfl rfl rfl rfl (ne_ft hc1) F rfl rfl ?_; clear F a; intro a F
   refine wl_skip rfl rfl rfl rfl (ne_ft hc1) F rfl rfl ?_; clear F a; intro a F
   refine wl_skip rfl rfl rfl rfl (ne_ft hc1) F rfl rfl ?_; clear F a; intro a F
   refine wl_ev (wn rfl) (ev_pickT rfl hc1 rfl) F S rfl rfl ?_; clear F a; intro a F
   obtain rfl := sinj hm
   refine wpList_nil (then_n ?_); exact ⟨rfl, F.sub ⟨rfl, rfl, rfl, rfl, rfl, rfl, rfl, rfl, trivial⟩⟩
  ·refine wl_ev (wg F rfl rfl rfl rfl hc1) (ev_fieldAddr' tu24 tf24_0 (z := 0) ts3 rfl ⟨_, rfl⟩ rfl) F S rfl rfl ?_; clear F a; intro a F
   refine wl_ev (wg F rfl rfl rfl rfl hc1) (ev_load1 tu3 rfl rfl (box_ptr (cells := [.int .i64 y2.2.2.Code]) 2 rfl 0 rfl (lb rfl))) F S rfl rfl ?_; clear F a; intro a F
   refine wl_ev (wg F rfl rfl rfl rfl hc1) (ev_int rfl rfl (bo_neq _ _ _ _)) F S rfl rfl ?_; clear F a; intro a F
   refine wl_ev (wn rfl) (ev_pickF rfl hc1 rfl) F S rfl rfl ?_; clear F a; intro a F
   obtain rfl := sinj hm
   refine wpList_nil (then_n ?_); exact ⟨rfl, F.sub ⟨rfl, rfl, rfl, rfl, rfl, rfl, rfl, rfl, trivial⟩⟩
 clear F; rintro a w' ⟨rfl, F⟩
 refine wl_ev (wn rfl) (ev_move rfl) F S rfl rfl ?_; clear F a; intro a F
 obtain ⟨x2, hx2, hm⟩ := bind_some hm
 refine wl_cut 4 (fun a w' => w = w' ∧ Fr 106 a [(54, .bool x2), (13, v3), (11, .bool y2.2.1), (10, v2), (8, .bool y1.2.1), (7, v1), (0, vbase1)]) ?_ ?_
 ·clear hm; obtain ⟨hc2, hm⟩ | ⟨hc2, hm⟩ := ite_or hx2
  ·refine wl_skip rfl rfl rfl rfl (ne_ft hc2) F rfl rfl ?_; clear F a; intro a F
   refine wl_skip rfl rfl rfl rfl (ne_ft hc2) F rfl rfl ?_; clear F a; intro a F
   refine wl_skip rfl rfl rfl rfl (ne_ft hc2) F rfl rfl ?_; clear F a; intro a F
   refine wl_ev (wn rfl) (ev_pickT rfl hc2 rfl) F S rfl rfl ?_; clear F a; intro a F
   obtain rfl := sinj hm
   refine wpList_nil (then_n ?_); exact ⟨rfl, F.sub ⟨rfl, rfl, rfl, rfl, rfl, rfl, rfl, trivial⟩⟩
  ·refine wl_ev (wg F rfl rfl rfl rfl hc2) (ev_fieldAddr' tu24 tf24_0 (z := 0) ts3 rfl ⟨_, rfl⟩ rfl) F S rfl rfl ?_; clear F a; intro a F
   refine wl_ev (wg F rfl rfl rfl rfl hc2) (ev_load1 tu3 rfl rfl (box_ptr (cells := [.int .i64 y3.2.Code]) 0 rfl 0 rfl (lb rfl))) F S rfl rfl ?_; clear F a; intro a F
   refine wl_ev (wg F rfl rfl rfl rfl hc2) (ev_int rfl rfl (bo_neq _ _ _ _)) F S rfl rfl ?_; clear F a; intro a F
   refine wl_ev (wn rfl) (ev_pickF rfl hc2 rfl) F S rfl rfl ?_; clear F a; intro a F
   obtain rfl := sinj hm
   refine wpList_nil (then_n ?_); exact ⟨rfl, F.sub ⟨rfl, rfl, rfl, rfl, rfl, rfl, rfl, trivial⟩⟩
 clear F; rintro a w' ⟨rfl, F⟩
 refine wl_ev (wn rfl) (ev_move rfl) F S rfl rfl ?_; clear F a; intro a F
 obtain ⟨x3, hx3, hm⟩ := bind_some hm
 refine wl_cut 3 (fun a w' => w = w' ∧ Fr 106 a [(58, .bool x3), (13, v3), (11, .bool y2.2.1), (10, v2), (7, v1), (0, vbase1)]) ?_ ?_
 ·clear hm; obtain ⟨hc3, hm⟩ | ⟨hc3, hm⟩ := ite_or hx3
  ·refine wl_skip rfl rfl rfl rfl (ne_ft hc3) F rfl rfl ?_; clear F a; intro a F
   refine wl_skip rfl rfl rfl rfl (ne_ft hc3) F rfl rfl ?_; clear F a; intro a F
   refine wl_ev (wn rfl) (ev_pickT rfl hc3 rfl) F S rfl rfl ?_; clear F a; intro a F
   obtain rfl := sinj hm
   refine wpList_nil (then_n ?_); exact ⟨rfl, F.sub ⟨rfl, rfl, rfl, rfl, rfl, rfl, trivial⟩⟩
  ·refine wl_ev (wg F rfl rfl rfl rfl hc3) (ev_move rfl) F S rfl rfl ?_; clear F a; intro a F
   refine wl_ev (wg F rfl rfl rfl rfl hc3) (ev_not rfl) F S rfl rfl ?_; clear F a; intro a F
   refine wl_ev (wn rfl) (ev_pickF rfl hc3 rfl) F S rfl rfl ?_; clear F a; intro a F
   obtain rfl := sinj hm
   refine wpList_nil (then_n ?_); exact ⟨rfl, F.sub ⟨rfl, rfl, rfl, rfl, rfl, rfl, trivial⟩⟩
 clear F; rintro a w' ⟨rfl, F⟩
 refine wl_ev (wn rfl) (ev_move rfl) F S rfl rfl ?_; clear F a; intro a F
 obtain ⟨x4, hx4, hm⟩ := bind_some hm
 refine wl_cut 3 (fun a w' => w = w' ∧ Fr 106 a [(62, .bool x4), (13, v3), (10, v2), (7, v1), (0, vbase1)]) ?_ ?_
 ·clear hm; obtain ⟨hc4, hm⟩ | ⟨hc4, hm⟩ := ite_or hx4
  ·refine wl_skip rfl rfl rfl rfl (ne_ft hc4) F rfl rfl ?_; clear F a; intro a F
   refine wl_skip rfl rfl rfl rfl (ne_ft hc4) F rfl rfl ?_; clear F a; intro a F
   refine wl_ev (wn rfl) (ev_pickT rfl hc4 rfl) F S rfl rfl ?_; clear F a; intro a F
   obtain rfl := sinj hm
   refine wpList_nil (then_n ?_); exact ⟨rfl, F.sub ⟨rfl, rfl, rfl, rfl, rfl, trivial⟩⟩
  ·refine wl_ev (wg F rfl rfl rfl rfl hc4) (ev_move rfl) F S rfl rfl ?_; clear F a; intro a F
   refine wl_ev (wg F rfl rfl rfl rfl hc4) (ev_not rfl) F S rfl rfl ?_; clear F a; intro a F
   refine wl_ev (wn rfl) (ev_pickF rfl hc4 rfl) F S rfl rfl ?_; clear F a; intro a F
   obtain rfl := sinj hm
   refine wpList_nil (then_n ?_); exact ⟨rfl, F.sub ⟨rfl, rfl, rfl, rfl, rfl, trivial⟩⟩
 clear F; rintro a w' ⟨rfl, F⟩
 refine wl_ev (wn rfl) (ev_move rfl) F S rfl rfl ?_; clear F a; intro a F
 obtain ⟨x5, hx5, hm⟩ := bind_some hm
 refine wl_cut 4 (fun a w' => w = w' ∧ Fr 106 a [(67, .bool x5), (13, v3), (10, v2), (7, v1), (0, vbase1)]) ?_ ?_
 ·clear hm; obtain ⟨hc5, hm⟩ | ⟨hc5, hm⟩ := ite_or hx5
  ·refine wl_skip rfl rfl rfl rfl (ne_ft hc5) F rfl rfl ?_; clear F a; intro a F
   refine wl_skip rfl rfl rfl rfl (ne_ft hc5) F rfl rfl ?_; clear F a; intro a F
   refine wl_skip rfl rfl rfl rfl (ne_ft hc5) F rfl rfl ?_; clear F a; intro a F
   refine wl_ev (wn rfl) (ev_pickT rfl hc5 rfl) F S rfl rfl ?_; clear F a; intro a F
   obtain rfl := sinj hm
   refine wpList_nil (then_n ?_); exact ⟨rfl, F.sub ⟨rfl, rfl, rfl, rfl, rfl, trivial⟩⟩
  ·refine wl_ev (wg F rfl rfl rfl rfl hc5) (ev_move rfl) F S rfl rfl ?_; clear F a; intro a F
   refine wl_ev (wg F rfl rfl rfl rfl hc5) (ev_lenOw h2 rfl tu22) F S rfl rfl ?_; clear F a; intro a F
   refine wl_ev (wg F rfl rfl rfl rfl hc5) (ev_int rfl rfl (bo_eql _ _ _ _)) F S rfl rfl ?_; clear F a; intro a F
   refine wl_ev (wn rfl) (ev_pickF rfl hc5 rfl) F S rfl rfl ?_; clear F a; intro a F
   obtain rfl := sinj hm
   refine wpList_nil (then_n ?_); exact ⟨rfl, F.sub ⟨rfl, rfl, rfl, rfl, rfl, trivial⟩⟩
 clear F; rintro a w' ⟨rfl, F⟩
 refine wpList_nil ?_
 refine then_n ?_
 obtain ⟨hc6, hm⟩ | ⟨hc6, hm⟩ := ite_or hm
 ·refine wp_condT F rfl hc6 ?_
  refine wp_seq ?_
  refine wp_region_lit ?_
  obtain ⟨y4, hy4, hm⟩ := bind_some hm
  refine wl_call (wn rfl) rfl (xs := []) (vs := []) (cap := []) F rfl rfl tc15 (changeforgelaw2_dropped_ok (g := g3) (fr := (fl [[(b3, .cells #[.int .i64 y3.2.Code, .int .i64 y3.2.Index] 24 (0, 0))], c3, [(b2, .cells #[.int .i64 y2.2.2.Code, .int .i64 y2.2.2.Index] 24 (0, 0))], c2, [(b1, .cells #[.int .i64 y1.2.2.Code, .int .i64 y1.2.2.Index] 24 (0, 0))], c1] fr)) (w := w)  S hy4) rfl rfl ?_; clear F a S
  rintro _ a w ⟨g4, l4, S, rfl⟩ F; replace S : St g4 [[(b3, .cells #[.int .i64 y3.2.Code, .int .i64 y3.2.Index] 24 (0, 0))], c3, [(b2, .cells #[.int .i64 y2.2.2.Code, .int .i64 y2.2.2.Index] 24 (0, 0))], c2, [(b1, .cells #[.int .i64 y1.2.2.Code, .int .i64 y1.2.2.Index] 24 (0, 0))], c1] fr w := S
  refine wl_ev (wn rfl) (ev_assign rfl) F S rfl rfl ?_; clear F a; intro a F
  refine wpList_nil ?_
  replace F := F.sub (e' := [(6, .bool y4)]) ⟨rfl, trivial⟩
  refine then_n ?_
  refine wp_ret ?_
  refine then_r ?_
  obtain rfl := sinj hm
  refine post_r (fn := Try.f7) (rs := [.tmp 6]) [.bool y4] F rfl (ar_cons (resT rfl) ar_nil) ?_
  replace S : St g4 [] fr w := St.tail [] _ S
  exact ⟨_, rfl, g4, (((l1.trans l2).trans l3).trans l4), S, rfl⟩
 ·refine wp_condF F rfl hc6 ?_
  refine wp_skip ?_
  refine then_n ?_
  refine wp_seq ?_
  refine wp_region_lit ?_
  refine wl_ev (wn rfl) (ev_move rfl) F S rfl rfl ?_; clear F a; intro a F
  refine wl_ev (wn rfl) (ev_move rfl) F S rfl rfl ?_; clear F a; intro a F
  obtain ⟨g5, l5, S, h4⟩ : ∃ gz, Le g3 gz ∧ St gz [[(b3, .cells #[.int .i64 y3.2.Code, .int .i64 y3.2.Index] 24 (0, 0))], c3, [(b2, .cells #[.int .i64 y2.2.2.Code, .int .i64 y2.2.2.Index] 24 (0, 0))], c2, [(b1, .cells #[.int .i64 y1.2.2.Code, .int .i64 y1.2.2.Index] 24 (0, 0))]] fr w ∧ RepSl gz y1.1 v1 := ⟨_, Le.add _ _, S.freeze 5 rfl, OwnS.freeze (S.front 5 rfl) (h1.mono (l2.trans l3))⟩
  obtain ⟨y5, hy5, hm⟩ := bind_some hm
  refine wl_call (wn rfl) rfl (xs := [.tmp 70, .tmp 71]) (vs := [vbase1, v1]) (cap := []) F rfl rfl tc16 (stack_Apply_ok (g := g5) (fr := (fl [[(b3, .cells #[.int .i64 y3.2.Code, .int .i64 y3.2.Index] 24 (0, 0))], c3, [(b2, .cells #[.int .i64 y2.2.2.Code, .int .i64 y2.2.2.Index] 24 (0, 0))], c2, [(b1, .cells #[.int .i64 y1.2.2.Code, .int .i64 y1.2.2.Index] 24 (0, 0))]] fr)) (w := w) base vbase1 (hbase1.mono (((l1.trans l2).trans l3).trans l5)) y1.1 v1 h4 S hy5) rfl rfl ?_; clear F a S
  rintro _ a w ⟨g6, v4, c4, l6, S, h5, rfl⟩ F; replace S : St g6 [c4, [(b3, .cells #[.int .i64 y3.2.Code, .int .i64 y3.2.Index] 24 (0, 0))], c3, [(b2, .cells #[.int .i64 y2.2.2.Code, .int .i64 y2.2.2.Index] 24 (0, 0))], c2, [(b1, .cells #[.int .i64 y1.2.2.Code, .int .i64 y1.2.2.Index] 24 (0, 0))]] fr w := S
  refine wl_ev (wn rfl) (ev_move rfl) F S rfl rfl ?_; clear F a; intro a F
  refine wl_ev (wn rfl) (ev_extract (vs := [v4, .agg #[.int .i64 y5.2.Code, .int .i64 y5.2.Index]]) rfl rfl) F S rfl rfl ?_; clear F a; intro a F
  refine wl_ev (wn rfl) (ev_extract (vs := [v4, .agg #[.int .i64 y5.2.Code, .int .i64 y5.2.Index]]) rfl rfl) F S rfl rfl ?_; clear F a; intro a F
  refine wl_alloc (wn rfl) rfl tz24 (cs := [.int .i64 0, .int .i64 0]) rfl F S rfl rfl ?_; clear F a S; rintro b4 a w F S
  refine wl_ev (wn rfl) (ev_assign rfl) F S rfl rfl ?_; clear F a; intro a F
  refine wl_storeC (wn rfl) rfl F S rfl rfl (vs := [.int .i64 y5.2.Code, .int .i64 y5.2.Index]) rfl ts24 (one_cons rfl (one_cons rfl one_nil)) (k := 0) rfl (lb rfl) (c' := #[.int .i64 y5.2.Code, .int .i64 y5.2.Index]) rfl rfl ?_; clear S; intro w S
  replace S : St g6 [[(b4, .cells #[.int .i64 y5.2.Code, .int .i64 y5.2.Index] 24 (0, 0))], c4, [(b3, .cells #[.int .i64 y3.2.Code, .int .i64 y3.2.Index] 24 (0, 0))], c3, [(b2, .cells #[.int .i64 y2.2.2.Code, .int .i64 y2.2.2.Index] 24 (0, 0))], c2, [(b1, .cells #[.int .i64 y1.2.2.Code, .int .i64 y1.2.2.Index] 24 (0, 0))]] fr w := S
  refine wpList_nil ?_
  replace F := F.sub (e' := [(15, v4), (16, bp b4 0), (13, v3), (10, v2)]) ⟨rfl, rfl, rfl, rfl, trivial⟩
  refine then_n ?_
  refine wp_seq ?_
  refine wp_seq ?_
  refine wp_region_lit ?_
  refine wl_ev (wn rfl) (ev_fieldAddr' tu24 tf24_0 (z := 0) ts3 rfl ⟨_, rfl⟩ rfl) F S rfl rfl ?_; clear F a; intro a F
  refine wl_ev (wn rfl) (ev_load1 tu3 rfl rfl (box_ptr (cells := [.int .i64 y5.2.Code]) 0 rfl 0 rfl (lb rfl))) F S rfl rfl ?_; clear F a; intro a F
  refine wl_ev (wn rfl) (ev_int rfl rfl (bo_neq _ _ _ _)) F S rfl rfl ?_; clear F a; intro a F
  refine wpList_nil ?_
  replace F := F.sub (e' := [(77, .bool (!decide (y5.2.Code = 0))), (15, v4), (16, bp b4 0), (13, v3), (10, v2)]) ⟨rfl, rfl, rfl, rfl, rfl, trivial⟩
  refine then_n ?_
  obtain ⟨hc7, hm⟩ | ⟨hc7, hm⟩ := ite_or hm
  ·refine wp_condT F rfl hc7 ?_
   refine wp_seq ?_
   refine wp_region_lit ?_
   refine wl_ev (wn rfl) (ev_fieldAddr' tu24 tf24_0 (z := 0) ts3 rfl ⟨_, rfl⟩ rfl) F S rfl rfl ?_; clear F a; intro a F
   refine wl_ev (wn rfl) (ev_load1 tu3 rfl rfl (box_ptr (cells := [.int .i64 y5.2.Code]) 0 rfl 0 rfl (lb rfl))) F S rfl rfl ?_; clear F a; intro a F
   refine wl_ev (wn rfl) (ev_int rfl rfl (bo_eql _ _ _ _)) F S rfl rfl ?_; clear F a; intro a F
   refine wl_ev (wn rfl) (ev_move rfl) F S rfl rfl ?_; clear F a; intro a F
   obtain ⟨x6, hx6, hm⟩ := bind_some hm
   refine wl_cut 2 (fun a w => ∃ g7, Fr 106 a [(83, .bool x6)] ∧ Le g6 g7 ∧ St g7 [[(b4, .cells #[.int .i64 y5.2.Code, .int .i64 y5.2.Index] 24 (0, 0))], c4, [(b3, .cells #[.int .i64 y3.2.Code, .int .i64 y3.2.Index] 24 (0, 0))], c3, [(b2, .cells #[.int .i64 y2.2.2.Code, .int .i64 y2.2.2.Index] 24 (0, 0))], c2, [(b1, .cells #[.int .i64 y1.2.2.Code, .int .i64 y1.2.2.Index] 24 (0, 0))]] fr w) ?_ ?_
   ·clear hm; obtain ⟨hc8, hm⟩ | ⟨hc8, hm⟩ := ite_or hx6
    ·obtain ⟨y6, hy6, hm⟩ := bind_some hm
     refine wl_call (wg F rfl rfl rfl rfl hc8) rfl (xs := []) (vs := []) (cap := []) F rfl rfl tc15 (changeforgelaw2_dropped_ok (g := g6) (fr := (fl [[(b4, .cells #[.int .i64 y5.2.Code, .int .i64 y5.2.Index] 24 (0, 0))], c4, [(b3, .cells #[.int .i64 y3.2.Code, .int .i64 y3.2.Index] 24 (0, 0))], c3, [(b2, .cells #[.int .i64 y2.2.2.Code, .int .i64 y2.2.2.Index] 24 (0, 0))], c2, [(b1, .cells #[.int .i64 y1.2.2.Code, .int .i64 y1.2.2.Index] 24 (0, 0))]] fr)) (w := w)  S hy6) rfl rfl ?_; clear F a S
     rintro _ a w ⟨g8, l8, S, rfl⟩ F; replace S : St g8 [[(b4, .cells #[.int .i64 y5.2.Code, .int .i64 y5.2.Index] 24 (0, 0))], c4, [(b3, .cells #[.int .i64 y3.2.Code, .int .i64 y3.2.Index] 24 (0, 0))], c3, [(b2, .cells #[.int .i64 y2.2.2.Code, .int .i64 y2.2.2.Index] 24 (0, 0))], c2, [(b1, .cells #[.int .i64 y1.2.2.Code, .int .i64 y1.2.2.Index] 24 (0, 0))]] fr w := S
     refine wl_ev (wn rfl) (ev_pickT rfl hc8 rfl) F S rfl rfl ?_; clear F a; intro a F
     obtain rfl := sinj hm
     refine wpList_nil (then_n ?_); exact ⟨g8, F.sub ⟨rfl, trivial⟩, l8, S⟩
    ·refine wl_skip rfl rfl rfl rfl (ne_tf hc8) F rfl rfl ?_; clear F a; intro a F
     refine wl_ev (wn rfl) (ev_pickF rfl hc8 rfl) F S rfl rfl ?_; clear F a; intro a F
     obtain rfl := sinj hm
     refine wpList_nil (then_n ?_); exact ⟨g6, F.sub ⟨rfl, trivial⟩, (Le.refl _), S⟩
   clear F S; rintro a w ⟨g7, F, l7, S⟩
   refine wl_ev (wn rfl) (ev_assign rfl) F S rfl rfl ?_; clear F a; intro a F
   refine wpList_nil ?_
   replace F := F.sub (e' := [(6, .bool x6)]) ⟨rfl, trivial⟩
   refine then_n ?_
   refine wp_ret ?_
   refine then_r ?_
   obtain rfl := sinj hm
   refine post_r (fn := Try.f7) (rs := [.tmp 6]) [.bool x6] F rfl (ar_cons (resT rfl) ar_nil) ?_
   replace S : St g7 [] fr w := St.tail [] _ S
   exact ⟨_, rfl, g7, (((((l1.trans l2).trans l3).trans l5).trans l6).trans l7), S, rfl⟩
  ·refine wp_condF F rfl hc7 ?_
   refine wp_skip ?_
   refine then_n ?_
   refine wp_seq ?_
   refine wp_region_lit ?_
   refine wl_ev (wn rfl) (ev_move rfl) F S rfl rfl ?_; clear F a; intro a F
   refine wl_ev (wn rfl) (ev_move rfl) F S rfl rfl ?_; clear F a; intro a F
   refine wl_ev (wn rfl) (ev_lenOw h2 rfl tu22) F S rfl rfl ?_; clear F a; intro a F
   obtain ⟨z2, hz2, hm⟩ := bind_some hm
   refine wl_ev (wn rfl) (ev_int rfl rfl (bo_sub hz2)) F S rfl rfl ?_; clear F a; intro a F
   obtain ⟨y7, hy7, hm⟩ := bind_some hm
   refine wl_ev (wn rfl) (ev_idxO (h2.mono ((l3.trans l5).trans l6)) hy7 tu22 ts38 rfl rfl) F S rfl rfl ?_; clear F a; intro a F
   obtain ⟨cs1, hr1, hq1⟩ := elemO (h2.mono ((l3.trans l5).trans l6)) hy7
   obtain ⟨v5, rfl, h6⟩ := rep_Patch hr1
   refine wl_ev (wn rfl) (ev_loadA tu38 rfl (cs := [v5]) ts38 rfl (hq1 _ _ 5 rfl)) F S rfl rfl ?_; clear F a; intro a F
   refine wl_ev (wn rfl) (ev_move rfl) F S rfl rfl ?_; clear F a; intro a F
   obtain ⟨g9, l9, S, h7⟩ : ∃ gz, Le g6 gz ∧ St gz [[(b4, .cells #[.int .i64 y5.2.Code, .int .i64 y5.2.Index] 24 (0, 0))], [(b3, .cells #[.int .i64 y3.2.Code, .int .i64 y3.2.Index] 24 (0, 0))], c3, [(b2, .cells #[.int .i64 y2.2.2.Code, .int .i64 y2.2.2.Index] 24 (0, 0))], c2, [(b1, .cells #[.int .i64 y1.2.2.Code, .int .i64 y1.2.2.Index] 24 (0, 0))]] fr w ∧ RepSl gz y5.1 v4 := ⟨_, Le.add _ _, S.freeze 1 rfl, OwnS.freeze (S.front 1 rfl) h5⟩
   obtain ⟨y8, hy8, hm⟩ := bind_some hm
   refine wl_call (wn rfl) rfl (xs := [.tmp 90, .tmp 91]) (vs := [.agg #[v5], v4]) (cap := []) F rfl rfl tc19 (textpatch_Apply_ok (g := g9) (fr := (fl [[(b4, .cells #[.int .i64 y5.2.Code, .int .i64 y5.2.Index] 24 (0, 0))], [(b3, .cells #[.int .i64 y3.2.Code, .int .i64 y3.2.Index] 24 (0, 0))], c3, [(b2, .cells #[.int .i64 y2.2.2.Code, .int .i64 y2.2.2.Index] 24 (0, 0))], c2, [(b1, .cells #[.int .i64 y1.2.2.Code, .int .i64 y1.2.2.Index] 24 (0, 0))]] fr)) (w := w) y7 v5 (h6.mono l9) y5.1 v4 h7 S hy8) rfl rfl ?_; clear F a S
   rintro _ a w ⟨g10, v6, c5, l10, S, h8, rfl⟩ F; replace S : St g10 [c5, [(b4, .cells #[.int .i64 y5.2.Code, .int .i64 y5.2.Index] 24 (0, 0))], [(b3, .cells #[.int .i64 y3.2.Code, .int .i64 y3.2.Index] 24 (0, 0))], c3, [(b2, .cells #[.int .i64 y2.2.2.Code, .int .i64 y2.2.2.Index] 24 (0, 0))], c2, [(b1, .cells #[.int .i64 y1.2.2.Code, .int .i64 y1.2.2.Index] 24 (0, 0))]] fr w := S
   refine wl_ev (wn rfl) (ev_move rfl) F S rfl rfl ?_; clear F a; intro a F
   refine wl_ev (wn rfl) (ev_extract (vs := [v6, .agg #[.int .i64 y8.2.Code, .int .i64 y8.2.Index]]) rfl rfl) F S rfl rfl ?_; clear F a; intro a F
   refine wl_ev (wn rfl) (ev_extract (vs := [v6, .agg #[.int .i64 y8.2.Code, .int .i64 y8.2.Index]]) rfl rfl) F S rfl rfl ?_; clear F a; intro a F
   refine wl_alloc (wn rfl) rfl tz24 (cs := [.int .i64 0, .int .i64 0]) rfl F S rfl rfl ?_; clear F a S; rintro b5 a w F S
   refine wl_ev (wn rfl) (ev_assign rfl) F S rfl rfl ?_; clear F a; intro a F
   refine wl_storeC (wn rfl) rfl F S rfl rfl (vs := [.int .i64 y8.2.Code, .int .i64 y8.2.Index]) rfl ts24 (one_cons rfl (one_cons rfl one_nil)) (k := 0) rfl (lb rfl) (c' := #[.int .i64 y8.2.Code, .int .i64 y8.2.Index]) rfl rfl ?_; clear S; intro w S
   replace S : St g10 [[(b5, .cells #[.int .i64 y8.2.Code, .int .i64 y8.2.Index] 24 (0, 0))], c5, [(b4, .cells #[.int .i64 y5.2.Code, .int .i64 y5.2.Index] 24 (0, 0))], [(b3, .cells #[.int .i64 y3.2.Code, .int .i64 y3.2.Index] 24 (0, 0))], c3, [(b2, .cells #[.int .i64 y2.2.2.Code, .int .i64 y2.2.2.Index] 24 (0, 0))], c2, [(b1, .cells #[.int .i64 y1.2.2.Code, .int .i64 y1.2.2.Index] 24 (0, 0))]] fr w := S
   refine wpList_nil ?_
   replace F := F.sub (e' := [(17, v6), (18, bp b5 0), (13, v3)]) ⟨rfl, rfl, rfl, trivial⟩
   refine then_n ?_
   refine wp_seq ?_
   refine wp_region_lit ?_
   refine wl_ev (wn rfl) (ev_fieldAddr' tu24 tf24_0 (z := 0) ts3 rfl ⟨_, rfl⟩ rfl) F S rfl rfl ?_; clear F a; intro a F
   refine wl_ev (wn rfl) (ev_load1 tu3 rfl rfl (box_ptr (cells := [.int .i64 y8.2.Code]) 0 rfl 0 rfl (lb rfl))) F S rfl rfl ?_; clear F a; intro a F
   refine wl_ev (wn rfl) (ev_int rfl rfl (bo_eql _ _ _ _)) F S rfl rfl ?_; clear F a; intro a F
   refine wl_ev (wn rfl) (ev_move rfl) F S rfl rfl ?_; clear F a; intro a F
   obtain ⟨g11, l11, S, h9⟩ : ∃ gz, Le g10 gz ∧ St gz [[(b5, .cells #[.int .i64 y8.2.Code, .int .i64 y8.2.Index] 24 (0, 0))], [(b4, .cells #[.int .i64 y5.2.Code, .int .i64 y5.2.Index] 24 (0, 0))], [(b3, .cells #[.int .i64 y3.2.Code, .int .i64 y3.2.Index] 24 (0, 0))], c3, [(b2, .cells #[.int .i64 y2.2.2.Code, .int .i64 y2.2.2.Index] 24 (0, 0))], c2, [(b1, .cells #[.int .i64 y1.2.2.Code, .int .i64 y1.2.2.Index] 24 (0, 0))]] fr w ∧ RepSl gz y8.1 v6 := ⟨_, Le.add _ _, S.freeze 1 rfl, OwnS.freeze (S.front 1 rfl) h8⟩
   obtain ⟨g12, l12, S, h10⟩ : ∃ gz, Le g11 gz ∧ St gz [[(b5, .cells #[.int .i64 y8.2.Code, .int .i64 y8.2.Index] 24 (0, 0))], [(b4, .cells #[.int .i64 y5.2.Code, .int .i64 y5.2.Index] 24 (0, 0))], [(b3, .cells #[.int .i64 y3.2.Code, .int .i64 y3.2.Index] 24 (0, 0))], [(b2, .cells #[.int .i64 y2.2.2.Code, .int .i64 y2.2.2.Index] 24 (0, 0))], c2, [(b1, .cells #[.int .i64 y1.2.2.Code, .int .i64 y1.2.2.Index] 24 (0, 0))]] fr w ∧ RepSl gz y3.1 v3 := ⟨_, Le.add _ _, S.freeze 3 rfl, OwnS.freeze (S.front 3 rfl) (h3.mono ((((l5.trans l6).trans l9).trans l10).trans l11))⟩
   obtain ⟨x7, hx7, hm⟩ := bind_some hm
   refine wl_cut 4 (fun a w => ∃ g13, Fr 106 a [(102, .bool x7)] ∧ Le g12 g13 ∧ St g13 [[(b5, .cells #[.int .i64 y8.2.Code, .int .i64 y8.2.Index] 24 (0, 0))], [(b4, .cells #[.int .i64 y5.2.Code, .int .i64 y5.2.Index] 24 (0, 0))], [(b3, .cells #[.int .i64 y3.2.Code, .int .i64 y3.2.Index] 24 (0, 0))], [(b2, .cells #[.int .i64 y2.2.2.Code, .int .i64 y2.2.2.Index] 24 (0, 0))], c2, [(b1, .cells #[.int .i64 y1.2.2.Code, .int .i64 y1.2.2.Index] 24 (0, 0))]] fr w) ?_ ?_
   ·clear hm; obtain ⟨hc9, hm⟩ | ⟨hc9, hm⟩ := ite_or hx7
    ·refine wl_ev (wg F rfl rfl rfl rfl hc9) (ev_move rfl) F S rfl rfl ?_; clear F a; intro a F
     refine wl_ev (wg F rfl rfl rfl rfl hc9) (ev_move rfl) F S rfl rfl ?_; clear F a; intro a F
     obtain ⟨y9, hy9, hm⟩ := bind_some hm
     refine wl_call (wg F rfl rfl rfl rfl hc9) rfl (xs := [.tmp 99, .tmp 100]) (vs := [v6, v3]) (cap := []) F rfl rfl tc17 (changeforgeequal_Strings_ok (g := g12) (fr := (fl [[(b5, .cells #[.int .i64 y8.2.Code, .int .i64 y8.2.Index] 24 (0, 0))], [(b4, .cells #[.int .i64 y5.2.Code, .int .i64 y5.2.Index] 24 (0, 0))], [(b3, .cells #[.int .i64 y3.2.Code, .int .i64 y3.2.Index] 24 (0, 0))], [(b2, .cells #[.int .i64 y2.2.2.Code, .int .i64 y2.2.2.Index] 24 (0, 0))], c2, [(b1, .cells #[.int .i64 y1.2.2.Code, .int .i64 y1.2.2.Index] 24 (0, 0))]] fr)) (w := w) y8.1 v6 (h9.mono l12) y3.1 v3 h10 S hy9) rfl rfl ?_; clear F a S
     rintro _ a w ⟨g14, l14, S, rfl⟩ F; replace S : St g14 [[(b5, .cells #[.int .i64 y8.2.Code, .int .i64 y8.2.Index] 24 (0, 0))], [(b4, .cells #[.int .i64 y5.2.Code, .int .i64 y5.2.Index] 24 (0, 0))], [(b3, .cells #[.int .i64 y3.2.Code, .int .i64 y3.2.Index] 24 (0, 0))], [(b2, .cells #[.int .i64 y2.2.2.Code, .int .i64 y2.2.2.Index] 24 (0, 0))], c2, [(b1, .cells #[.int .i64 y1.2.2.Code, .int .i64 y1.2.2.Index] 24 (0, 0))]] fr w := S
     refine wl_ev (wn rfl) (ev_pickT rfl hc9 rfl) F S rfl rfl ?_; clear F a; intro a F
     obtain rfl := sinj hm
     refine wpList_nil (then_n ?_); exact ⟨g14, F.sub ⟨rfl, trivial⟩, l14, S⟩
    ·refine wl_skip rfl rfl rfl rfl (ne_tf hc9) F rfl rfl ?_; clear F a; intro a F
     refine wl_skip rfl rfl rfl rfl (ne_tf hc9) F rfl rfl ?_; clear F a; intro a F
     refine wl_skip rfl rfl rfl rfl (ne_tf hc9) F rfl rfl ?_; clear F a; intro a F
     refine wl_ev (wn rfl) (ev_pickF rfl hc9 rfl) F S rfl rfl ?_; clear F a; intro a F
     obtain rfl := sinj hm
     refine wpList_nil (then_n ?_); exact ⟨g12, F.sub ⟨rfl, trivial⟩, (Le.refl _), S⟩
   clear F S; rintro a w ⟨g13, F, l13, S⟩
   refine wl_ev (wn rfl) (ev_move rfl) F S rfl rfl ?_; clear F a; intro a F
   obtain ⟨x8, hx8, hm⟩ := bind_some hm
   refine wl_cut 2 (fun a w => ∃ g15, Fr 106 a [(105, .bool x8)] ∧ Le g13 g15 ∧ St g15 [[(b5, .cells #[.int .i64 y8.2.Code, .int .i64 y8.2.Index] 24 (0, 0))], [(b4, .cells #[.int .i64 y5.2.Code, .int .i64 y5.2.Index] 24 (0, 0))], [(b3, .cells #[.int .i64 y3.2.Code, .int .i64 y3.2.Index] 24 (0, 0))], [(b2, .cells #[.int .i64 y2.2.2.Code, .int .i64 y2.2.2.Index] 24 (0, 0))], c2, [(b1, .cells #[.int .i64 y1.2.2.Code, .int .i64 y1.2.2.Index] 24 (0, 0))]] fr w) ?_ ?_
   ·clear hm; obtain ⟨hc10, hm⟩ | ⟨hc10, hm⟩ := ite_or hx8
    ·obtain ⟨y10, hy10, hm⟩ := bind_some hm
     refine wl_call (wg F rfl rfl rfl rfl hc10) rfl (xs := []) (vs := []) (cap := []) F rfl rfl tc15 (changeforgelaw2_dropped_ok (g := g13) (fr := (fl [[(b5, .cells #[.int .i64 y8.2.Code, .int .i64 y8.2.Index] 24 (0, 0))], [(b4, .cells #[.int .i64 y5.2.Code, .int .i64 y5.2.Index] 24 (0, 0))], [(b3, .cells #[.int .i64 y3.2.Code, .int .i64 y3.2.Index] 24 (0, 0))], [(b2, .cells #[.int .i64 y2.2.2.Code, .int .i64 y2.2.2.Index] 24 (0, 0))], c2, [(b1, .cells #[.int .i64 y1.2.2.Code, .int .i64 y1.2.2.Index] 24 (0, 0))]] fr)) (w := w)  S hy10) rfl rfl ?_; clear F a S
     rintro _ a w ⟨g16, l16, S, rfl⟩ F; replace S : St g16 [[(b5, .cells #[.int .i64 y8.2.Code, .int .i64 y8.2.Index] 24 (0, 0))], [(b4, .cells #[.int .i64 y5.2.Code, .int .i64 y5.2.Index] 24 (0, 0))], [(b3, .cells #[.int .i64 y3.2.Code, .int .i64 y3.2.Index] 24 (0, 0))], [(b2, .cells #[.int .i64 y2.2.2.Code, .int .i64 y2.2.2.Index] 24 (0, 0))], c2, [(b1, .cells #[.int .i64 y1.2.2.Code, .int .i64 y1.2.2.Index] 24 (0, 0))]] fr w := S
     refine wl_ev (wn rfl) (ev_pickT rfl hc10 rfl) F S rfl rfl ?_; clear F a; intro a F
     obtain rfl := sinj hm
     refine wpList_nil (then_n ?_); exact ⟨g16, F.sub ⟨rfl, trivial⟩, l16, S⟩
    ·refine wl_skip rfl rfl rfl rfl (ne_tf hc10) F rfl rfl ?_; clear F a; intro a F
     refine wl_ev (wn rfl) (ev_pickF rfl hc10 rfl) F S rfl rfl ?_; clear F a; intro a F
     obtain rfl := sinj hm
     refine wpList_nil (then_n ?_); exact ⟨g13, F.sub ⟨rfl, trivial⟩, (Le.refl _), S⟩
   clear F S; rintro a w ⟨g15, F, l15, S⟩
   refine wl_ev (wn rfl) (ev_assign rfl) F S rfl rfl ?_; clear F a; intro a F
   refine wpList_nil ?_
   replace F := F.sub (e' := [(6, .bool x8)]) ⟨rfl, trivial⟩
   refine then_n ?_
   refine wp_ret ?_
   obtain rfl := sinj hm
   refine post_r (fn := Try.f7) (rs := [.tmp 6]) [.bool x8] F rfl (ar_cons (resT rfl) ar_nil) ?_
   replace S : St g15 [] fr w := St.tail [] _ S
   exact ⟨_, rfl, g15, ((((((((((l1.trans l2).trans l3).trans l5).trans l6).trans l9).trans l10).trans l11).trans l12).trans l13).trans l15), S, rfl⟩
end Go.Dc
