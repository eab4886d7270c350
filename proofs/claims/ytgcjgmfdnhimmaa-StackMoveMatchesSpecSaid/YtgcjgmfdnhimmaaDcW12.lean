/- Walks: each function comes to what its model says. -/
import Derived.Test.YtgcjgmfdnhimmaaDcTab
import Derived.Test.YtgcjgmfdnhimmaaDcM
import Derived.Test.YtgcjgmfdnhimmaaDcW10
import Derived.Test.YtgcjgmfdnhimmaaDcW11
import Derived.Test.YtgcjgmfdnhimmaaDcW4
import Derived.Test.YtgcjgmfdnhimmaaDcW5
import Derived.Test.YtgcjgmfdnhimmaaDcW9
namespace Go.Dc
open Go Go.Proofs
set_option maxRecDepth 100000
set_option maxHeartbeats 4000000
set_option linter.unusedVariables false
theorem changeforgelaw2_StackMoveMatchesSpec_ok {g : Gh} {fr : Hl} {w : World} {r : Bool} (l_ : (List Patch)) (vl_1 : Value) (hl_1 : RepSl g l_ vl_1) (from_ : Int) (to : Int) (S : St g [] fr w) (hm : changeforgelaw2_StackMoveMatchesSpec l_ from_ to = some r) :
  Calls Try.prog 3 [vl_1, .int .i64 from_, .int .i64 to].toArray w (fun en w' => ∃ v, en = .returned v ∧ ∃ (g' : Gh), Le g g' ∧ St g' [] fr w' ∧ .bool r = v) := by
 unfold changeforgelaw2_StackMoveMatchesSpec at hm
 refine calls_enter (fn := Try.f3) Try.func3 rfl Try.ntmps3 (lb rfl) ?_
 intro a F
 replace F : Fr 80 a [(0, vl_1), (1, .int .i64 from_), (2, .int .i64 to)] := F
 refine wp_seq ?_
 refine wp_region_lit ?_
 refine wl_ev (wn rfl) (ev_assign rfl) F S rfl rfl ?_; clear F a; intro a F
 refine wpList_nil ?_
 replace F := F.sub (e' := [(0, vl_1), (1, .int .i64 from_), (2, .int .i64 to)]) ⟨rfl, rfl, rfl, trivial⟩
 refine then_n ?_
 refine wp_seq ?_
 refine wp_region_lit ?_
 refine wl_ev (wn rfl) (ev_move rfl) F S rfl rfl ?_; clear F a; intro a F
 refine wl_ev (wn rfl) (ev_move rfl) F S rfl rfl ?_; clear F a; intro a F
 refine wl_ev (wn rfl) (ev_move rfl) F S rfl rfl ?_; clear F a; intro a F
 obtain ⟨y1, hy1, hm⟩ := bind_some hm
 refine wl_call (wn rfl) rfl (xs := [.tmp 20, .tmp 21, .tmp 22]) (vs := [vl_1, .int .i64 from_, .int .i64 to]) (cap := []) F rfl rfl tc10 (stack_Move_ok (g := g) (fr := fr) (w := w) l_ vl_1 hl_1 from_ to S hy1) rfl rfl ?_; clear F a S
 rintro _ a w ⟨g1, v1, c1, l1, S, h1, rfl⟩ F; replace S : St g1 [c1] fr w := S
 refine wl_ev (wn rfl) (ev_move rfl) F S rfl rfl ?_; clear F a; intro a F
 refine wl_ev (wn rfl) (ev_extract (vs := [v1, .bool y1.2.1, .agg #[.int .i64 y1.2.2.Code, .int .i64 y1.2.2.Index]]) rfl rfl) F S rfl rfl ?_; clear F a; intro a F
 refine wl_ev (wn rfl) (ev_extract (vs := [v1, .bool y1.2.1, .agg #[.int .i64 y1.2.2.Code, .int .i64 y1.2.2.Index]]) rfl rfl) F S rfl rfl ?_; clear F a; intro a F
 refine wl_ev (wn rfl) (ev_extract (vs := [v1, .bool y1.2.1, .agg #[.int .i64 y1.2.2.Code, .int .i64 y1.2.2.Index]]) rfl rfl) F S rfl rfl ?_; clear F a; intro a F
 refine wl_alloc (wn rfl) rfl tz24 (cs := [.int .i64 0, .int .i64 0]) rfl F S rfl rfl ?_; clear F a S; rintro b1 a w F S
 refine wl_ev (wn rfl) (ev_assign rfl) F S rfl rfl ?_; clear F a; intro a F
 refine wl_ev (wn rfl) (ev_assign rfl) F S rfl rfl ?_; clear F a; intro a F
 refine wl_storeC (wn rfl) rfl F S rfl rfl (vs := [.int .i64 y1.2.2.Code, .int .i64 y1.2.2.Index]) rfl ts24 (one_cons rfl (one_cons rfl one_nil)) (k := 0) rfl (lb rfl) (c' := #[.int .i64 y1.2.2.Code, .int .i64 y1.2.2.Index]) rfl rfl ?_; clear S; intro w S
 replace S : St g1 [[(b1, .cells #[.int .i64 y1.2.2.Code, .int .i64 y1.2.2.Index] 24 (0, 0))], c1] fr w := S
 refine wpList_nil ?_
 replace F := F.sub (e' := [(8, .bool y1.2.1), (7, v1), (9, bp b1 0), (0, vl_1), (1, .int .i64 from_), (2, .int .i64 to)]) ⟨rfl, rfl, rfl, rfl, rfl, rfl, trivial⟩
 refine then_n ?_
 refine wp_seq ?_
 refine wp_region_lit ?_
 refine wl_ev (wn rfl) (ev_move rfl) F S rfl rfl ?_; clear F a; intro a F
 refine wl_ev (wn rfl) (ev_move rfl) F S rfl rfl ?_; clear F a; intro a F
 refine wl_ev (wn rfl) (ev_move rfl) F S rfl rfl ?_; clear F a; intro a F
 obtain ⟨y2, hy2, hm⟩ := bind_some hm
 refine wl_call (wn rfl) rfl (xs := [.tmp 28, .tmp 29, .tmp 30]) (vs := [vl_1, .int .i64 from_, .int .i64 to]) (cap := []) F rfl rfl tc11 (changeforgeref2_MoveStack_ok (g := g1) (fr := (fl [[(b1, .cells #[.int .i64 y1.2.2.Code, .int .i64 y1.2.2.Index] 24 (0, 0))], c1] fr)) (w := w) l_ vl_1 (hl_1.mono l1) from_ to S hy2) rfl rfl ?_; clear F a S
 rintro _ a w ⟨g2, v2, l2, S, h2, rfl⟩ F; replace S : St g2 [[(b1, .cells #[.int .i64 y1.2.2.Code, .int .i64 y1.2.2.Index] 24 (0, 0))], c1] fr w := S
 refine wl_ev (wn rfl) (ev_move rfl) F S rfl rfl ?_; clear F a; intro a F
 refine wl_ev (wn rfl) (ev_extract (vs := [v2, .bool y2.2.1, .agg #[.int .i64 y2.2.2.Code, .int .i64 y2.2.2.Index]]) rfl rfl) F S rfl rfl ?_; clear F a; intro a F
 refine wl_ev (wn rfl) (ev_extract (vs := [v2, .bool y2.2.1, .agg #[.int .i64 y2.2.2.Code, .int .i64 y2.2.2.Index]]) rfl rfl) F S rfl rfl ?_; clear F a; intro a F
 refine wl_ev (wn rfl) (ev_extract (vs := [v2, .bool y2.2.1, .agg #[.int .i64 y2.2.2.Code, .int .i64 y2.2.2.Index]]) rfl rfl) F S rfl rfl ?_; clear F a; intro a F
 refine wl_alloc (wn rfl) rfl tz24 (cs := [.int .i64 0, .int .i64 0]) rfl F S rfl rfl ?_; clear F a S; rintro b2 a w F S
 refine wl_ev (wn rfl) (ev_assign rfl) F S rfl rfl ?_; clear F a; intro a F
 refine wl_ev (wn rfl) (ev_assign rfl) F S rfl rfl ?_; clear F a; intro a F
 refine wl_storeC (wn rfl) rfl F S rfl rfl (vs := [.int .i64 y2.2.2.Code, .int .i64 y2.2.2.Index]) rfl ts24 (one_cons rfl (one_cons rfl one_nil)) (k := 0) rfl (lb rfl) (c' := #[.int .i64 y2.2.2.Code, .int .i64 y2.2.2.Index]) rfl rfl ?_; clear S; intro w S
 replace S : St g2 [[(b2, .cells #[.int .i64 y2.2.2.Code, .int .i64 y2.2.2.Index] 24 (0, 0))], [(b1, .cells #[.int .i64 y1.2.2.Code, .int .i64 y1.2.2.Index] 24 (0, 0))], c1] fr w := S
 refine wpList_nil ?_
 replace F := F.sub (e' := [(11, .bool y2.2.1), (10, v2), (12, bp b2 0), (8, .bool y1.2.1), (7, v1), (9, bp b1 0), (0, vl_1), (1, .int .i64 from_)]) ⟨rfl, rfl, rfl, rfl, rfl, rfl, rfl, rfl, trivial⟩
 refine then_n ?_
 refine wp_seq ?_
 refine wp_region_lit ?_
 refine wl_ev (wn rfl) (ev_move rfl) F S rfl rfl ?_; clear F a; intro a F
 refine wl_ev (wn rfl) (ev_move rfl) F S rfl rfl ?_; clear F a; intro a F
 obtain ⟨y3, hy3, hm⟩ := bind_some hm
 refine wl_call (wn rfl) rfl (xs := [.tmp 36, .tmp 37]) (vs := [vl_1, .int .i64 from_]) (cap := []) F rfl rfl tc12 (stack_Drop_ok (g := g2) (fr := (fl [[(b2, .cells #[.int .i64 y2.2.2.Code, .int .i64 y2.2.2.Index] 24 (0, 0))], [(b1, .cells #[.int .i64 y1.2.2.Code, .int .i64 y1.2.2.Index] 24 (0, 0))], c1] fr)) (w := w) l_ vl_1 (hl_1.mono (l1.trans l2)) from_ S hy3) rfl rfl ?_; clear F a S
 rintro _ a w ⟨g3, v3, c2, l3, S, h3, rfl⟩ F; replace S : St g3 [c2, [(b2, .cells #[.int .i64 y2.2.2.Code, .int .i64 y2.2.2.Index] 24 (0, 0))], [(b1, .cells #[.int .i64 y1.2.2.Code, .int .i64 y1.2.2.Index] 24 (0, 0))], c1] fr w := S
 refine wl_ev (wn rfl) (ev_move rfl) F S rfl rfl ?_; clear F a; intro a F
 refine wl_ev (wn rfl) (ev_extract (vs := [v3, .bool y3.2.1, .agg #[.int .i64 y3.2.2.Code, .int .i64 y3.2.2.Index]]) rfl rfl) F S rfl rfl ?_; clear F a; intro a F
 refine wl_ev (wn rfl) (ev_extract (vs := [v3, .bool y3.2.1, .agg #[.int .i64 y3.2.2.Code, .int .i64 y3.2.2.Index]]) rfl rfl) F S rfl rfl ?_; clear F a; intro a F
 refine wl_ev (wn rfl) (ev_extract (vs := [v3, .bool y3.2.1, .agg #[.int .i64 y3.2.2.Code, .int .i64 y3.2.2.Index]]) rfl rfl) F S rfl rfl ?_; clear F a; intro a F
 refine wl_alloc (wn rfl) rfl tz24 (cs := [.int .i64 0, .int .i64 0]) rfl F S rfl rfl ?_; clear F a S; rintro b3 a w F S
 refine wl_ev (wn rfl) (ev_assign rfl) F S rfl rfl ?_; clear F a; intro a F
 refine wl_ev (wn rfl) (ev_assign rfl) F S rfl rfl ?_; clear F a; intro a F
 refine wl_storeC (wn rfl) rfl F S rfl rfl (vs := [.int .i64 y3.2.2.Code, .int .i64 y3.2.2.Index]) rfl ts24 (one_cons rfl (one_cons rfl one_nil)) (k := 0) rfl (lb rfl) (c' := #[.int .i64 y3.2.2.Code, .int .i64 y3.2.2.Index]) rfl rfl ?_; clear S; intro w S
 replace S : St g3 [[(b3, .cells #[.int .i64 y3.2.2.Code, .int .i64 y3.2.2.Index] 24 (0, 0))], c2, [(b2, .cells #[.int .i64 y2.2.2.Code, .int .i64 y2.2.2.Index] 24 (0, 0))], [(b1, .cells #[.int .i64 y1.2.2.Code, .int .i64 y1.2.2.Index] 24 (0, 0))], c1] fr w := S
 refine wpList_nil ?_
 replace F := F.sub (e' := [(14, .bool y3.2.1), (13, v3), (15, bp b3 0), (11, .bool y2.2.1), (10, v2), (12, bp b2 0), (8, .bool y1.2.1), (7, v1), (9, bp b1 0), (0, vl_1), (1, .int .i64 from_)]) ⟨rfl, rfl, rfl, rfl, rfl, rfl, rfl, rfl, rfl, rfl, rfl, trivial⟩
 refine then_n ?_
 refine wp_seq ?_
 refine wp_region_lit ?_
 refine wl_ev (wn rfl) (ev_move rfl) F S rfl rfl ?_; clear F a; intro a F
 refine wl_ev (wn rfl) (ev_move rfl) F S rfl rfl ?_; clear F a; intro a F
 obtain ⟨y4, hy4, hm⟩ := bind_some hm
 refine wl_call (wn rfl) rfl (xs := [.tmp 43, .tmp 44]) (vs := [vl_1, .int .i64 from_]) (cap := []) F rfl rfl tc13 (changeforgeref2_DropStack_ok (g := g3) (fr := (fl [[(b3, .cells #[.int .i64 y3.2.2.Code, .int .i64 y3.2.2.Index] 24 (0, 0))], c2, [(b2, .cells #[.int .i64 y2.2.2.Code, .int .i64 y2.2.2.Index] 24 (0, 0))], [(b1, .cells #[.int .i64 y1.2.2.Code, .int .i64 y1.2.2.Index] 24 (0, 0))], c1] fr)) (w := w) l_ vl_1 (hl_1.mono ((l1.trans l2).trans l3)) from_ S hy4) rfl rfl ?_; clear F a S
 rintro _ a w ⟨g4, v4, l4, S, h4, rfl⟩ F; replace S : St g4 [[(b3, .cells #[.int .i64 y3.2.2.Code, .int .i64 y3.2.2.Index] 24 (0, 0))], c2, [(b2, .cells #[.int .i64 y2.2.2.Code, .int .i64 y2.2.2.Index] 24 (0, 0))], [(b1, .cells #[.int .i64 y1.2.2.Code, .int .i64 y1.2.2.Index] 24 (0, 0))], c1] fr w := S
 refine wl_ev (wn rfl) (ev_move rfl) F S rfl rfl ?_; clear F a; intro a F
 refine wl_ev (wn rfl) (ev_extract (vs := [v4, .bool y4.2.1, .agg #[.int .i64 y4.2.2.Code, .int .i64 y4.2.2.Index]]) rfl rfl) F S rfl rfl ?_; clear F a; intro a F
 refine wl_ev (wn rfl) (ev_extract (vs := [v4, .bool y4.2.1, .agg #[.int .i64 y4.2.2.Code, .int .i64 y4.2.2.Index]]) rfl rfl) F S rfl rfl ?_; clear F a; intro a F
 refine wl_ev (wn rfl) (ev_extract (vs := [v4, .bool y4.2.1, .agg #[.int .i64 y4.2.2.Code, .int .i64 y4.2.2.Index]]) rfl rfl) F S rfl rfl ?_; clear F a; intro a F
 refine wl_alloc (wn rfl) rfl tz24 (cs := [.int .i64 0, .int .i64 0]) rfl F S rfl rfl ?_; clear F a S; rintro b4 a w F S
 refine wl_ev (wn rfl) (ev_assign rfl) F S rfl rfl ?_; clear F a; intro a F
 refine wl_ev (wn rfl) (ev_assign rfl) F S rfl rfl ?_; clear F a; intro a F
 refine wl_storeC (wn rfl) rfl F S rfl rfl (vs := [.int .i64 y4.2.2.Code, .int .i64 y4.2.2.Index]) rfl ts24 (one_cons rfl (one_cons rfl one_nil)) (k := 0) rfl (lb rfl) (c' := #[.int .i64 y4.2.2.Code, .int .i64 y4.2.2.Index]) rfl rfl ?_; clear S; intro w S
 replace S : St g4 [[(b4, .cells #[.int .i64 y4.2.2.Code, .int .i64 y4.2.2.Index] 24 (0, 0))], [(b3, .cells #[.int .i64 y3.2.2.Code, .int .i64 y3.2.2.Index] 24 (0, 0))], c2, [(b2, .cells #[.int .i64 y2.2.2.Code, .int .i64 y2.2.2.Index] 24 (0, 0))], [(b1, .cells #[.int .i64 y1.2.2.Code, .int .i64 y1.2.2.Index] 24 (0, 0))], c1] fr w := S
 refine wpList_nil ?_
 replace F := F.sub (e' := [(17, .bool y4.2.1), (16, v4), (18, bp b4 0), (14, .bool y3.2.1), (13, v3), (15, bp b3 0), (11, .bool y2.2.1), (10, v2), (12, bp b2 0), (8, .bool y1.2.1), (7, v1), (9, bp b1 0)]) ⟨rfl, rfl, rfl, rfl, rfl, rfl, rfl, rfl, rfl, rfl, rfl, rfl, trivial⟩
 refine then_n ?_
 refine wp_seq ?_
 refine wp_region_lit ?_
 refine wl_ev (wn rfl) (ev_move rfl) F S rfl rfl ?_; clear F a; intro a F
 refine wl_ev (wn rfl) (ev_move rfl) F S rfl rfl ?_; clear F a; intro a F
 obtain ⟨g5, l5, S, h5⟩ : ∃ gz, Le g4 gz ∧ St gz [[(b4, .cells #[.int .i64 y4.2.2.Code, .int .i64 y4.2.2.Index] 24 (0, 0))], [(b3, .cells #[.int .i64 y3.2.2.Code, .int .i64 y3.2.2.Index] 24 (0, 0))], c2, [(b2, .cells #[.int .i64 y2.2.2.Code, .int .i64 y2.2.2.Index] 24 (0, 0))], [(b1, .cells #[.int .i64 y1.2.2.Code, .int .i64 y1.2.2.Index] 24 (0, 0))]] fr w ∧ RepSl gz y1.1 v1 := ⟨_, Le.add _ _, S.freeze 5 rfl, OwnS.freeze (S.front 5 rfl) (h1.mono ((l2.trans l3).trans l4))⟩
 obtain ⟨y5, hy5, hm⟩ := bind_some hm
 refine wl_call (wn rfl) rfl (xs := [.tmp 49, .tmp 50]) (vs := [v1, v2]) (cap := []) F rfl rfl tc14 (changeforgeequal_Patches_ok (g := g5) (fr := (fl [[(b4, .cells #[.int .i64 y4.2.2.Code, .int .i64 y4.2.2.Index] 24 (0, 0))], [(b3, .cells #[.int .i64 y3.2.2.Code, .int .i64 y3.2.2.Index] 24 (0, 0))], c2, [(b2, .cells #[.int .i64 y2.2.2.Code, .int .i64 y2.2.2.Index] 24 (0, 0))], [(b1, .cells #[.int .i64 y1.2.2.Code, .int .i64 y1.2.2.Index] 24 (0, 0))]] fr)) (w := w) y1.1 v1 h5 y2.1 v2 (h2.mono ((l3.trans l4).trans l5)) S hy5) rfl rfl ?_; clear F a S
 rintro _ a w ⟨g6, l6, S, rfl⟩ F; replace S : St g6 [[(b4, .cells #[.int .i64 y4.2.2.Code, .int .i64 y4.2.2.Index] 24 (0, 0))], [(b3, .cells #[.int .i64 y3.2.2.Code, .int .i64 y3.2.2.Index] 24 (0, 0))], c2, [(b2, .cells #[.int .i64 y2.2.2.Code, .int .i64 y2.2.2.Index] 24 (0, 0))], [(b1, .cells #[.int .i64 y1.2.2.Code, .int .i64 y1.2.2.Index] 24 (0, 0))]] fr w := S
 refine wl_ev (wn rfl) (ev_move rfl) F S rfl rfl ?_; clear F a; intro a F
 obtain ⟨x1, hx1, hm⟩ := bind_some hm
 refine wl_cut 4 (fun a w' => w = w' ∧ Fr 80 a [(56, .bool x1), (17, .bool y4.2.1), (16, v4), (18, bp b4 0), (14, .bool y3.2.1), (13, v3), (15, bp b3 0), (12, bp b2 0), (9, bp b1 0)]) ?_ ?_
 ·clear hm; obtain ⟨hc1, hm⟩ | ⟨hc1, hm⟩ := ite_or hx1
  ·refine wl_ev (wg F rfl rfl rfl rfl hc1) (ev_move rfl) F S rfl rfl ?_; clear F a; intro a F
   refine wl_ev (wg F rfl rfl rfl rfl hc1) (ev_move rfl) F S rfl rfl ?_; clear F a; intro a F
   refine wl_ev (wg F rfl rfl rfl rfl hc1) (ev_eqB tu4 rfl rfl) F S rfl rfl ?_; clear F a; intro a F
   refine wl_ev (wn rfl) (ev_pickT rfl hc1 rfl) F S rfl rfl ?_; clear F a; intro a F
   obtain rfl := sinj hm
   refine wpList_nil (then_n ?_); exact ⟨rfl, F.sub ⟨rfl, rfl, rfl, rfl, rfl, rfl, rfl, rfl, rfl, trivial⟩⟩
  ·refine wl_skip rfl rfl rfl rfl (ne_tf hc1) F rfl rfl ?_; clear F a; intro a F
   refine wl_skip rfl rfl rfl rfl (ne_tf hc1) F rfl rfl ?_; clear F a; intro a F
   refine wl_skip rfl rfl rfl rfl (ne_tf hc1) F rfl rfl ?_; clear F a; intro a F
   refine wl_ev (wn rfl) (ev_pickF rfl hc1 rfl) F S rfl rfl ?_; clear F a; intro a F
   obtain rfl := sinj hm
   refine wpList_nil (then_n ?_); exact ⟨rfl, F.sub ⟨rfl, rfl, rfl, rfl, rfl, rfl, rfl, rfl, rfl, trivial⟩⟩
 clear F; rintro a w' ⟨rfl, F⟩
 refine wl_ev (wn rfl) (ev_move rfl) F S rfl rfl ?_; clear F a; intro a F
 obtain ⟨x2, hx2, hm⟩ := bind_some hm
 refine wl_cut 4 (fun a w' => w = w' ∧ Fr 80 a [(61, .bool x2), (17, .bool y4.2.1), (16, v4), (18, bp b4 0), (14, .bool y3.2.1), (13, v3), (15, bp b3 0)]) ?_ ?_
 ·clear hm; obtain ⟨hc2, hm⟩ | ⟨hc2, hm⟩ := ite_or hx2
  ·refine wl_ev (wg F rfl rfl rfl rfl hc2) (ev_loadA tu24 rfl (cs := [.int .i64 y1.2.2.Code, .int .i64 y1.2.2.Index]) ts24 rfl (box_ptr (cells := [.int .i64 y1.2.2.Code, .int .i64 y1.2.2.Index]) 4 rfl 0 rfl (lb rfl))) F S rfl rfl ?_; clear F a; intro a F
   refine wl_ev (wg F rfl rfl rfl rfl hc2) (ev_loadA tu24 rfl (cs := [.int .i64 y2.2.2.Code, .int .i64 y2.2.2.Index]) ts24 rfl (box_ptr (cells := [.int .i64 y2.2.2.Code, .int .i64 y2.2.2.Index]) 3 rfl 0 rfl (lb rfl))) F S rfl rfl ?_; clear F a; intro a F
   refine wl_ev (wg F rfl rfl rfl rfl hc2) (ev_eqS tu24 tqa24 tqb24 tqc24 (xs := [.int .i64 y1.2.2.Code, .int .i64 y1.2.2.Index]) (ys := [.int .i64 y2.2.2.Code, .int .i64 y2.2.2.Index]) rfl rfl ⟨_, _, rfl, by decide, ⟨_, _, rfl, rfl, leaf_int tu3⟩, ⟨_, _, rfl, by decide, ⟨_, _, rfl, rfl, leaf_int tu3⟩, rfl⟩⟩) F S rfl rfl ?_; clear F a; intro a F
   refine wl_ev (wn rfl) (ev_pickT rfl hc2 rfl) F S rfl rfl ?_; clear F a; intro a F
   obtain rfl := sinj hm
   refine wpList_nil (then_n ?_); exact ⟨rfl, F.sub ⟨rfl, rfl, rfl, rfl, rfl, rfl, rfl, trivial⟩⟩
  ·refine wl_skip rfl rfl rfl rfl (ne_tf hc2) F rfl rfl ?_; clear F a; intro a F
   refine wl_skip rfl rfl rfl rfl (ne_tf hc2) F rfl rfl ?_; clear F a; intro a F
   refine wl_skip rfl rfl rfl rfl (ne_tf hc2) F rfl rfl ?_; clear F a; intro a F
   refine wl_ev (wn rfl) (ev_pickF rfl hc2 rfl) F S rfl rfl ?_; clear F a; intro a F
   obtain rfl := sinj hm
   refine wpList_nil (then_n ?_); exact ⟨rfl, F.sub ⟨rfl, rfl, rfl, rfl, rfl, rfl, rfl, trivial⟩⟩
 clear F; rintro a w' ⟨rfl, F⟩
 refine wl_ev (wn rfl) (ev_move rfl) F S rfl rfl ?_; clear F a; intro a F
 obtain ⟨g7, l7, S, h6⟩ : ∃ gz, Le g6 gz ∧ St gz [[(b4, .cells #[.int .i64 y4.2.2.Code, .int .i64 y4.2.2.Index] 24 (0, 0))], [(b3, .cells #[.int .i64 y3.2.2.Code, .int .i64 y3.2.2.Index] 24 (0, 0))], [(b2, .cells #[.int .i64 y2.2.2.Code, .int .i64 y2.2.2.Index] 24 (0, 0))], [(b1, .cells #[.int .i64 y1.2.2.Code, .int .i64 y1.2.2.Index] 24 (0, 0))]] fr w ∧ RepSl gz y3.1 v3 := ⟨_, Le.add _ _, S.freeze 2 rfl, OwnS.freeze (S.front 2 rfl) (h3.mono ((l4.trans l5).trans l6))⟩
 obtain ⟨x3, hx3, hm⟩ := bind_some hm
 refine wl_cut 4 (fun a w => ∃ g8, Fr 80 a [(66, .bool x3), (17, .bool y4.2.1), (18, bp b4 0), (14, .bool y3.2.1), (15, bp b3 0)] ∧ Le g7 g8 ∧ St g8 [[(b4, .cells #[.int .i64 y4.2.2.Code, .int .i64 y4.2.2.Index] 24 (0, 0))], [(b3, .cells #[.int .i64 y3.2.2.Code, .int .i64 y3.2.2.Index] 24 (0, 0))], [(b2, .cells #[.int .i64 y2.2.2.Code, .int .i64 y2.2.2.Index] 24 (0, 0))], [(b1, .cells #[.int .i64 y1.2.2.Code, .int .i64 y1.2.2.Index] 24 (0, 0))]] fr w) ?_ ?_
 ·clear hm; obtain ⟨hc3, hm⟩ | ⟨hc3, hm⟩ := ite_or hx3
  ·refine wl_ev (wg F rfl rfl rfl rfl hc3) (ev_move rfl) F S rfl rfl ?_; clear F a; intro a F
   refine wl_ev (wg F rfl rfl rfl rfl hc3) (ev_move rfl) F S rfl rfl ?_; clear F a; intro a F
   obtain ⟨y6, hy6, hm⟩ := bind_some hm
   refine wl_call (wg F rfl rfl rfl rfl hc3) rfl (xs := [.tmp 63, .tmp 64]) (vs := [v3, v4]) (cap := []) F rfl rfl tc14 (changeforgeequal_Patches_ok (g := g7) (fr := (fl [[(b4, .cells #[.int .i64 y4.2.2.Code, .int .i64 y4.2.2.Index] 24 (0, 0))], [(b3, .cells #[.int .i64 y3.2.2.Code, .int .i64 y3.2.2.Index] 24 (0, 0))], [(b2, .cells #[.int .i64 y2.2.2.Code, .int .i64 y2.2.2.Index] 24 (0, 0))], [(b1, .cells #[.int .i64 y1.2.2.Code, .int .i64 y1.2.2.Index] 24 (0, 0))]] fr)) (w := w) y3.1 v3 h6 y4.1 v4 (h4.mono ((l5.trans l6).trans l7)) S hy6) rfl rfl ?_; clear F a S
   rintro _ a w ⟨g9, l9, S, rfl⟩ F; replace S : St g9 [[(b4, .cells #[.int .i64 y4.2.2.Code, .int .i64 y4.2.2.Index] 24 (0, 0))], [(b3, .cells #[.int .i64 y3.2.2.Code, .int .i64 y3.2.2.Index] 24 (0, 0))], [(b2, .cells #[.int .i64 y2.2.2.Code, .int .i64 y2.2.2.Index] 24 (0, 0))], [(b1, .cells #[.int .i64 y1.2.2.Code, .int .i64 y1.2.2.Index] 24 (0, 0))]] fr w := S
   refine wl_ev (wn rfl) (ev_pickT rfl hc3 rfl) F S rfl rfl ?_; clear F a; intro a F
   obtain rfl := sinj hm
   refine wpList_nil (then_n ?_); exact ⟨g9, F.sub ⟨rfl, rfl, rfl, rfl, rfl, trivial⟩, l9, S⟩
  ·refine wl_skip rfl rfl rfl rfl (ne_tf hc3) F rfl rfl ?_; clear F a; intro a F
   refine wl_skip rfl rfl rfl rfl (ne_tf hc3) F rfl rfl ?_; clear F a; intro a F
   refine wl_skip rfl rfl rfl rfl (ne_tf hc3) F rfl rfl ?_; clear F a; intro a F
   refine wl_ev (wn rfl) (ev_pickF rfl hc3 rfl) F S rfl rfl ?_; clear F a; intro a F
   obtain rfl := sinj hm
   refine wpList_nil (then_n ?_); exact ⟨g7, F.sub ⟨rfl, rfl, rfl, rfl, rfl, trivial⟩, (Le.refl _), S⟩
 clear F S; rintro a w ⟨g8, F, l8, S⟩
 refine wl_ev (wn rfl) (ev_move rfl) F S rfl rfl ?_; clear F a; intro a F
 obtain ⟨x4, hx4, hm⟩ := bind_some hm
 refine wl_cut 4 (fun a w' => w = w' ∧ Fr 80 a [(71, .bool x4), (18, bp b4 0), (15, bp b3 0)]) ?_ ?_
 ·clear hm; obtain ⟨hc4, hm⟩ | ⟨hc4, hm⟩ := ite_or hx4
  ·refine wl_ev (wg F rfl rfl rfl rfl hc4) (ev_move rfl) F S rfl rfl ?_; clear F a; intro a F
   refine wl_ev (wg F rfl rfl rfl rfl hc4) (ev_move rfl) F S rfl rfl ?_; clear F a; intro a F
   refine wl_ev (wg F rfl rfl rfl rfl hc4) (ev_eqB tu4 rfl rfl) F S rfl rfl ?_; clear F a; intro a F
   refine wl_ev (wn rfl) (ev_pickT rfl hc4 rfl) F S rfl rfl ?_; clear F a; intro a F
   obtain rfl := sinj hm
   refine wpList_nil (then_n ?_); exact ⟨rfl, F.sub ⟨rfl, rfl, rfl, trivial⟩⟩
  ·refine wl_skip rfl rfl rfl rfl (ne_tf hc4) F rfl rfl ?_; clear F a; intro a F
   refine wl_skip rfl rfl rfl rfl (ne_tf hc4) F rfl rfl ?_; clear F a; intro a F
   refine wl_skip rfl rfl rfl rfl (ne_tf hc4) F rfl rfl ?_; clear F a; intro a F
   refine wl_ev (wn rfl) (ev_pickF rfl hc4 rfl) F S rfl rfl ?_; clear F a; intro a F
   obtain rfl := sinj hm
   refine wpList_nil (then_n ?_); exact ⟨rfl, F.sub ⟨rfl, rfl, rfl, trivial⟩⟩
 clear F; rintro a w' ⟨rfl, F⟩
 refine wl_ev (wn rfl) (ev_move rfl) F S rfl rfl ?_; clear F a; intro a F
 obtain ⟨x5, hx5, hm⟩ := bind_some hm
 refine wl_cut 4 (fun a w' => w = w' ∧ Fr 80 a [(76, .bool x5)]) ?_ ?_
 ·clear hm; obtain ⟨hc5, hm⟩ | ⟨hc5, hm⟩ := ite_or hx5
  ·refine wl_ev (wg F rfl rfl rfl rfl hc5) (ev_loadA tu24 rfl (cs := [.int .i64 y3.2.2.Code, .int .i64 y3.2.2.Index]) ts24 rfl (box_ptr (cells := [.int .i64 y3.2.2.Code, .int .i64 y3.2.2.Index]) 1 rfl 0 rfl (lb rfl))) F S rfl rfl ?_; clear F a; intro a F
   refine wl_ev (wg F rfl rfl rfl rfl hc5) (ev_loadA tu24 rfl (cs := [.int .i64 y4.2.2.Code, .int .i64 y4.2.2.Index]) ts24 rfl (box_ptr (cells := [.int .i64 y4.2.2.Code, .int .i64 y4.2.2.Index]) 0 rfl 0 rfl (lb rfl))) F S rfl rfl ?_; clear F a; intro a F
   refine wl_ev (wg F rfl rfl rfl rfl hc5) (ev_eqS tu24 tqa24 tqb24 tqc24 (xs := [.int .i64 y3.2.2.Code, .int .i64 y3.2.2.Index]) (ys := [.int .i64 y4.2.2.Code, .int .i64 y4.2.2.Index]) rfl rfl ⟨_, _, rfl, by decide, ⟨_, _, rfl, rfl, leaf_int tu3⟩, ⟨_, _, rfl, by decide, ⟨_, _, rfl, rfl, leaf_int tu3⟩, rfl⟩⟩) F S rfl rfl ?_; clear F a; intro a F
   refine wl_ev (wn rfl) (ev_pickT rfl hc5 rfl) F S rfl rfl ?_; clear F a; intro a F
   obtain rfl := sinj hm
   refine wpList_nil (then_n ?_); exact ⟨rfl, F.sub ⟨rfl, trivial⟩⟩
  ·refine wl_skip rfl rfl rfl rfl (ne_tf hc5) F rfl rfl ?_; clear F a; intro a F
   refine wl_skip rfl rfl rfl rfl (ne_tf hc5) F rfl rfl ?_; clear F a; intro a F
   refine wl_skip rfl rfl rfl rfl (ne_tf hc5) F rfl rfl ?_; clear F a; intro a F
   refine wl_ev (wn rfl) (ev_pickF rfl hc5 rfl) F S rfl rfl ?_; clear F a; intro a F
   obtain rfl := sinj hm
   refine wpList_nil (then_n ?_); exact ⟨rfl, F.sub ⟨rfl, trivial⟩⟩
 clear F; rintro a w' ⟨rfl, F⟩
 refine wl_ev (wn rfl) (ev_move rfl) F S rfl rfl ?_; clear F a; intro a F
 obtain ⟨x6, hx6, hm⟩ := bind_some hm
 refine wl_cut 2 (fun a w => ∃ g10, Fr 80 a [(79, .bool x6)] ∧ Le g8 g10 ∧ St g10 [[(b4, .cells #[.int .i64 y4.2.2.Code, .int .i64 y4.2.2.Index] 24 (0, 0))], [(b3, .cells #[.int .i64 y3.2.2.Code, .int .i64 y3.2.2.Index] 24 (0, 0))], [(b2, .cells #[.int .i64 y2.2.2.Code, .int .i64 y2.2.2.Index] 24 (0, 0))], [(b1, .cells #[.int .i64 y1.2.2.Code, .int .i64 y1.2.2.Index] 24 (0, 0))]] fr w) ?_ ?_
 ·clear hm; obtain ⟨hc6, hm⟩ | ⟨hc6, hm⟩ := ite_or hx6
  ·obtain ⟨y7, hy7, hm⟩ := bind_some hm
   refine wl_call (wg F rfl rfl rfl rfl hc6) rfl (xs := []) (vs := []) (cap := []) F rfl rfl tc15 (changeforgelaw2_dropped_ok (g := g8) (fr := (fl [[(b4, .cells #[.int .i64 y4.2.2.Code, .int .i64 y4.2.2.Index] 24 (0, 0))], [(b3, .cells #[.int .i64 y3.2.2.Code, .int .i64 y3.2.2.Index] 24 (0, 0))], [(b2, .cells #[.int .i64 y2.2.2.Code, .int .i64 y2.2.2.Index] 24 (0, 0))], [(b1, .cells #[.int .i64 y1.2.2.Code, .int .i64 y1.2.2.Index] 24 (0, 0))]] fr)) (w := w)  S hy7) rfl rfl ?_; clear F a S
   rintro _ a w ⟨g11, l11, S, rfl⟩ F; replace S : St g11 [[(b4, .cells #[.int .i64 y4.2.2.Code, .int .i64 y4.2.2.Index] 24 (0, 0))], [(b3, .cells #[.int .i64 y3.2.2.Code, .int .i64 y3.2.2.Index] 24 (0, 0))], [(b2, .cells #[.int .i64 y2.2.2.Code, .int .i64 y2.2.2.Index] 24 (0, 0))], [(b1, .cells #[.int .i64 y1.2.2.Code, .int .i64 y1.2.2.Index] 24 (0, 0))]] fr w := S
   refine wl_ev (wn rfl) (ev_pickT rfl hc6 rfl) F S rfl rfl ?_; clear F a; intro a F
   obtain rfl := sinj hm
   refine wpList_nil (then_n ?_); exact ⟨g11, F.sub ⟨rfl, trivial⟩, l11, S⟩
  ·refine wl_skip rfl rfl rfl rfl (ne_tf hc6) F rfl rfl ?_; clear F a; intro a F
   refine wl_ev (wn rfl) (ev_pickF rfl hc6 rfl) F S rfl rfl ?_; clear F a; intro a F
   obtain rfl := sinj hm
   refine wpList_nil (then_n ?_); exact ⟨g8, F.sub ⟨rfl, trivial⟩, (Le.refl _), S⟩
 clear F S; rintro a w ⟨g10, F, l10, S⟩
 refine wl_ev (wn rfl) (ev_assign rfl) F S rfl rfl ?_; clear F a; intro a F
 refine wpList_nil ?_
 replace F := F.sub (e' := [(6, .bool x6)]) ⟨rfl, trivial⟩
 refine then_n ?_
 refine wp_ret ?_
 obtain rfl := sinj hm
 refine post_r (fn := Try.f3) (rs := [.tmp 6]) [.bool x6] F rfl (ar_cons (resT rfl) ar_nil) ?_
 replace S : St g10 [] fr w := St.tail [] _ S
 exact ⟨_, rfl, g10, ((((((((l1.trans l2).trans l3).trans l4).trans l5).trans l6).trans l7).trans l8).trans l10), S, rfl⟩
end Go.Dc
