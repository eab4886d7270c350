/- Walks: each function comes to what its model says. -/
import Derived.Test.YtgcjgmfdnhimmaaDcTab
import Derived.Test.YtgcjgmfdnhimmaaDcM
import Derived.Test.YtgcjgmfdnhimmaaDcW6
import Derived.Test.YtgcjgmfdnhimmaaDcW8
namespace Go.Dc
open Go Go.Proofs
set_option maxRecDepth 100000
set_option maxHeartbeats 4000000
set_option linter.unusedVariables false
theorem changeforgeref2_carried.body_ok {rec_ : (List Patch) → Int → Int → Option ((List Patch) × Bool × Fault)} (hrec : ∀ {g : Gh} {fr : Hl} {w : World} {r : (List Patch) × Bool × Fault} (l_ : (List Patch)) (vl_1 : Value) (hl_1 : RepSl g l_ vl_1) (at_ : Int) (n_ : Int) (S : St g [] fr w) (hm : rec_ l_ at_ n_ = some r), Calls Try.prog 27 [vl_1, .int .i64 at_, .int .i64 n_].toArray w (fun en w' => ∃ v, en = .returned v ∧ ∃ (g' : Gh) (v1 : Value), Le g g' ∧ St g' [] fr w' ∧ RepSl g' r.1 v1 ∧ .tuple #[v1, .bool r.2.1, .agg #[.int .i64 r.2.2.Code, .int .i64 r.2.2.Index]] = v)) {g : Gh} {fr : Hl} {w : World} {r : (List Patch) × Bool × Fault} (l_ : (List Patch)) (vl_1 : Value) (hl_1 : RepSl g l_ vl_1) (at_ : Int) (n_ : Int) (S : St g [] fr w) (hm : changeforgeref2_carried.body rec_ l_ at_ n_ = some r) :
  Calls Try.prog 27 [vl_1, .int .i64 at_, .int .i64 n_].toArray w (fun en w' => ∃ v, en = .returned v ∧ ∃ (g' : Gh) (v1 : Value), Le g g' ∧ St g' [] fr w' ∧ RepSl g' r.1 v1 ∧ .tuple #[v1, .bool r.2.1, .agg #[.int .i64 r.2.2.Code, .int .i64 r.2.2.Index]] = v) := by
 unfold changeforgeref2_carried.body at hm
 refine calls_enter (fn := Try.f27) Try.func27 rfl Try.ntmps27 (lb rfl) ?_
 intro a F
 replace F : Fr 75 a [(0, vl_1), (1, .int .i64 at_), (2, .int .i64 n_)] := F
 refine wp_seq ?_
 refine wp_region_lit ?_
 refine wl_ev (wn rfl) (ev_assign rfl) F S rfl rfl ?_; clear F a; intro a F
 refine wl_ev (wn rfl) (ev_assign rfl) F S rfl rfl ?_; clear F a; intro a F
 refine wl_alloc (wn rfl) rfl tz24 (cs := [.int .i64 0, .int .i64 0]) rfl F S rfl rfl ?_; clear F a S; rintro b1 a w F S
 refine wpList_nil ?_
 replace F := F.sub (e' := [(8, bp b1 0), (0, vl_1), (1, .int .i64 at_), (2, .int .i64 n_)]) ⟨rfl, rfl, rfl, rfl, trivial⟩
 refine then_n ?_
 refine wp_seq ?_
 refine wp_seq ?_
 refine wp_region_lit ?_
 refine wl_ev (wn rfl) (ev_move rfl) F S rfl rfl ?_; clear F a; intro a F
 refine wl_ev (wn rfl) (ev_int rfl rfl (bo_eql _ _ _ _)) F S rfl rfl ?_; clear F a; intro a F
 refine wpList_nil ?_
 replace F := F.sub (e' := [(18, .bool (decide (n_ = 0))), (8, bp b1 0), (0, vl_1), (1, .int .i64 at_), (2, .int .i64 n_)]) ⟨rfl, rfl, rfl, rfl, rfl, trivial⟩
 refine then_n ?_
 obtain ⟨hc1, hm⟩ | ⟨hc1, hm⟩ := ite_or hm
 ·refine wp_condT F rfl hc1 ?_
  refine wp_seq ?_
  refine wp_region_lit ?_
  refine wl_ev (wn rfl) (ev_move rfl) F S rfl rfl ?_; clear F a; intro a F
  refine wl_ev (wn rfl) (ev_build (parts := []) (vs := []) rfl (fun w => tb24_  w)) F S rfl rfl ?_; clear F a; intro a F
  refine wl_ev (wn rfl) (ev_assign rfl) F S rfl rfl ?_; clear F a; intro a F
  refine wl_ev (wn rfl) (ev_assign rfl) F S rfl rfl ?_; clear F a; intro a F
  refine wl_storeC (wn rfl) rfl F S rfl rfl (vs := [.int .i64 0, .int .i64 0]) rfl ts24 (one_cons rfl (one_cons rfl one_nil)) (k := 0) rfl (lb rfl) (c' := #[.int .i64 0, .int .i64 0]) rfl rfl ?_; clear S; intro w S
  replace S : St g [[(b1, .cells #[.int .i64 0, .int .i64 0] 24 (0, 0))]] fr w := S
  refine wpList_nil ?_
  replace F := F.sub (e' := [(7, .bool true), (6, vl_1), (8, bp b1 0)]) ⟨rfl, rfl, rfl, trivial⟩
  refine then_n ?_
  refine wp_ret ?_
  refine then_r ?_
  obtain rfl := sinj hm
  refine post_r (fn := Try.f27) (rs := [.tmp 6, .tmp 7, .cell 8 24]) [vl_1, .bool true, .agg #[.int .i64 0, .int .i64 0]] F rfl (ar_cons (resT rfl) (ar_cons (resT rfl) (ar_cons (resA rfl tu24 rfl ts24 (box_ptr (cells := [.int .i64 0, .int .i64 0]) 0 rfl 0 rfl (lb rfl) w S)) ar_nil))) ?_
  replace S : St g [] fr w := St.tail [] _ S
  exact ⟨_, rfl, g, vl_1, (Le.refl _), S, hl_1, rfl⟩
 ·refine wp_condF F rfl hc1 ?_
  refine wp_skip ?_
  refine then_n ?_
  refine wp_seq ?_
  refine wp_region_lit ?_
  refine wl_ev (wn rfl) (ev_move rfl) F S rfl rfl ?_; clear F a; intro a F
  refine wl_ev (wn rfl) (ev_assign rfl) F S rfl rfl ?_; clear F a; intro a F
  refine wpList_nil ?_
  replace F := F.sub (e' := [(9, .int .i64 at_), (8, bp b1 0), (0, vl_1), (1, .int .i64 at_), (2, .int .i64 n_)]) ⟨rfl, rfl, rfl, rfl, rfl, trivial⟩
  refine then_n ?_
  refine wp_seq ?_
  refine wp_region_lit ?_
  refine wl_ev (wn rfl) (ev_move rfl) F S rfl rfl ?_; clear F a; intro a F
  obtain ⟨z1, hz1, hm⟩ := bind_some hm
  refine wl_ev (wn rfl) (ev_int rfl rfl (bo_add hz1)) F S rfl rfl ?_; clear F a; intro a F
  refine wl_ev (wn rfl) (ev_assign rfl) F S rfl rfl ?_; clear F a; intro a F
  refine wpList_nil ?_
  replace F := F.sub (e' := [(10, .int .i64 z1), (9, .int .i64 at_), (8, bp b1 0), (0, vl_1), (1, .int .i64 at_), (2, .int .i64 n_)]) ⟨rfl, rfl, rfl, rfl, rfl, rfl, trivial⟩
  refine then_n ?_
  refine wp_seq ?_
  refine wp_region_lit ?_
  refine wl_ev (wn rfl) (ev_assign rfl) F S rfl rfl ?_; clear F a; intro a F
  refine wpList_nil ?_
  refine then_n ?_
  refine wp_cut (fun a w => ∃ (x1 : Int) (x2 : Int) (x3 : Int) (g1 : Gh), Fr 75 a [(11, .int .i64 x1), (10, .int .i64 x2), (9, .int .i64 x3), (8, bp b1 0), (0, vl_1), (2, .int .i64 n_)] ∧ Le g g1 ∧ St g1 [[(b1, .cells #[.int .i64 0, .int .i64 0] 24 (0, 0))]] fr w ∧ changeforgeref2_carried.j1 l_ n_ rec_ x1 x2 x3 = some r) ?_ ?_
  ·refine wp_seq ?_
   refine wp_region_lit ?_
   refine wl_ev (wn rfl) (ev_move rfl) F S rfl rfl ?_; clear F a; intro a F
   refine wl_ev (wn rfl) (ev_int rfl rfl (bo_lss _ _ _ _)) F S rfl rfl ?_; clear F a; intro a F
   refine wpList_nil ?_
   replace F := F.sub (e' := [(25, .bool (decide (n_ < 0))), (11, .int .i64 1), (10, .int .i64 z1), (9, .int .i64 at_), (8, bp b1 0), (0, vl_1), (1, .int .i64 at_), (2, .int .i64 n_)]) ⟨rfl, rfl, rfl, rfl, rfl, rfl, rfl, rfl, trivial⟩
   refine then_n ?_
   obtain ⟨hc4, hm⟩ | ⟨hc4, hm⟩ := ite_or hm
   ·refine wp_condT F rfl hc4 ?_
    refine wp_seq ?_
    refine wp_region_lit ?_
    refine wl_ev (wn rfl) (ev_move rfl) F S rfl rfl ?_; clear F a; intro a F
    obtain ⟨z5, hz5, hm⟩ := bind_some hm
    refine wl_ev (wn rfl) (ev_int rfl rfl (bo_sub hz5)) F S rfl rfl ?_; clear F a; intro a F
    refine wl_ev (wn rfl) (ev_assign rfl) F S rfl rfl ?_; clear F a; intro a F
    refine wpList_nil ?_
    replace F := F.sub (e' := [(9, .int .i64 z5), (8, bp b1 0), (0, vl_1), (1, .int .i64 at_), (2, .int .i64 n_)]) ⟨rfl, rfl, rfl, rfl, rfl, trivial⟩
    refine then_n ?_
    refine wp_seq ?_
    refine wp_region_lit ?_
    refine wl_ev (wn rfl) (ev_move rfl) F S rfl rfl ?_; clear F a; intro a F
    obtain ⟨z6, hz6, hm⟩ := bind_some hm
    refine wl_ev (wn rfl) (ev_int rfl rfl (bo_sub hz6)) F S rfl rfl ?_; clear F a; intro a F
    refine wl_ev (wn rfl) (ev_assign rfl) F S rfl rfl ?_; clear F a; intro a F
    refine wpList_nil ?_
    replace F := F.sub (e' := [(10, .int .i64 z6), (9, .int .i64 z5), (8, bp b1 0), (0, vl_1), (2, .int .i64 n_)]) ⟨rfl, rfl, rfl, rfl, rfl, trivial⟩
    refine then_n ?_
    refine wp_region_lit ?_
    refine wl_ev (wn rfl) (ev_assign rfl) F S rfl rfl ?_; clear F a; intro a F
    refine wpList_nil ?_
    refine then_n ?_
    exact ⟨(-1), z6, z5, g, F.sub ⟨rfl, rfl, rfl, rfl, rfl, rfl, trivial⟩, (Le.refl _), S, hm⟩
   ·refine wp_condF F rfl hc4 ?_
    refine wp_skip ?_
    refine then_n ?_
    exact ⟨1, z1, at_, g, F.sub ⟨rfl, rfl, rfl, rfl, rfl, rfl, trivial⟩, (Le.refl _), S, hm⟩
  ·clear F S hm; rintro a w ⟨x1, x2, x3, g1, F, l1, S, hm⟩
   refine wp_seq ?_
   obtain ⟨y1, hy1, hm⟩ := bind_some hm
   obtain ⟨z2, hz2, hm⟩ := bind_some hm
   obtain ⟨y2, hy2, hm⟩ := bind_some hm
   obtain ⟨y3, hy3, hm⟩ := bind_some hm
   refine wp_drawL ⟨1, [[31], [32], [33], [34], [35], [36], [37], [38], [39], [40], [30, 40], [41, 40], [42, 40], [43], [44], [12], [13], [15], [40, 12], [40, 13], [14], [15]], [[], [], [], [], [], [], [], [], [], [], [], [], [], [], [], [], [], [], [15], [16], [], [17]], [[], [], [], [], [], [], [], [], [], [], [], [], [], [], [], [], [], [], [], [], [], []], [[0], [9], [], [], [0], [9], [], [], [], [], [], [], [], [], [], [], [], [], [], [], [], []], [[], [], [0, 1], [2], [], [], [5], [4, 6], [7], [3, 8], [9], [9, 10], [9, 10], [9, 10], [9, 10], [], [], [], [9, 11, 15], [9, 12, 16], [13], [14, 17]], [11, 10, 9, 8, 0, 2], [0, 1, 2, 3, 4, 5, 6, 7, 8, 9, 10, 11, 12, 13, 14, 18, 19, 20, 21, 22]⟩
    [([31], fun us g c => us = [vl_1]),
     ([32], fun us g c => us = [.int .i64 x3]),
     ([33], fun us g c => ∃ v1 : Value, us = [(elemP vl_1 x3 1)] ∧ RepSl g y1.Hunks v1 ∧ PtrC g (elemP vl_1 x3 1) [v1]),
     ([34], fun us g c => ∃ v1 : Value, us = [.agg #[v1]] ∧ RepSl g y1.Hunks v1),
     ([35], fun us g c => us = [vl_1]),
     ([36], fun us g c => us = [.int .i64 x3]),
     ([37], fun us g c => us = [.int .i64 z2]),
     ([38], fun us g c => ∃ v2 : Value, us = [(elemP vl_1 z2 1)] ∧ RepSl g y2.Hunks v2 ∧ PtrC g (elemP vl_1 z2 1) [v2]),
     ([39], fun us g c => ∃ v2 : Value, us = [.agg #[v2]] ∧ RepSl g y2.Hunks v2),
     ([40], fun us g c => ∃ v3 : Value, ∃ v4 : Value, us = [.tuple #[.agg #[v3], .agg #[v4], .bool y3.2.2.1, .agg #[.int .i64 y3.2.2.2.Code, .int .i64 y3.2.2.2.Index]]] ∧ RepSl g y3.1.Hunks v3 ∧ RepSl g y3.2.1.Hunks v4),
     ([30, 40], fun us g c => ∃ v3 : Value, ∃ v4 : Value, us = [.tuple #[.agg #[v3], .agg #[v4], .bool y3.2.2.1, .agg #[.int .i64 y3.2.2.2.Code, .int .i64 y3.2.2.2.Index]], .tuple #[.agg #[v3], .agg #[v4], .bool y3.2.2.1, .agg #[.int .i64 y3.2.2.2.Code, .int .i64 y3.2.2.2.Index]]]),
     ([41, 40], fun us g c => ∃ v3 : Value, ∃ v4 : Value, us = [.agg #[v3], .tuple #[.agg #[v3], .agg #[v4], .bool y3.2.2.1, .agg #[.int .i64 y3.2.2.2.Code, .int .i64 y3.2.2.2.Index]]]),
     ([42, 40], fun us g c => ∃ v4 : Value, ∃ v3 : Value, us = [.agg #[v4], .tuple #[.agg #[v3], .agg #[v4], .bool y3.2.2.1, .agg #[.int .i64 y3.2.2.2.Code, .int .i64 y3.2.2.2.Index]]]),
     ([43], fun us g c => us = [.bool y3.2.2.1]),
     ([44], fun us g c => us = [.agg #[.int .i64 y3.2.2.2.Code, .int .i64 y3.2.2.2.Index]]),
     ([12], fun us g c => ∃ b2 : Nat, us = [bp b2 0] ∧ c = [(b2, .cells #[nilS] 38 (0, 0))]),
     ([13], fun us g c => ∃ b3 : Nat, us = [bp b3 0] ∧ c = [(b3, .cells #[nilS] 38 (0, 0))]),
     ([15], fun us g c => ∃ b4 : Nat, us = [bp b4 0] ∧ c = [(b4, .cells #[.int .i64 0, .int .i64 0] 24 (0, 0))]),
     ([40, 12], fun us g c => ∃ v3 : Value, ∃ b2 : Nat, ∃ v4 : Value, us = [.tuple #[.agg #[v3], .agg #[v4], .bool y3.2.2.1, .agg #[.int .i64 y3.2.2.2.Code, .int .i64 y3.2.2.2.Index]], bp b2 0] ∧ c = [(b2, .cells #[v3] 38 (0, 0))]),
     ([40, 13], fun us g c => ∃ v4 : Value, ∃ b3 : Nat, ∃ v3 : Value, us = [.tuple #[.agg #[v3], .agg #[v4], .bool y3.2.2.1, .agg #[.int .i64 y3.2.2.2.Code, .int .i64 y3.2.2.2.Index]], bp b3 0] ∧ c = [(b3, .cells #[v4] 38 (0, 0))]),
     ([14], fun us g c => us = [.bool y3.2.2.1]),
     ([15], fun us g c => ∃ b4 : Nat, us = [bp b4 0] ∧ c = [(b4, .cells #[.int .i64 y3.2.2.2.Code, .int .i64 y3.2.2.2.Index] 24 (0, 0))])]
    mo (by kernel_rfl) rfl rfl ⟨fun _ _ _ _ _ h => h, fun _ _ _ _ _ h => h, fun _ _ _ _ l ⟨x0, e0, h0, h1⟩ => ⟨x0, e0, h0.mono l, h1.mono l⟩, fun _ _ _ _ l ⟨x0, e0, h0⟩ => ⟨x0, e0, h0.mono l⟩, fun _ _ _ _ _ h => h, fun _ _ _ _ _ h => h, fun _ _ _ _ _ h => h, fun _ _ _ _ l ⟨x0, e0, h0, h1⟩ => ⟨x0, e0, h0.mono l, h1.mono l⟩, fun _ _ _ _ l ⟨x0, e0, h0⟩ => ⟨x0, e0, h0.mono l⟩, fun _ _ _ _ l ⟨x0, x1, e0, h0, h1⟩ => ⟨x0, x1, e0, h0.mono l, h1.mono l⟩, fun _ _ _ _ _ h => h, fun _ _ _ _ _ h => h, fun _ _ _ _ _ h => h, fun _ _ _ _ _ h => h, fun _ _ _ _ _ h => h, fun _ _ _ _ _ h => h, fun _ _ _ _ _ h => h, fun _ _ _ _ _ h => h, fun _ _ _ _ _ h => h, fun _ _ _ _ _ h => h, fun _ _ _ _ _ h => h, fun _ _ _ _ _ h => h, trivial⟩ F S ⟨?_, ?_, ?_, ?_, ?_, ?_, ?_, ?_, ?_, ?_, ?_, ?_, ?_, ?_, ?_, ?_, ?_, ?_, ?_, ?_, ?_, ?_, trivial⟩ ?_
   ·intro a w gd1 c fr hsz hdf hK ld1 hN hI S
    have F : Fr 75 a [(0, vl_1)] := Fr.of hsz hdf ⟨hK 0 (by decide) _ rfl, trivial⟩
    replace S : St gd1 [] fr w := S.of_eq (flat2 _ _ _ _)
    refine wl_ev (wn rfl) (ev_move rfl) F S rfl rfl ?_; clear F; intro a F
    refine wpList_nil ⟨rfl, F.sz, F.df, _, [], (Le.refl _), ?_, (lst1 (F.get 31 _ rfl))⟩
    refine St0.of_eq ?_ (flat3 c [] [] fr).symm
    show St0 _ (fl ([] ++ []) fr) _
    exact S
   ·intro a w gd1 c fr hsz hdf hK ld1 hN hI S
    have F : Fr 75 a [(9, .int .i64 x3)] := Fr.of hsz hdf ⟨hK 9 (by decide) _ rfl, trivial⟩
    replace S : St gd1 [] fr w := S.of_eq (flat2 _ _ _ _)
    refine wl_ev (wn rfl) (ev_move rfl) F S rfl rfl ?_; clear F; intro a F
    refine wpList_nil ⟨rfl, F.sz, F.df, _, [], (Le.refl _), ?_, (lst1 (F.get 32 _ rfl))⟩
    refine St0.of_eq ?_ (flat3 c [] [] fr).symm
    show St0 _ (fl ([] ++ []) fr) _
    exact S
   ·intro a w gd1 c fr hsz hdf hK ld1 hN hI S
    have e0 := hN 0 (by decide)
    have e31x : val a 31 = vl_1 := nth e0 0
    have e1 := hN 1 (by decide)
    have e32x : val a 32 = .int .i64 x3 := nth e1 0
    have F : Fr 75 a [(31, vl_1), (32, .int .i64 x3)] := Fr.of hsz hdf ⟨e31x, e32x, trivial⟩
    replace S : St gd1 [] fr w := S.of_eq (flat2 _ _ _ _)
    obtain ⟨cs1, hr1, hp1⟩ := elemS (hl_1.mono (l1.trans ld1)) hy1
    obtain ⟨v1, rfl, h1⟩ := rep_Patch hr1
    refine wl_ev (wn rfl) (ev_idxS (hl_1.mono (l1.trans ld1)) hy1 tu22 ts38 rfl rfl) F S rfl rfl ?_; clear F; intro a F
    refine wpList_nil ⟨rfl, F.sz, F.df, _, [], (Le.refl _), ?_, ⟨v1, (lst1 (F.get 33 _ rfl)), h1, hp1⟩⟩
    refine St0.of_eq ?_ (flat3 c [] [] fr).symm
    show St0 _ (fl ([] ++ []) fr) _
    exact S
   ·intro a w gd1 c fr hsz hdf hK ld1 hN hI S
    obtain ⟨lv1, e2, lh1, lh2⟩ := hN 2 (by decide)
    have e33x : val a 33 = (elemP vl_1 x3 1) := nth e2 0
    have F : Fr 75 a [(33, (elemP vl_1 x3 1))] := Fr.of hsz hdf ⟨e33x, trivial⟩
    replace S : St gd1 [] fr w := S.of_eq (flat2 _ _ _ _)
    refine wl_ev (wn rfl) (ev_loadA tu38 rfl (cs := [lv1]) ts38 rfl (ptr_mono (cks := []) (fr := fr) lh2 (Le.refl _))) F S rfl rfl ?_; clear F; intro a F
    refine wpList_nil ⟨rfl, F.sz, F.df, _, [], (Le.refl _), ?_, ⟨lv1, (lst1 (F.get 34 _ rfl)), lh1⟩⟩
    refine St0.of_eq ?_ (flat3 c [] [] fr).symm
    show St0 _ (fl ([] ++ []) fr) _
    exact S
   ·intro a w gd1 c fr hsz hdf hK ld1 hN hI S
    have F : Fr 75 a [(0, vl_1)] := Fr.of hsz hdf ⟨hK 0 (by decide) _ rfl, trivial⟩
    replace S : St gd1 [] fr w := S.of_eq (flat2 _ _ _ _)
    refine wl_ev (wn rfl) (ev_move rfl) F S rfl rfl ?_; clear F; intro a F
    refine wpList_nil ⟨rfl, F.sz, F.df, _, [], (Le.refl _), ?_, (lst1 (F.get 35 _ rfl))⟩
    refine St0.of_eq ?_ (flat3 c [] [] fr).symm
    show St0 _ (fl ([] ++ []) fr) _
    exact S
   ·intro a w gd1 c fr hsz hdf hK ld1 hN hI S
    have F : Fr 75 a [(9, .int .i64 x3)] := Fr.of hsz hdf ⟨hK 9 (by decide) _ rfl, trivial⟩
    replace S : St gd1 [] fr w := S.of_eq (flat2 _ _ _ _)
    refine wl_ev (wn rfl) (ev_move rfl) F S rfl rfl ?_; clear F; intro a F
    refine wpList_nil ⟨rfl, F.sz, F.df, _, [], (Le.refl _), ?_, (lst1 (F.get 36 _ rfl))⟩
    refine St0.of_eq ?_ (flat3 c [] [] fr).symm
    show St0 _ (fl ([] ++ []) fr) _
    exact S
   ·intro a w gd1 c fr hsz hdf hK ld1 hN hI S
    have e5 := hN 5 (by decide)
    have e36x : val a 36 = .int .i64 x3 := nth e5 0
    have F : Fr 75 a [(36, .int .i64 x3)] := Fr.of hsz hdf ⟨e36x, trivial⟩
    replace S : St gd1 [] fr w := S.of_eq (flat2 _ _ _ _)
    refine wl_ev (wn rfl) (ev_int rfl rfl (bo_add hz2)) F S rfl rfl ?_; clear F; intro a F
    refine wpList_nil ⟨rfl, F.sz, F.df, _, [], (Le.refl _), ?_, (lst1 (F.get 37 _ rfl))⟩
    refine St0.of_eq ?_ (flat3 c [] [] fr).symm
    show St0 _ (fl ([] ++ []) fr) _
    exact S
   ·intro a w gd1 c fr hsz hdf hK ld1 hN hI S
    have e4 := hN 4 (by decide)
    have e35x : val a 35 = vl_1 := nth e4 0
    have e6 := hN 6 (by decide)
    have e37x : val a 37 = .int .i64 z2 := nth e6 0
    have F : Fr 75 a [(35, vl_1), (37, .int .i64 z2)] := Fr.of hsz hdf ⟨e35x, e37x, trivial⟩
    replace S : St gd1 [] fr w := S.of_eq (flat2 _ _ _ _)
    obtain ⟨cs2, hr2, hp2⟩ := elemS (hl_1.mono (l1.trans ld1)) hy2
    obtain ⟨v2, rfl, h2⟩ := rep_Patch hr2
    refine wl_ev (wn rfl) (ev_idxS (hl_1.mono (l1.trans ld1)) hy2 tu22 ts38 rfl rfl) F S rfl rfl ?_; clear F; intro a F
    refine wpList_nil ⟨rfl, F.sz, F.df, _, [], (Le.refl _), ?_, ⟨v2, (lst1 (F.get 38 _ rfl)), h2, hp2⟩⟩
    refine St0.of_eq ?_ (flat3 c [] [] fr).symm
    show St0 _ (fl ([] ++ []) fr) _
    exact S
   ·intro a w gd1 c fr hsz hdf hK ld1 hN hI S
    obtain ⟨lv1, e7, lh1, lh2⟩ := hN 7 (by decide)
    have e38x : val a 38 = (elemP vl_1 z2 1) := nth e7 0
    have F : Fr 75 a [(38, (elemP vl_1 z2 1))] := Fr.of hsz hdf ⟨e38x, trivial⟩
    replace S : St gd1 [] fr w := S.of_eq (flat2 _ _ _ _)
    refine wl_ev (wn rfl) (ev_loadA tu38 rfl (cs := [lv1]) ts38 rfl (ptr_mono (cks := []) (fr := fr) lh2 (Le.refl _))) F S rfl rfl ?_; clear F; intro a F
    refine wpList_nil ⟨rfl, F.sz, F.df, _, [], (Le.refl _), ?_, ⟨lv1, (lst1 (F.get 39 _ rfl)), lh1⟩⟩
    refine St0.of_eq ?_ (flat3 c [] [] fr).symm
    show St0 _ (fl ([] ++ []) fr) _
    exact S
   ·intro a w gd1 c fr hsz hdf hK ld1 hN hI S
    obtain ⟨v1, e3, lh1⟩ := hN 3 (by decide)
    have e34x : val a 34 = .agg #[v1] := nth e3 0
    obtain ⟨v2, e8, lh2⟩ := hN 8 (by decide)
    have e39x : val a 39 = .agg #[v2] := nth e8 0
    have F : Fr 75 a [(34, .agg #[v1]), (39, .agg #[v2])] := Fr.of hsz hdf ⟨e34x, e39x, trivial⟩
    replace S : St gd1 [] fr w := S.of_eq (flat2 _ _ _ _)
    refine wl_call (wn rfl) rfl (xs := [.tmp 34, .tmp 39]) (vs := [.agg #[v1], .agg #[v2]]) (cap := []) F rfl rfl tc47 (changeforgeref1_Commute_ok (g := gd1) (fr := fr) (w := w) y1 v1 lh1 y2 v2 lh2 S hy3) rfl rfl ?_; clear F S
    rintro _ a w ⟨g2, v3, v4, l2, S, h3, h4, rfl⟩ F; replace S : St g2 [] fr w := S
    refine wpList_nil ⟨rfl, F.sz, F.df, _, [], l2, ?_, ⟨v3, v4, (lst1 (F.get 40 _ rfl)), h3, h4⟩⟩
    refine St0.of_eq ?_ (flat3 c [] [] fr).symm
    show St0 _ (fl ([] ++ []) fr) _
    exact S
   ·intro a w gd1 c fr hsz hdf hK ld1 hN hI S
    obtain ⟨v3, v4, e9, lh1, lh2⟩ := hN 9 (by decide)
    have e40x : val a 40 = .tuple #[.agg #[v3], .agg #[v4], .bool y3.2.2.1, .agg #[.int .i64 y3.2.2.2.Code, .int .i64 y3.2.2.2.Index]] := nth e9 0
    have F : Fr 75 a [(40, .tuple #[.agg #[v3], .agg #[v4], .bool y3.2.2.1, .agg #[.int .i64 y3.2.2.2.Code, .int .i64 y3.2.2.2.Index]])] := Fr.of hsz hdf ⟨e40x, trivial⟩
    replace S : St gd1 [] fr w := S.of_eq (flat2 _ _ _ _)
    refine wl_ev (wn rfl) (ev_move rfl) F S rfl rfl ?_; clear F; intro a F
    refine wpList_nil ⟨rfl, F.sz, F.df, _, [], (Le.refl _), ?_, ⟨v3, v4, (lst2 (F.get 30 _ rfl) (F.get 40 _ rfl))⟩⟩
    refine St0.of_eq ?_ (flat3 c [] [] fr).symm
    show St0 _ (fl ([] ++ []) fr) _
    exact S
   ·intro a w gd1 c fr hsz hdf hK ld1 hN hI S
    obtain ⟨v3, v4, e9, lh1, lh2⟩ := hN 9 (by decide)
    have e40x : val a 40 = .tuple #[.agg #[v3], .agg #[v4], .bool y3.2.2.1, .agg #[.int .i64 y3.2.2.2.Code, .int .i64 y3.2.2.2.Index]] := nth e9 0
    obtain ⟨dup1, dup2, e10⟩ := hN 10 (by decide)
    obtain rfl : v3 = dup1 := by have hq := e40x.symm.trans (nth e10 1); simp at hq; first | exact hq | exact hq.1 | exact hq.2 | exact hq.2.1 | exact hq.2.2
    obtain rfl : v4 = dup2 := by have hq := e40x.symm.trans (nth e10 1); simp at hq; first | exact hq | exact hq.1 | exact hq.2 | exact hq.2.1 | exact hq.2.2
    have e30x : val a 30 = .tuple #[.agg #[v3], .agg #[v4], .bool y3.2.2.1, .agg #[.int .i64 y3.2.2.2.Code, .int .i64 y3.2.2.2.Index]] := nth e10 0
    have F : Fr 75 a [(40, .tuple #[.agg #[v3], .agg #[v4], .bool y3.2.2.1, .agg #[.int .i64 y3.2.2.2.Code, .int .i64 y3.2.2.2.Index]]), (30, .tuple #[.agg #[v3], .agg #[v4], .bool y3.2.2.1, .agg #[.int .i64 y3.2.2.2.Code, .int .i64 y3.2.2.2.Index]])] := Fr.of hsz hdf ⟨e40x, e30x, trivial⟩
    replace S : St gd1 [] fr w := S.of_eq (flat2 _ _ _ _)
    refine wl_ev (wn rfl) (ev_extract (vs := [.agg #[v3], .agg #[v4], .bool y3.2.2.1, .agg #[.int .i64 y3.2.2.2.Code, .int .i64 y3.2.2.2.Index]]) rfl rfl) F S rfl rfl ?_; clear F; intro a F
    refine wpList_nil ⟨rfl, F.sz, F.df, _, [], (Le.refl _), ?_, ⟨v3, v4, (lst2 (F.get 41 _ rfl) (F.get 40 _ rfl))⟩⟩
    refine St0.of_eq ?_ (flat3 c [] [] fr).symm
    show St0 _ (fl ([] ++ []) fr) _
    exact S
   ·intro a w gd1 c fr hsz hdf hK ld1 hN hI S
    obtain ⟨v3, v4, e9, lh1, lh2⟩ := hN 9 (by decide)
    have e40x : val a 40 = .tuple #[.agg #[v3], .agg #[v4], .bool y3.2.2.1, .agg #[.int .i64 y3.2.2.2.Code, .int .i64 y3.2.2.2.Index]] := nth e9 0
    obtain ⟨dup1, dup2, e10⟩ := hN 10 (by decide)
    obtain rfl : v3 = dup1 := by have hq := e40x.symm.trans (nth e10 1); simp at hq; first | exact hq | exact hq.1 | exact hq.2 | exact hq.2.1 | exact hq.2.2
    obtain rfl : v4 = dup2 := by have hq := e40x.symm.trans (nth e10 1); simp at hq; first | exact hq | exact hq.1 | exact hq.2 | exact hq.2.1 | exact hq.2.2
    have e30x : val a 30 = .tuple #[.agg #[v3], .agg #[v4], .bool y3.2.2.1, .agg #[.int .i64 y3.2.2.2.Code, .int .i64 y3.2.2.2.Index]] := nth e10 0
    have F : Fr 75 a [(40, .tuple #[.agg #[v3], .agg #[v4], .bool y3.2.2.1, .agg #[.int .i64 y3.2.2.2.Code, .int .i64 y3.2.2.2.Index]]), (30, .tuple #[.agg #[v3], .agg #[v4], .bool y3.2.2.1, .agg #[.int .i64 y3.2.2.2.Code, .int .i64 y3.2.2.2.Index]])] := Fr.of hsz hdf ⟨e40x, e30x, trivial⟩
    replace S : St gd1 [] fr w := S.of_eq (flat2 _ _ _ _)
    refine wl_ev (wn rfl) (ev_extract (vs := [.agg #[v3], .agg #[v4], .bool y3.2.2.1, .agg #[.int .i64 y3.2.2.2.Code, .int .i64 y3.2.2.2.Index]]) rfl rfl) F S rfl rfl ?_; clear F; intro a F
    refine wpList_nil ⟨rfl, F.sz, F.df, _, [], (Le.refl _), ?_, ⟨v4, v3, (lst2 (F.get 42 _ rfl) (F.get 40 _ rfl))⟩⟩
    refine St0.of_eq ?_ (flat3 c [] [] fr).symm
    show St0 _ (fl ([] ++ []) fr) _
    exact S
   ·intro a w gd1 c fr hsz hdf hK ld1 hN hI S
    obtain ⟨v3, v4, e9, lh1, lh2⟩ := hN 9 (by decide)
    have e40x : val a 40 = .tuple #[.agg #[v3], .agg #[v4], .bool y3.2.2.1, .agg #[.int .i64 y3.2.2.2.Code, .int .i64 y3.2.2.2.Index]] := nth e9 0
    obtain ⟨dup1, dup2, e10⟩ := hN 10 (by decide)
    obtain rfl : v3 = dup1 := by have hq := e40x.symm.trans (nth e10 1); simp at hq; first | exact hq | exact hq.1 | exact hq.2 | exact hq.2.1 | exact hq.2.2
    obtain rfl : v4 = dup2 := by have hq := e40x.symm.trans (nth e10 1); simp at hq; first | exact hq | exact hq.1 | exact hq.2 | exact hq.2.1 | exact hq.2.2
    have e30x : val a 30 = .tuple #[.agg #[v3], .agg #[v4], .bool y3.2.2.1, .agg #[.int .i64 y3.2.2.2.Code, .int .i64 y3.2.2.2.Index]] := nth e10 0
    have F : Fr 75 a [(40, .tuple #[.agg #[v3], .agg #[v4], .bool y3.2.2.1, .agg #[.int .i64 y3.2.2.2.Code, .int .i64 y3.2.2.2.Index]]), (30, .tuple #[.agg #[v3], .agg #[v4], .bool y3.2.2.1, .agg #[.int .i64 y3.2.2.2.Code, .int .i64 y3.2.2.2.Index]])] := Fr.of hsz hdf ⟨e40x, e30x, trivial⟩
    replace S : St gd1 [] fr w := S.of_eq (flat2 _ _ _ _)
    refine wl_ev (wn rfl) (ev_extract (vs := [.agg #[v3], .agg #[v4], .bool y3.2.2.1, .agg #[.int .i64 y3.2.2.2.Code, .int .i64 y3.2.2.2.Index]]) rfl rfl) F S rfl rfl ?_; clear F; intro a F
    refine wpList_nil ⟨rfl, F.sz, F.df, _, [], (Le.refl _), ?_, (lst1 (F.get 43 _ rfl))⟩
    refine St0.of_eq ?_ (flat3 c [] [] fr).symm
    show St0 _ (fl ([] ++ []) fr) _
    exact S
   ·intro a w gd1 c fr hsz hdf hK ld1 hN hI S
    obtain ⟨v3, v4, e9, lh1, lh2⟩ := hN 9 (by decide)
    have e40x : val a 40 = .tuple #[.agg #[v3], .agg #[v4], .bool y3.2.2.1, .agg #[.int .i64 y3.2.2.2.Code, .int .i64 y3.2.2.2.Index]] := nth e9 0
    obtain ⟨dup1, dup2, e10⟩ := hN 10 (by decide)
    obtain rfl : v3 = dup1 := by have hq := e40x.symm.trans (nth e10 1); simp at hq; first | exact hq | exact hq.1 | exact hq.2 | exact hq.2.1 | exact hq.2.2
    obtain rfl : v4 = dup2 := by have hq := e40x.symm.trans (nth e10 1); simp at hq; first | exact hq | exact hq.1 | exact hq.2 | exact hq.2.1 | exact hq.2.2
    have e30x : val a 30 = .tuple #[.agg #[v3], .agg #[v4], .bool y3.2.2.1, .agg #[.int .i64 y3.2.2.2.Code, .int .i64 y3.2.2.2.Index]] := nth e10 0
    have F : Fr 75 a [(40, .tuple #[.agg #[v3], .agg #[v4], .bool y3.2.2.1, .agg #[.int .i64 y3.2.2.2.Code, .int .i64 y3.2.2.2.Index]]), (30, .tuple #[.agg #[v3], .agg #[v4], .bool y3.2.2.1, .agg #[.int .i64 y3.2.2.2.Code, .int .i64 y3.2.2.2.Index]])] := Fr.of hsz hdf ⟨e40x, e30x, trivial⟩
    replace S : St gd1 [] fr w := S.of_eq (flat2 _ _ _ _)
    refine wl_ev (wn rfl) (ev_extract (vs := [.agg #[v3], .agg #[v4], .bool y3.2.2.1, .agg #[.int .i64 y3.2.2.2.Code, .int .i64 y3.2.2.2.Index]]) rfl rfl) F S rfl rfl ?_; clear F; intro a F
    refine wpList_nil ⟨rfl, F.sz, F.df, _, [], (Le.refl _), ?_, (lst1 (F.get 44 _ rfl))⟩
    refine St0.of_eq ?_ (flat3 c [] [] fr).symm
    show St0 _ (fl ([] ++ []) fr) _
    exact S
   ·intro a w gd1 c fr hsz hdf hK ld1 hN hI S
    have F : Fr 75 a [] := Fr.of hsz hdf trivial
    replace S : St gd1 [] fr w := S.of_eq (flat2 _ _ _ _)
    refine wl_alloc (wn rfl) rfl tz38 (cs := [nilS]) rfl F S rfl rfl ?_; clear F S; rintro b2 a w F S
    refine wpList_nil ⟨rfl, F.sz, F.df, _, [(b2, .cells #[nilS] 38 (0, 0))], (Le.refl _), ?_, ⟨b2, (lst1 (F.get 12 _ rfl)), rfl⟩⟩
    refine St0.of_eq ?_ (flat3s c ([(b2, .cells #[nilS] 38 (0, 0))]) [] fr).symm
    show St0 _ (fl ([[(b2, .cells #[nilS] 38 (0, 0))]] ++ []) fr) _
    exact S
   ·intro a w gd1 c fr hsz hdf hK ld1 hN hI S
    have F : Fr 75 a [] := Fr.of hsz hdf trivial
    replace S : St gd1 [] fr w := S.of_eq (flat2 _ _ _ _)
    refine wl_alloc (wn rfl) rfl tz38 (cs := [nilS]) rfl F S rfl rfl ?_; clear F S; rintro b3 a w F S
    refine wpList_nil ⟨rfl, F.sz, F.df, _, [(b3, .cells #[nilS] 38 (0, 0))], (Le.refl _), ?_, ⟨b3, (lst1 (F.get 13 _ rfl)), rfl⟩⟩
    refine St0.of_eq ?_ (flat3s c ([(b3, .cells #[nilS] 38 (0, 0))]) [] fr).symm
    show St0 _ (fl ([[(b3, .cells #[nilS] 38 (0, 0))]] ++ []) fr) _
    exact S
   ·intro a w gd1 c fr hsz hdf hK ld1 hN hI S
    have F : Fr 75 a [] := Fr.of hsz hdf trivial
    replace S : St gd1 [] fr w := S.of_eq (flat2 _ _ _ _)
    refine wl_alloc (wn rfl) rfl tz24 (cs := [.int .i64 0, .int .i64 0]) rfl F S rfl rfl ?_; clear F S; rintro b4 a w F S
    refine wpList_nil ⟨rfl, F.sz, F.df, _, [(b4, .cells #[.int .i64 0, .int .i64 0] 24 (0, 0))], (Le.refl _), ?_, ⟨b4, (lst1 (F.get 15 _ rfl)), rfl⟩⟩
    refine St0.of_eq ?_ (flat3s c ([(b4, .cells #[.int .i64 0, .int .i64 0] 24 (0, 0))]) [] fr).symm
    show St0 _ (fl ([[(b4, .cells #[.int .i64 0, .int .i64 0] 24 (0, 0))]] ++ []) fr) _
    exact S
   ·intro a w gd1 c fr hsz hdf hK ld1 hN hI S
    obtain ⟨v3, v4, e9, lh1, lh2⟩ := hN 9 (by decide)
    have e40x : val a 40 = .tuple #[.agg #[v3], .agg #[v4], .bool y3.2.2.1, .agg #[.int .i64 y3.2.2.2.Code, .int .i64 y3.2.2.2.Index]] := nth e9 0
    obtain ⟨dup1, dup2, e11⟩ := hN 11 (by decide)
    obtain rfl : v3 = dup1 := by have hq := e40x.symm.trans (nth e11 1); simp at hq; first | exact hq | exact hq.1 | exact hq.2 | exact hq.2.1 | exact hq.2.2
    obtain rfl : v4 = dup2 := by have hq := e40x.symm.trans (nth e11 1); simp at hq; first | exact hq | exact hq.1 | exact hq.2 | exact hq.2.1 | exact hq.2.2
    have e41x : val a 41 = .agg #[v3] := nth e11 0
    obtain ⟨b2, e15, q15⟩ := hN 15 (by decide)
    have e12x : val a 12 = bp b2 0 := nth e15 0
    have F : Fr 75 a [(40, .tuple #[.agg #[v3], .agg #[v4], .bool y3.2.2.1, .agg #[.int .i64 y3.2.2.2.Code, .int .i64 y3.2.2.2.Index]]), (41, .agg #[v3]), (12, bp b2 0)] := Fr.of hsz hdf ⟨e40x, e41x, e12x, trivial⟩
    replace S : St gd1 [c 15] fr w := S.of_eq (flat2 _ _ _ _)
    rw [q15] at S
    refine wl_storeC (wn rfl) rfl F S rfl rfl (vs := [v3]) rfl ts38 (one_cons lh1.one one_nil) (k := 0) rfl (lb rfl) (c' := #[v3]) rfl rfl ?_; clear S; intro w S
    replace S : St gd1 [[(b2, .cells #[v3] 38 (0, 0))]] fr w := S
    refine wpList_nil ⟨rfl, F.sz, F.df, _, [(b2, .cells #[v3] 38 (0, 0))], (Le.refl _), ?_, ⟨v3, b2, v4, (lst2 (F.get 40 _ rfl) (F.get 12 _ rfl)), rfl⟩⟩
    refine St0.of_eq ?_ (flat3s c ([(b2, .cells #[v3] 38 (0, 0))]) [] fr).symm
    show St0 _ (fl ([[(b2, .cells #[v3] 38 (0, 0))]] ++ []) fr) _
    exact S
   ·intro a w gd1 c fr hsz hdf hK ld1 hN hI S
    obtain ⟨v3, v4, e9, lh1, lh2⟩ := hN 9 (by decide)
    have e40x : val a 40 = .tuple #[.agg #[v3], .agg #[v4], .bool y3.2.2.1, .agg #[.int .i64 y3.2.2.2.Code, .int .i64 y3.2.2.2.Index]] := nth e9 0
    obtain ⟨dup1, dup2, e12⟩ := hN 12 (by decide)
    obtain rfl : v4 = dup1 := by have hq := e40x.symm.trans (nth e12 1); simp at hq; first | exact hq | exact hq.1 | exact hq.2 | exact hq.2.1 | exact hq.2.2
    obtain rfl : v3 = dup2 := by have hq := e40x.symm.trans (nth e12 1); simp at hq; first | exact hq | exact hq.1 | exact hq.2 | exact hq.2.1 | exact hq.2.2
    have e42x : val a 42 = .agg #[v4] := nth e12 0
    obtain ⟨b3, e16, q16⟩ := hN 16 (by decide)
    have e13x : val a 13 = bp b3 0 := nth e16 0
    have F : Fr 75 a [(40, .tuple #[.agg #[v3], .agg #[v4], .bool y3.2.2.1, .agg #[.int .i64 y3.2.2.2.Code, .int .i64 y3.2.2.2.Index]]), (42, .agg #[v4]), (13, bp b3 0)] := Fr.of hsz hdf ⟨e40x, e42x, e13x, trivial⟩
    replace S : St gd1 [c 16] fr w := S.of_eq (flat2 _ _ _ _)
    rw [q16] at S
    refine wl_storeC (wn rfl) rfl F S rfl rfl (vs := [v4]) rfl ts38 (one_cons lh2.one one_nil) (k := 0) rfl (lb rfl) (c' := #[v4]) rfl rfl ?_; clear S; intro w S
    replace S : St gd1 [[(b3, .cells #[v4] 38 (0, 0))]] fr w := S
    refine wpList_nil ⟨rfl, F.sz, F.df, _, [(b3, .cells #[v4] 38 (0, 0))], (Le.refl _), ?_, ⟨v4, b3, v3, (lst2 (F.get 40 _ rfl) (F.get 13 _ rfl)), rfl⟩⟩
    refine St0.of_eq ?_ (flat3s c ([(b3, .cells #[v4] 38 (0, 0))]) [] fr).symm
    show St0 _ (fl ([[(b3, .cells #[v4] 38 (0, 0))]] ++ []) fr) _
    exact S
   ·intro a w gd1 c fr hsz hdf hK ld1 hN hI S
    have e13 := hN 13 (by decide)
    have e43x : val a 43 = .bool y3.2.2.1 := nth e13 0
    have F : Fr 75 a [(43, .bool y3.2.2.1)] := Fr.of hsz hdf ⟨e43x, trivial⟩
    replace S : St gd1 [] fr w := S.of_eq (flat2 _ _ _ _)
    refine wl_ev (wn rfl) (ev_assign rfl) F S rfl rfl ?_; clear F; intro a F
    refine wpList_nil ⟨rfl, F.sz, F.df, _, [], (Le.refl _), ?_, (lst1 (F.get 14 _ rfl))⟩
    refine St0.of_eq ?_ (flat3 c [] [] fr).symm
    show St0 _ (fl ([] ++ []) fr) _
    exact S
   ·intro a w gd1 c fr hsz hdf hK ld1 hN hI S
    have e14 := hN 14 (by decide)
    have e44x : val a 44 = .agg #[.int .i64 y3.2.2.2.Code, .int .i64 y3.2.2.2.Index] := nth e14 0
    obtain ⟨b4, e17, q17⟩ := hN 17 (by decide)
    have e15x : val a 15 = bp b4 0 := nth e17 0
    have F : Fr 75 a [(44, .agg #[.int .i64 y3.2.2.2.Code, .int .i64 y3.2.2.2.Index]), (15, bp b4 0)] := Fr.of hsz hdf ⟨e44x, e15x, trivial⟩
    replace S : St gd1 [c 17] fr w := S.of_eq (flat2 _ _ _ _)
    rw [q17] at S
    refine wl_storeC (wn rfl) rfl F S rfl rfl (vs := [.int .i64 y3.2.2.2.Code, .int .i64 y3.2.2.2.Index]) rfl ts24 (one_cons rfl (one_cons rfl one_nil)) (k := 0) rfl (lb rfl) (c' := #[.int .i64 y3.2.2.2.Code, .int .i64 y3.2.2.2.Index]) rfl rfl ?_; clear S; intro w S
    replace S : St gd1 [[(b4, .cells #[.int .i64 y3.2.2.2.Code, .int .i64 y3.2.2.2.Index] 24 (0, 0))]] fr w := S
    refine wpList_nil ⟨rfl, F.sz, F.df, _, [(b4, .cells #[.int .i64 y3.2.2.2.Code, .int .i64 y3.2.2.2.Index] 24 (0, 0))], (Le.refl _), ?_, ⟨b4, (lst1 (F.get 15 _ rfl)), rfl⟩⟩
    refine St0.of_eq ?_ (flat3s c ([(b4, .cells #[.int .i64 y3.2.2.2.Code, .int .i64 y3.2.2.2.Index] 24 (0, 0))]) [] fr).symm
    show St0 _ (fl ([[(b4, .cells #[.int .i64 y3.2.2.2.Code, .int .i64 y3.2.2.2.Index] 24 (0, 0))]] ++ []) fr) _
    exact S
   clear F S; intro a w gd1 c hsz hdf hK ld1 hI S hN
   obtain ⟨v3, v4, e9, lh1, lh2⟩ := hN 9 (by decide)
   have e40x : val a 40 = .tuple #[.agg #[v3], .agg #[v4], .bool y3.2.2.1, .agg #[.int .i64 y3.2.2.2.Code, .int .i64 y3.2.2.2.Index]] := nth e9 0
   obtain ⟨b2, e15, q15⟩ := hN 15 (by decide)
   have e12x : val a 12 = bp b2 0 := nth e15 0
   obtain ⟨b3, e16, q16⟩ := hN 16 (by decide)
   have e13x : val a 13 = bp b3 0 := nth e16 0
   obtain ⟨b4, e17, q17⟩ := hN 17 (by decide)
   have e15x : val a 15 = bp b4 0 := nth e17 0
   obtain ⟨dup1, dup2, dup3, e18, q18⟩ := hN 18 (by decide)
   obtain rfl : v3 = dup1 := by have hq := e40x.symm.trans (nth e18 0); simp at hq; first | exact hq | exact hq.1 | exact hq.2 | exact hq.2.1 | exact hq.2.2
   obtain rfl : b2 = dup2 := by have hq := e12x.symm.trans (nth e18 1); simp at hq; first | exact hq | exact hq.1 | exact hq.2 | exact hq.2.1 | exact hq.2.2
   obtain rfl : v4 = dup3 := by have hq := e40x.symm.trans (nth e18 0); simp at hq; first | exact hq | exact hq.1 | exact hq.2 | exact hq.2.1 | exact hq.2.2
   obtain ⟨dup4, dup5, dup6, e19, q19⟩ := hN 19 (by decide)
   obtain rfl : v4 = dup4 := by have hq := e40x.symm.trans (nth e19 0); simp at hq; first | exact hq | exact hq.1 | exact hq.2 | exact hq.2.1 | exact hq.2.2
   obtain rfl : b3 = dup5 := by have hq := e13x.symm.trans (nth e19 1); simp at hq; first | exact hq | exact hq.1 | exact hq.2 | exact hq.2.1 | exact hq.2.2
   obtain rfl : v3 = dup6 := by have hq := e40x.symm.trans (nth e19 0); simp at hq; first | exact hq | exact hq.1 | exact hq.2 | exact hq.2.1 | exact hq.2.2
   have e20 := hN 20 (by decide)
   have e14x : val a 14 = .bool y3.2.2.1 := nth e20 0
   obtain ⟨dup7, e21, q21⟩ := hN 21 (by decide)
   obtain rfl : b4 = dup7 := by have hq := e15x.symm.trans (nth e21 0); simp at hq; first | exact hq | exact hq.1 | exact hq.2 | exact hq.2.1 | exact hq.2.2
   have F : Fr 75 a [(11, .int .i64 x1), (10, .int .i64 x2), (9, .int .i64 x3), (8, bp b1 0), (0, vl_1), (2, .int .i64 n_), (12, bp b2 0), (13, bp b3 0), (15, bp b4 0), (14, .bool y3.2.2.1)] := Fr.of hsz hdf ⟨hK 11 (by decide) _ rfl, hK 10 (by decide) _ rfl, hK 9 (by decide) _ rfl, hK 8 (by decide) _ rfl, hK 0 (by decide) _ rfl, hK 2 (by decide) _ rfl, e12x, e13x, e15x, e14x, trivial⟩
   replace S : St gd1 [c 0, c 1, c 2, c 3, c 4, c 5, c 6, c 7, c 8, c 9, c 10, c 11, c 12, c 13, c 14, c 18, c 19, c 20, c 21, c 22] fr w := S.of_eq (flat_fl _ _ _)
   rw [q18] at S
   rw [q19] at S
   rw [q21] at S
   have q22 : c 22 = [(b1, .cells #[.int .i64 0, .int .i64 0] 24 (0, 0))] := hI 0 _ rfl
   rw [q22] at S
   replace S : St gd1 [[(b2, .cells #[v3] 38 (0, 0))], [(b3, .cells #[v4] 38 (0, 0))], [(b4, .cells #[.int .i64 y3.2.2.2.Code, .int .i64 y3.2.2.2.Index] 24 (0, 0))], [(b1, .cells #[.int .i64 0, .int .i64 0] 24 (0, 0))]] fr w := St.tail [[(b2, .cells #[v3] 38 (0, 0))], [(b3, .cells #[v4] 38 (0, 0))], [(b4, .cells #[.int .i64 y3.2.2.2.Code, .int .i64 y3.2.2.2.Index] 24 (0, 0))], [(b1, .cells #[.int .i64 0, .int .i64 0] 24 (0, 0))]] _ ((((S.frontC 19 rfl).frontC 19 rfl).frontC 18 rfl).frontC 18 rfl)
   clear hK hI hN hsz hdf e9 e15 e16 e17 e18 e19 e20 e21 e40x e12x e13x e15x e14x
   refine then_n ?_
   refine wp_seq ?_
   refine wp_seq ?_
   refine wp_region_lit ?_
   refine wl_ev (wn rfl) (ev_fieldAddr' tu24 tf24_0 (z := 0) ts3 rfl ⟨_, rfl⟩ rfl) F S rfl rfl ?_; clear F a; intro a F
   refine wl_ev (wn rfl) (ev_load1 tu3 rfl rfl (box_ptr (cells := [.int .i64 y3.2.2.2.Code]) 2 rfl 0 rfl (lb rfl))) F S rfl rfl ?_; clear F a; intro a F
   refine wl_ev (wn rfl) (ev_int rfl rfl (bo_neq _ _ _ _)) F S rfl rfl ?_; clear F a; intro a F
   refine wpList_nil ?_
   replace F := F.sub (e' := [(47, .bool (!decide (y3.2.2.2.Code = 0))), (11, .int .i64 x1), (10, .int .i64 x2), (9, .int .i64 x3), (8, bp b1 0), (0, vl_1), (2, .int .i64 n_), (12, bp b2 0), (13, bp b3 0), (15, bp b4 0), (14, .bool y3.2.2.1)]) ⟨rfl, rfl, rfl, rfl, rfl, rfl, rfl, rfl, rfl, rfl, rfl, trivial⟩
   refine then_n ?_
   obtain ⟨hc2, hm⟩ | ⟨hc2, hm⟩ := ite_or hm
   ·refine wp_condT F rfl hc2 ?_
    refine wp_seq ?_
    refine wp_region_lit ?_
    refine wl_ev (wn rfl) (ev_fieldAddr' tu24 tf24_0 (z := 0) ts3 rfl ⟨_, rfl⟩ rfl) F S rfl rfl ?_; clear F a; intro a F
    refine wl_ev (wn rfl) (ev_load1 tu3 rfl rfl (box_ptr (cells := [.int .i64 y3.2.2.2.Code]) 2 rfl 0 rfl (lb rfl))) F S rfl rfl ?_; clear F a; intro a F
    obtain ⟨y4, hy4, hm⟩ := bind_some hm
    refine wl_call (wn rfl) rfl (xs := [.tmp 49, .const (.int .i64 (-1))]) (vs := [.int .i64 y3.2.2.2.Code, .int .i64 (-1)]) (cap := []) F rfl rfl tc26 (changeforgeref1_At_ok (g := gd1) (fr := (fl [[(b2, .cells #[v3] 38 (0, 0))], [(b3, .cells #[v4] 38 (0, 0))], [(b4, .cells #[.int .i64 y3.2.2.2.Code, .int .i64 y3.2.2.2.Index] 24 (0, 0))], [(b1, .cells #[.int .i64 0, .int .i64 0] 24 (0, 0))]] fr)) (w := w) y3.2.2.2.Code (-1) S hy4) rfl rfl ?_; clear F a S
    rintro _ a w ⟨g3, l3, S, rfl⟩ F; replace S : St g3 [[(b2, .cells #[v3] 38 (0, 0))], [(b3, .cells #[v4] 38 (0, 0))], [(b4, .cells #[.int .i64 y3.2.2.2.Code, .int .i64 y3.2.2.2.Index] 24 (0, 0))], [(b1, .cells #[.int .i64 0, .int .i64 0] 24 (0, 0))]] fr w := S
    refine wl_ev (wn rfl) (ev_assign rfl) F S rfl rfl ?_; clear F a; intro a F
    refine wl_ev (wn rfl) (ev_assign rfl) F S rfl rfl ?_; clear F a; intro a F
    refine wl_storeC (wn rfl) rfl F S rfl rfl (vs := [.int .i64 y4.Code, .int .i64 y4.Index]) rfl ts24 (one_cons rfl (one_cons rfl one_nil)) (k := 3) rfl (lb rfl) (c' := #[.int .i64 y4.Code, .int .i64 y4.Index]) rfl rfl ?_; clear S; intro w S
    replace S : St g3 [[(b2, .cells #[v3] 38 (0, 0))], [(b3, .cells #[v4] 38 (0, 0))], [(b4, .cells #[.int .i64 y3.2.2.2.Code, .int .i64 y3.2.2.2.Index] 24 (0, 0))], [(b1, .cells #[.int .i64 y4.Code, .int .i64 y4.Index] 24 (0, 0))]] fr w := S
    refine wpList_nil ?_
    replace F := F.sub (e' := [(7, .bool false), (6, nilS), (8, bp b1 0)]) ⟨rfl, rfl, rfl, trivial⟩
    refine then_n ?_
    refine wp_ret ?_
    refine then_r ?_
    obtain rfl := sinj hm
    refine post_r (fn := Try.f27) (rs := [.tmp 6, .tmp 7, .cell 8 24]) [nilS, .bool false, .agg #[.int .i64 y4.Code, .int .i64 y4.Index]] F rfl (ar_cons (resT rfl) (ar_cons (resT rfl) (ar_cons (resA rfl tu24 rfl ts24 (box_ptr (cells := [.int .i64 y4.Code, .int .i64 y4.Index]) 3 rfl 0 rfl (lb rfl) w S)) ar_nil))) ?_
    replace S : St g3 [] fr w := St.tail [] _ S
    exact ⟨_, rfl, g3, (nilS), ((l1.trans ld1).trans l3), S, (RepSl.nil _), rfl⟩
   ·refine wp_condF F rfl hc2 ?_
    refine wp_skip ?_
    refine then_n ?_
    refine wp_seq ?_
    refine wp_seq ?_
    refine wp_region_lit ?_
    refine wl_ev (wn rfl) (ev_move rfl) F S rfl rfl ?_; clear F a; intro a F
    refine wl_ev (wn rfl) (ev_not rfl) F S rfl rfl ?_; clear F a; intro a F
    refine wpList_nil ?_
    replace F := F.sub (e' := [(52, .bool !y3.2.2.1), (11, .int .i64 x1), (10, .int .i64 x2), (9, .int .i64 x3), (8, bp b1 0), (0, vl_1), (2, .int .i64 n_), (12, bp b2 0), (13, bp b3 0)]) ⟨rfl, rfl, rfl, rfl, rfl, rfl, rfl, rfl, rfl, trivial⟩
    refine then_n ?_
    obtain ⟨hc3, hm⟩ | ⟨hc3, hm⟩ := ite_or hm
    ·refine wp_condT F rfl hc3 ?_
     refine wp_seq ?_
     refine wp_region_lit ?_
     refine wl_ev (wn rfl) (ev_build (parts := []) (vs := []) rfl (fun w => tb24_  w)) F S rfl rfl ?_; clear F a; intro a F
     refine wl_ev (wn rfl) (ev_assign rfl) F S rfl rfl ?_; clear F a; intro a F
     refine wl_ev (wn rfl) (ev_assign rfl) F S rfl rfl ?_; clear F a; intro a F
     refine wl_storeC (wn rfl) rfl F S rfl rfl (vs := [.int .i64 0, .int .i64 0]) rfl ts24 (one_cons rfl (one_cons rfl one_nil)) (k := 3) rfl (lb rfl) (c' := #[.int .i64 0, .int .i64 0]) rfl rfl ?_; clear S; intro w S
     replace S : St gd1 [[(b2, .cells #[v3] 38 (0, 0))], [(b3, .cells #[v4] 38 (0, 0))], [(b4, .cells #[.int .i64 y3.2.2.2.Code, .int .i64 y3.2.2.2.Index] 24 (0, 0))], [(b1, .cells #[.int .i64 0, .int .i64 0] 24 (0, 0))]] fr w := S
     refine wpList_nil ?_
     replace F := F.sub (e' := [(7, .bool false), (6, nilS), (8, bp b1 0)]) ⟨rfl, rfl, rfl, trivial⟩
     refine then_n ?_
     refine wp_ret ?_
     refine then_r ?_
     obtain rfl := sinj hm
     refine post_r (fn := Try.f27) (rs := [.tmp 6, .tmp 7, .cell 8 24]) [nilS, .bool false, .agg #[.int .i64 0, .int .i64 0]] F rfl (ar_cons (resT rfl) (ar_cons (resT rfl) (ar_cons (resA rfl tu24 rfl ts24 (box_ptr (cells := [.int .i64 0, .int .i64 0]) 3 rfl 0 rfl (lb rfl) w S)) ar_nil))) ?_
     replace S : St gd1 [] fr w := St.tail [] _ S
     exact ⟨_, rfl, gd1, (nilS), (l1.trans ld1), S, (RepSl.nil _), rfl⟩
    ·refine wp_condF F rfl hc3 ?_
     refine wp_skip ?_
     refine then_n ?_
     refine wp_seq ?_
     refine wp_region_lit ?_
     refine wl_lit (l := ([] : List Patch)) (vs := []) (parts := []) (wn rfl) rfl rfl rfl tu22 te38 sz_nil rfl (Cat.nil _) coa_nil rfl F S rfl rfl ?_; clear F a S
     rintro v5 c1 a w h5 F S
     refine wl_ev (wn rfl) (ev_move rfl) F S rfl rfl ?_; clear F a; intro a F
     obtain ⟨cs3, hk1, hr3⟩ := RepSl.reads (hl_1.mono (l1.trans ld1))
     obtain ⟨y5, hy5, hm⟩ := bind_some hm
     refine wl_append (wn rfl) rfl tu22 tu22 te38 (by decide) (by decide) F S rfl rfl (k := 0) rfl h5 hk1 rfl (hr3 _ _ S) hy5 rfl rfl ?_; clear F a S
     rintro v6 c2 a w h6 S F; replace S : St gd1 [c2, [(b2, .cells #[v3] 38 (0, 0))], [(b3, .cells #[v4] 38 (0, 0))], [(b4, .cells #[.int .i64 y3.2.2.2.Code, .int .i64 y3.2.2.2.Index] 24 (0, 0))], [(b1, .cells #[.int .i64 0, .int .i64 0] 24 (0, 0))]] fr w := S
     refine wl_ev (wn rfl) (ev_assign rfl) F S rfl rfl ?_; clear F a; intro a F
     refine wpList_nil ?_
     replace F := F.sub (e' := [(16, v6), (11, .int .i64 x1), (10, .int .i64 x2), (9, .int .i64 x3), (8, bp b1 0), (2, .int .i64 n_), (12, bp b2 0), (13, bp b3 0)]) ⟨rfl, rfl, rfl, rfl, rfl, rfl, rfl, rfl, trivial⟩
     refine then_n ?_
     refine wp_seq ?_
     refine wp_region_lit ?_
     refine wl_ev (wn rfl) (ev_move rfl) F S rfl rfl ?_; clear F a; intro a F
     refine wl_ev (wn rfl) (ev_move rfl) F S rfl rfl ?_; clear F a; intro a F
     refine wl_ev (wn rfl) (ev_loadA tu38 rfl (cs := [v3]) ts38 rfl (box_ptr (cells := [v3]) 1 rfl 0 rfl (lb rfl))) F S rfl rfl ?_; clear F a; intro a F
     obtain ⟨y6, hy6, hm⟩ := bind_some hm
     refine wl_ev (wn rfl) (ev_idxO h6 hy6 tu22 ts38 rfl rfl) F S rfl rfl ?_; clear F a; intro a F
     obtain ⟨y7, hy7, hm⟩ := bind_some hm
     refine wl_storeW (z' := y3.1) (wn rfl) rfl F S h6 hy6 rfl rfl (us := [v3]) rfl ts38 (one_cons lh1.one one_nil) (k := 0) rfl rfl (rep_Patch_mk (x := y3.1) lh1) rfl ?_; clear S
     rintro c3 w h7 S; replace S : St gd1 [c3, [(b2, .cells #[v3] 38 (0, 0))], [(b3, .cells #[v4] 38 (0, 0))], [(b4, .cells #[.int .i64 y3.2.2.2.Code, .int .i64 y3.2.2.2.Index] 24 (0, 0))], [(b1, .cells #[.int .i64 0, .int .i64 0] 24 (0, 0))]] fr w := S; replace h7 : OwnS gd1 y7 v6 c3 := sinj hy7 ▸ h7
     replace F := F.sub (e' := [(59, .agg #[v3]), (58, .int .i64 x3), (57, v6), (16, v6), (11, .int .i64 x1), (10, .int .i64 x2), (9, .int .i64 x3), (8, bp b1 0), (2, .int .i64 n_), (12, bp b2 0), (13, bp b3 0)]) ⟨rfl, rfl, rfl, rfl, rfl, rfl, rfl, rfl, rfl, rfl, rfl, trivial⟩
     refine wpList_nil ?_
     replace F := F.sub (e' := [(16, v6), (11, .int .i64 x1), (10, .int .i64 x2), (9, .int .i64 x3), (8, bp b1 0), (2, .int .i64 n_), (13, bp b3 0)]) ⟨rfl, rfl, rfl, rfl, rfl, rfl, rfl, trivial⟩
     refine then_n ?_
     refine wp_seq ?_
     refine wp_region_lit ?_
     refine wl_ev (wn rfl) (ev_move rfl) F S rfl rfl ?_; clear F a; intro a F
     refine wl_ev (wn rfl) (ev_move rfl) F S rfl rfl ?_; clear F a; intro a F
     obtain ⟨z3, hz3, hm⟩ := bind_some hm
     refine wl_ev (wn rfl) (ev_int rfl rfl (bo_add hz3)) F S rfl rfl ?_; clear F a; intro a F
     refine wl_ev (wn rfl) (ev_loadA tu38 rfl (cs := [v4]) ts38 rfl (box_ptr (cells := [v4]) 2 rfl 0 rfl (lb rfl))) F S rfl rfl ?_; clear F a; intro a F
     obtain ⟨y8, hy8, hm⟩ := bind_some hm
     refine wl_ev (wn rfl) (ev_idxO h7 hy8 tu22 ts38 rfl rfl) F S rfl rfl ?_; clear F a; intro a F
     obtain ⟨y9, hy9, hm⟩ := bind_some hm
     refine wl_storeW (z' := y3.2.1) (wn rfl) rfl F S h7 hy8 rfl rfl (us := [v4]) rfl ts38 (one_cons lh2.one one_nil) (k := 0) rfl rfl (rep_Patch_mk (x := y3.2.1) lh2) rfl ?_; clear S
     rintro c4 w h8 S; replace S : St gd1 [c4, [(b2, .cells #[v3] 38 (0, 0))], [(b3, .cells #[v4] 38 (0, 0))], [(b4, .cells #[.int .i64 y3.2.2.2.Code, .int .i64 y3.2.2.2.Index] 24 (0, 0))], [(b1, .cells #[.int .i64 0, .int .i64 0] 24 (0, 0))]] fr w := S; replace h8 : OwnS gd1 y9 v6 c4 := sinj hy9 ▸ h8
     replace F := F.sub (e' := [(64, .agg #[v4]), (63, .int .i64 z3), (62, .int .i64 x3), (61, v6), (16, v6), (11, .int .i64 x1), (10, .int .i64 x2), (9, .int .i64 x3), (8, bp b1 0), (2, .int .i64 n_), (13, bp b3 0)]) ⟨rfl, rfl, rfl, rfl, rfl, rfl, rfl, rfl, rfl, rfl, rfl, trivial⟩
     refine wpList_nil ?_
     replace F := F.sub (e' := [(16, v6), (11, .int .i64 x1), (10, .int .i64 x2), (8, bp b1 0), (2, .int .i64 n_)]) ⟨rfl, rfl, rfl, rfl, rfl, trivial⟩
     refine then_n ?_
     refine wp_seq ?_
     refine wp_region_lit ?_
     refine wl_ev (wn rfl) (ev_move rfl) F S rfl rfl ?_; clear F a; intro a F
     refine wl_ev (wn rfl) (ev_move rfl) F S rfl rfl ?_; clear F a; intro a F
     refine wl_ev (wn rfl) (ev_move rfl) F S rfl rfl ?_; clear F a; intro a F
     refine wl_ev (wn rfl) (ev_move rfl) F S rfl rfl ?_; clear F a; intro a F
     obtain ⟨z4, hz4, hm⟩ := bind_some hm
     refine wl_ev (wn rfl) (ev_int rfl rfl (bo_sub hz4)) F S rfl rfl ?_; clear F a; intro a F
     obtain ⟨g4, l4, S, h9⟩ : ∃ gz, Le gd1 gz ∧ St gz [[(b2, .cells #[v3] 38 (0, 0))], [(b3, .cells #[v4] 38 (0, 0))], [(b4, .cells #[.int .i64 y3.2.2.2.Code, .int .i64 y3.2.2.2.Index] 24 (0, 0))], [(b1, .cells #[.int .i64 0, .int .i64 0] 24 (0, 0))]] fr w ∧ RepSl gz y9 v6 := ⟨_, Le.add _ _, S.freeze 0 rfl, OwnS.freeze (S.front 0 rfl) h8⟩
     obtain ⟨y10, hy10, hm⟩ := bind_some hm
     refine wl_call (wn rfl) rfl (xs := [.tmp 66, .tmp 67, .tmp 70]) (vs := [v6, .int .i64 x2, .int .i64 z4]) (cap := []) F rfl rfl tc27 (hrec (g := g4) (fr := (fl [[(b2, .cells #[v3] 38 (0, 0))], [(b3, .cells #[v4] 38 (0, 0))], [(b4, .cells #[.int .i64 y3.2.2.2.Code, .int .i64 y3.2.2.2.Index] 24 (0, 0))], [(b1, .cells #[.int .i64 0, .int .i64 0] 24 (0, 0))]] fr)) (w := w) y9 v6 h9 x2 z4 S hy10) rfl rfl ?_; clear F a S
     rintro _ a w ⟨g5, v7, l5, S, h10, rfl⟩ F; replace S : St g5 [[(b2, .cells #[v3] 38 (0, 0))], [(b3, .cells #[v4] 38 (0, 0))], [(b4, .cells #[.int .i64 y3.2.2.2.Code, .int .i64 y3.2.2.2.Index] 24 (0, 0))], [(b1, .cells #[.int .i64 0, .int .i64 0] 24 (0, 0))]] fr w := S
     refine wl_ev (wn rfl) (ev_extract (vs := [v7, .bool y10.2.1, .agg #[.int .i64 y10.2.2.Code, .int .i64 y10.2.2.Index]]) rfl rfl) F S rfl rfl ?_; clear F a; intro a F
     refine wl_ev (wn rfl) (ev_extract (vs := [v7, .bool y10.2.1, .agg #[.int .i64 y10.2.2.Code, .int .i64 y10.2.2.Index]]) rfl rfl) F S rfl rfl ?_; clear F a; intro a F
     refine wl_ev (wn rfl) (ev_extract (vs := [v7, .bool y10.2.1, .agg #[.int .i64 y10.2.2.Code, .int .i64 y10.2.2.Index]]) rfl rfl) F S rfl rfl ?_; clear F a; intro a F
     refine wl_ev (wn rfl) (ev_assign rfl) F S rfl rfl ?_; clear F a; intro a F
     refine wl_ev (wn rfl) (ev_assign rfl) F S rfl rfl ?_; clear F a; intro a F
     refine wl_storeC (wn rfl) rfl F S rfl rfl (vs := [.int .i64 y10.2.2.Code, .int .i64 y10.2.2.Index]) rfl ts24 (one_cons rfl (one_cons rfl one_nil)) (k := 3) rfl (lb rfl) (c' := #[.int .i64 y10.2.2.Code, .int .i64 y10.2.2.Index]) rfl rfl ?_; clear S; intro w S
     replace S : St g5 [[(b2, .cells #[v3] 38 (0, 0))], [(b3, .cells #[v4] 38 (0, 0))], [(b4, .cells #[.int .i64 y3.2.2.2.Code, .int .i64 y3.2.2.2.Index] 24 (0, 0))], [(b1, .cells #[.int .i64 y10.2.2.Code, .int .i64 y10.2.2.Index] 24 (0, 0))]] fr w := S
     refine wpList_nil ?_
     replace F := F.sub (e' := [(7, .bool y10.2.1), (6, v7), (8, bp b1 0)]) ⟨rfl, rfl, rfl, trivial⟩
     refine then_n ?_
     refine wp_ret ?_
     obtain rfl := sinj hm
     refine post_r (fn := Try.f27) (rs := [.tmp 6, .tmp 7, .cell 8 24]) [v7, .bool y10.2.1, .agg #[.int .i64 y10.2.2.Code, .int .i64 y10.2.2.Index]] F rfl (ar_cons (resT rfl) (ar_cons (resT rfl) (ar_cons (resA rfl tu24 rfl ts24 (box_ptr (cells := [.int .i64 y10.2.2.Code, .int .i64 y10.2.2.Index]) 3 rfl 0 rfl (lb rfl) w S)) ar_nil))) ?_
     replace S : St g5 [] fr w := St.tail [] _ S
     exact ⟨_, rfl, g5, v7, (((l1.trans ld1).trans l4).trans l5), S, h10, rfl⟩

theorem changeforgeref2_carried.m_ok : ∀ (k_ : Nat) {g : Gh} {fr : Hl} {w : World} {r : (List Patch) × Bool × Fault} (l_ : (List Patch)) (vl_1 : Value) (hl_1 : RepSl g l_ vl_1) (at_ : Int) (n_ : Int) (S : St g [] fr w) (hm : changeforgeref2_carried.m k_ l_ at_ n_ = some r), Calls Try.prog 27 [vl_1, .int .i64 at_, .int .i64 n_].toArray w (fun en w' => ∃ v, en = .returned v ∧ ∃ (g' : Gh) (v1 : Value), Le g g' ∧ St g' [] fr w' ∧ RepSl g' r.1 v1 ∧ .tuple #[v1, .bool r.2.1, .agg #[.int .i64 r.2.2.Code, .int .i64 r.2.2.Index]] = v)
 | 0 => by intros; rename_i hm; cases hm
 | k_ + 1 => changeforgeref2_carried.body_ok (changeforgeref2_carried.m_ok k_)

theorem changeforgeref2_carried_ok {g : Gh} {fr : Hl} {w : World} {r : (List Patch) × Bool × Fault} (l_ : (List Patch)) (vl_1 : Value) (hl_1 : RepSl g l_ vl_1) (at_ : Int) (n_ : Int) (S : St g [] fr w) (hm : changeforgeref2_carried l_ at_ n_ = some r) :
  Calls Try.prog 27 [vl_1, .int .i64 at_, .int .i64 n_].toArray w (fun en w' => ∃ v, en = .returned v ∧ ∃ (g' : Gh) (v1 : Value), Le g g' ∧ St g' [] fr w' ∧ RepSl g' r.1 v1 ∧ .tuple #[v1, .bool r.2.1, .agg #[.int .i64 r.2.2.Code, .int .i64 r.2.2.Index]] = v) := changeforgeref2_carried.m_ok _ l_ vl_1 hl_1 at_ n_ S hm

theorem changeforgeref2_MoveStack_ok {g : Gh} {fr : Hl} {w : World} {r : (List Patch) × Bool × Fault} (l_ : (List Patch)) (vl_1 : Value) (hl_1 : RepSl g l_ vl_1) (from_ : Int) (to : Int) (S : St g [] fr w) (hm : changeforgeref2_MoveStack l_ from_ to = some r) :
  Calls Try.prog 11 [vl_1, .int .i64 from_, .int .i64 to].toArray w (fun en w' => ∃ v, en = .returned v ∧ ∃ (g' : Gh) (v1 : Value), Le g g' ∧ St g' [] fr w' ∧ RepSl g' r.1 v1 ∧ .tuple #[v1, .bool r.2.1, .agg #[.int .i64 r.2.2.Code, .int .i64 r.2.2.Index]] = v) := by
 unfold changeforgeref2_MoveStack at hm
 refine calls_enter (fn := Try.f11) Try.func11 rfl Try.ntmps11 (lb rfl) ?_
 intro a F
 replace F : Fr 43 a [(0, vl_1), (1, .int .i64 from_), (2, .int .i64 to)] := F
 refine wp_seq ?_
 refine wp_region_lit ?_
 refine wl_ev (wn rfl) (ev_assign rfl) F S rfl rfl ?_; clear F a; intro a F
 refine wl_ev (wn rfl) (ev_assign rfl) F S rfl rfl ?_; clear F a; intro a F
 refine wl_alloc (wn rfl) rfl tz24 (cs := [.int .i64 0, .int .i64 0]) rfl F S rfl rfl ?_; clear F a S; rintro b1 a w F S
 refine wpList_nil ?_
 replace F := F.sub (e' := [(8, bp b1 0), (0, vl_1), (1, .int .i64 from_), (2, .int .i64 to)]) ⟨rfl, rfl, rfl, rfl, trivial⟩
 refine then_n ?_
 refine wp_seq ?_
 refine wp_seq ?_
 refine wp_region_lit ?_
 refine wl_ev (wn rfl) (ev_move rfl) F S rfl rfl ?_; clear F a; intro a F
 obtain ⟨y1, hy1, hm⟩ := bind_some hm
 refine wl_call (wn rfl) rfl (xs := [.tmp 10]) (vs := [vl_1]) (cap := []) F rfl rfl tc25 (changeforgeref2_StackFault_ok (g := g) (fr := (fl [[(b1, .cells #[.int .i64 0, .int .i64 0] 24 (0, 0))]] fr)) (w := w) l_ vl_1 hl_1 S hy1) rfl rfl ?_; clear F a S
 rintro _ a w ⟨g1, l1, S, rfl⟩ F; replace S : St g1 [[(b1, .cells #[.int .i64 0, .int .i64 0] 24 (0, 0))]] fr w := S
 refine wl_alloc (wn rfl) rfl tz24 (cs := [.int .i64 0, .int .i64 0]) rfl F S rfl rfl ?_; clear F a S; rintro b2 a w F S
 refine wl_storeC (wn rfl) rfl F S rfl rfl (vs := [.int .i64 y1.Code, .int .i64 y1.Index]) rfl ts24 (one_cons rfl (one_cons rfl one_nil)) (k := 0) rfl (lb rfl) (c' := #[.int .i64 y1.Code, .int .i64 y1.Index]) rfl rfl ?_; clear S; intro w S
 replace S : St g1 [[(b2, .cells #[.int .i64 y1.Code, .int .i64 y1.Index] 24 (0, 0))], [(b1, .cells #[.int .i64 0, .int .i64 0] 24 (0, 0))]] fr w := S
 refine wpList_nil ?_
 replace F := F.sub (e' := [(9, bp b2 0), (8, bp b1 0), (0, vl_1), (1, .int .i64 from_), (2, .int .i64 to)]) ⟨rfl, rfl, rfl, rfl, rfl, trivial⟩
 refine then_n ?_
 refine wp_seq ?_
 refine wp_region_lit ?_
 refine wl_ev (wn rfl) (ev_fieldAddr' tu24 tf24_0 (z := 0) ts3 rfl ⟨_, rfl⟩ rfl) F S rfl rfl ?_; clear F a; intro a F
 refine wl_ev (wn rfl) (ev_load1 tu3 rfl rfl (box_ptr (cells := [.int .i64 y1.Code]) 0 rfl 0 rfl (lb rfl))) F S rfl rfl ?_; clear F a; intro a F
 refine wl_ev (wn rfl) (ev_int rfl rfl (bo_neq _ _ _ _)) F S rfl rfl ?_; clear F a; intro a F
 refine wpList_nil ?_
 replace F := F.sub (e' := [(14, .bool (!decide (y1.Code = 0))), (9, bp b2 0), (8, bp b1 0), (0, vl_1), (1, .int .i64 from_), (2, .int .i64 to)]) ⟨rfl, rfl, rfl, rfl, rfl, rfl, trivial⟩
 refine then_n ?_
 obtain ⟨hc1, hm⟩ | ⟨hc1, hm⟩ := ite_or hm
 ·refine wp_condT F rfl hc1 ?_
  refine wp_seq ?_
  refine wp_drawL ⟨2, [[15], [6], [7], []], [[], [], [], [5]], [[4], [], [], []], [[9], [], [], [8]], [[], [], [], [0]], [8], [0, 1, 2, 3, 4]⟩
   [([15], fun us g c => us = [.agg #[.int .i64 y1.Code, .int .i64 y1.Index]]),
    ([6], fun us g c => us = [nilS]),
    ([7], fun us g c => us = [.bool false]),
    ([], fun us g c => us = [] ∧ c = [(b1, .cells #[.int .i64 y1.Code, .int .i64 y1.Index] 24 (0, 0))])]
   mo (by kernel_rfl) rfl rfl ⟨fun _ _ _ _ _ h => h, fun _ _ _ _ _ h => h, fun _ _ _ _ _ h => h, fun _ _ _ _ _ h => h, trivial⟩ F S ⟨?_, ?_, ?_, ?_, trivial⟩ ?_
  ·intro a w gd1 c fr hsz hdf hK ld1 hN hI S
   have F : Fr 43 a [(9, bp b2 0)] := Fr.of hsz hdf ⟨hK 9 (by decide) _ rfl, trivial⟩
   replace S : St gd1 [c 4] fr w := S.of_eq (flat2 _ _ _ _)
   have q4 : c 4 = [(b2, .cells #[.int .i64 y1.Code, .int .i64 y1.Index] 24 (0, 0))] := hI 0 _ rfl
   rw [q4] at S
   refine wl_ev (wn rfl) (ev_loadA tu24 rfl (cs := [.int .i64 y1.Code, .int .i64 y1.Index]) ts24 rfl (box_ptr (cells := [.int .i64 y1.Code, .int .i64 y1.Index]) 0 rfl 0 rfl (lb rfl))) F S rfl rfl ?_; clear F; intro a F
   refine wpList_nil ⟨rfl, F.sz, F.df, _, [], (Le.refl _), ?_, (lst1 (F.get 15 _ rfl))⟩
   refine St0.of_eq ?_ (flat3 c [] [4] fr).symm
   show St0 _ (fl ([] ++ [c 4]) fr) _
   rw [q4]
   exact S
  ·intro a w gd1 c fr hsz hdf hK ld1 hN hI S
   have F : Fr 43 a [] := Fr.of hsz hdf trivial
   replace S : St gd1 [] fr w := S.of_eq (flat2 _ _ _ _)
   refine wl_ev (wn rfl) (ev_assign rfl) F S rfl rfl ?_; clear F; intro a F
   refine wpList_nil ⟨rfl, F.sz, F.df, _, [], (Le.refl _), ?_, (lst1 (F.get 6 _ rfl))⟩
   refine St0.of_eq ?_ (flat3 c [] [] fr).symm
   show St0 _ (fl ([] ++ []) fr) _
   exact S
  ·intro a w gd1 c fr hsz hdf hK ld1 hN hI S
   have F : Fr 43 a [] := Fr.of hsz hdf trivial
   replace S : St gd1 [] fr w := S.of_eq (flat2 _ _ _ _)
   refine wl_ev (wn rfl) (ev_assign rfl) F S rfl rfl ?_; clear F; intro a F
   refine wpList_nil ⟨rfl, F.sz, F.df, _, [], (Le.refl _), ?_, (lst1 (F.get 7 _ rfl))⟩
   refine St0.of_eq ?_ (flat3 c [] [] fr).symm
   show St0 _ (fl ([] ++ []) fr) _
   exact S
  ·intro a w gd1 c fr hsz hdf hK ld1 hN hI S
   have e0 := hN 0 (by decide)
   have e15x : val a 15 = .agg #[.int .i64 y1.Code, .int .i64 y1.Index] := nth e0 0
   have F : Fr 43 a [(8, bp b1 0), (15, .agg #[.int .i64 y1.Code, .int .i64 y1.Index])] := Fr.of hsz hdf ⟨hK 8 (by decide) _ rfl, e15x, trivial⟩
   replace S : St gd1 [c 5] fr w := S.of_eq (flat2 _ _ _ _)
   have q5 : c 5 = [(b1, .cells #[.int .i64 0, .int .i64 0] 24 (0, 0))] := hI 1 _ rfl
   rw [q5] at S
   refine wl_storeC (wn rfl) rfl F S rfl rfl (vs := [.int .i64 y1.Code, .int .i64 y1.Index]) rfl ts24 (one_cons rfl (one_cons rfl one_nil)) (k := 0) rfl (lb rfl) (c' := #[.int .i64 y1.Code, .int .i64 y1.Index]) rfl rfl ?_; clear S; intro w S
   replace S : St gd1 [[(b1, .cells #[.int .i64 y1.Code, .int .i64 y1.Index] 24 (0, 0))]] fr w := S
   refine wpList_nil ⟨rfl, F.sz, F.df, _, [(b1, .cells #[.int .i64 y1.Code, .int .i64 y1.Index] 24 (0, 0))], (Le.refl _), ?_, ⟨rfl, rfl⟩⟩
   refine St0.of_eq ?_ (flat3s c ([(b1, .cells #[.int .i64 y1.Code, .int .i64 y1.Index] 24 (0, 0))]) [] fr).symm
   show St0 _ (fl ([[(b1, .cells #[.int .i64 y1.Code, .int .i64 y1.Index] 24 (0, 0))]] ++ []) fr) _
   exact S
  clear F S; intro a w gd1 c hsz hdf hK ld1 hI S hN
  have e1 := hN 1 (by decide)
  have e6x : val a 6 = nilS := nth e1 0
  have e2 := hN 2 (by decide)
  have e7x : val a 7 = .bool false := nth e2 0
  obtain ⟨e3, q3⟩ := hN 3 (by decide)
  have F : Fr 43 a [(8, bp b1 0), (6, nilS), (7, .bool false)] := Fr.of hsz hdf ⟨hK 8 (by decide) _ rfl, e6x, e7x, trivial⟩
  replace S : St gd1 [c 0, c 1, c 2, c 3, c 4] fr w := S.of_eq (flat_fl _ _ _)
  rw [q3] at S
  have q4 : c 4 = [(b2, .cells #[.int .i64 y1.Code, .int .i64 y1.Index] 24 (0, 0))] := hI 0 _ rfl
  rw [q4] at S
  replace S : St gd1 [[(b1, .cells #[.int .i64 y1.Code, .int .i64 y1.Index] 24 (0, 0))]] fr w := St.tail [[(b1, .cells #[.int .i64 y1.Code, .int .i64 y1.Index] 24 (0, 0))]] _ (S.frontC 3 rfl)
  clear hK hI hN hsz hdf e1 e2 e3 e6x e7x
  refine then_n ?_
  refine wp_ret ?_
  refine then_r ?_
  obtain rfl := sinj hm
  refine post_r (fn := Try.f11) (rs := [.tmp 6, .tmp 7, .cell 8 24]) [nilS, .bool false, .agg #[.int .i64 y1.Code, .int .i64 y1.Index]] F rfl (ar_cons (resT rfl) (ar_cons (resT rfl) (ar_cons (resA rfl tu24 rfl ts24 (box_ptr (cells := [.int .i64 y1.Code, .int .i64 y1.Index]) 0 rfl 0 rfl (lb rfl) w S)) ar_nil))) ?_
  replace S : St gd1 [] fr w := St.tail [] _ S
  exact ⟨_, rfl, gd1, (nilS), (l1.trans ld1), S, (RepSl.nil _), rfl⟩
 ·refine wp_condF F rfl hc1 ?_
  refine wp_skip ?_
  refine then_n ?_
  refine wp_seq ?_
  refine wp_seq ?_
  refine wp_region_lit ?_
  refine wl_ev (wn rfl) (ev_move rfl) F S rfl rfl ?_; clear F a; intro a F
  refine wl_ev (wn rfl) (ev_int rfl rfl (bo_lss _ _ _ _)) F S rfl rfl ?_; clear F a; intro a F
  refine wl_ev (wn rfl) (ev_move rfl) F S rfl rfl ?_; clear F a; intro a F
  obtain ⟨x1, hx1, hm⟩ := bind_some hm
  refine wl_cut 5 (fun a w' => w = w' ∧ Fr 43 a [(23, .bool x1), (8, bp b1 0), (0, vl_1), (1, .int .i64 from_), (2, .int .i64 to)]) ?_ ?_
  ·clear hm; obtain ⟨hc2, hm⟩ | ⟨hc2, hm⟩ := ite_or hx1
   ·refine wl_skip rfl rfl rfl rfl (ne_ft hc2) F rfl rfl ?_; clear F a; intro a F
    refine wl_skip rfl rfl rfl rfl (ne_ft hc2) F rfl rfl ?_; clear F a; intro a F
    refine wl_skip rfl rfl rfl rfl (ne_ft hc2) F rfl rfl ?_; clear F a; intro a F
    refine wl_skip rfl rfl rfl rfl (ne_ft hc2) F rfl rfl ?_; clear F a; intro a F
    refine wl_ev (wn rfl) (ev_pickT rfl hc2 rfl) F S rfl rfl ?_; clear F a; intro a F
    obtain rfl := sinj hm
    refine wpList_nil (then_n ?_); exact ⟨rfl, F.sub ⟨rfl, rfl, rfl, rfl, rfl, trivial⟩⟩
   ·refine wl_ev (wg F rfl rfl rfl rfl hc2) (ev_move rfl) F S rfl rfl ?_; clear F a; intro a F
    refine wl_ev (wg F rfl rfl rfl rfl hc2) (ev_move rfl) F S rfl rfl ?_; clear F a; intro a F
    refine wl_ev (wg F rfl rfl rfl rfl hc2) (ev_lenSh hl_1 rfl tu22) F S rfl rfl ?_; clear F a; intro a F
    refine wl_ev (wg F rfl rfl rfl rfl hc2) (ev_int rfl rfl (bo_geq _ _ _ _)) F S rfl rfl ?_; clear F a; intro a F
    refine wl_ev (wn rfl) (ev_pickF rfl hc2 rfl) F S rfl rfl ?_; clear F a; intro a F
    obtain rfl := sinj hm
    refine wpList_nil (then_n ?_); exact ⟨rfl, F.sub ⟨rfl, rfl, rfl, rfl, rfl, trivial⟩⟩
  clear F; rintro a w' ⟨rfl, F⟩
  refine wpList_nil ?_
  refine then_n ?_
  obtain ⟨hc3, hm⟩ | ⟨hc3, hm⟩ := ite_or hm
  ·refine wp_condT F rfl hc3 ?_
   refine wp_seq ?_
   refine wp_region_lit ?_
   obtain ⟨y2, hy2, hm⟩ := bind_some hm
   refine wl_call (wn rfl) rfl (xs := [.const (.int .i64 3), .const (.int .i64 (-2))]) (vs := [.int .i64 3, .int .i64 (-2)]) (cap := []) F rfl rfl tc26 (changeforgeref1_At_ok (g := g1) (fr := (fl [[(b2, .cells #[.int .i64 y1.Code, .int .i64 y1.Index] 24 (0, 0))], [(b1, .cells #[.int .i64 0, .int .i64 0] 24 (0, 0))]] fr)) (w := w) 3 (-2) S hy2) rfl rfl ?_; clear F a S
   rintro _ a w ⟨g2, l2, S, rfl⟩ F; replace S : St g2 [[(b2, .cells #[.int .i64 y1.Code, .int .i64 y1.Index] 24 (0, 0))], [(b1, .cells #[.int .i64 0, .int .i64 0] 24 (0, 0))]] fr w := S
   refine wl_ev (wn rfl) (ev_assign rfl) F S rfl rfl ?_; clear F a; intro a F
   refine wl_ev (wn rfl) (ev_assign rfl) F S rfl rfl ?_; clear F a; intro a F
   refine wl_storeC (wn rfl) rfl F S rfl rfl (vs := [.int .i64 y2.Code, .int .i64 y2.Index]) rfl ts24 (one_cons rfl (one_cons rfl one_nil)) (k := 1) rfl (lb rfl) (c' := #[.int .i64 y2.Code, .int .i64 y2.Index]) rfl rfl ?_; clear S; intro w S
   replace S : St g2 [[(b2, .cells #[.int .i64 y1.Code, .int .i64 y1.Index] 24 (0, 0))], [(b1, .cells #[.int .i64 y2.Code, .int .i64 y2.Index] 24 (0, 0))]] fr w := S
   refine wpList_nil ?_
   replace F := F.sub (e' := [(7, .bool false), (6, nilS), (8, bp b1 0)]) ⟨rfl, rfl, rfl, trivial⟩
   refine then_n ?_
   refine wp_ret ?_
   refine then_r ?_
   obtain rfl := sinj hm
   refine post_r (fn := Try.f11) (rs := [.tmp 6, .tmp 7, .cell 8 24]) [nilS, .bool false, .agg #[.int .i64 y2.Code, .int .i64 y2.Index]] F rfl (ar_cons (resT rfl) (ar_cons (resT rfl) (ar_cons (resA rfl tu24 rfl ts24 (box_ptr (cells := [.int .i64 y2.Code, .int .i64 y2.Index]) 1 rfl 0 rfl (lb rfl) w S)) ar_nil))) ?_
   replace S : St g2 [] fr w := St.tail [] _ S
   exact ⟨_, rfl, g2, (nilS), (l1.trans l2), S, (RepSl.nil _), rfl⟩
  ·refine wp_condF F rfl hc3 ?_
   refine wp_skip ?_
   refine then_n ?_
   refine wp_seq ?_
   refine wp_seq ?_
   refine wp_region_lit ?_
   refine wl_ev (wn rfl) (ev_move rfl) F S rfl rfl ?_; clear F a; intro a F
   refine wl_ev (wn rfl) (ev_int rfl rfl (bo_lss _ _ _ _)) F S rfl rfl ?_; clear F a; intro a F
   refine wl_ev (wn rfl) (ev_move rfl) F S rfl rfl ?_; clear F a; intro a F
   obtain ⟨x2, hx2, hm⟩ := bind_some hm
   refine wl_cut 5 (fun a w' => w = w' ∧ Fr 43 a [(32, .bool x2), (8, bp b1 0), (0, vl_1), (1, .int .i64 from_), (2, .int .i64 to)]) ?_ ?_
   ·clear hm; obtain ⟨hc4, hm⟩ | ⟨hc4, hm⟩ := ite_or hx2
    ·refine wl_skip rfl rfl rfl rfl (ne_ft hc4) F rfl rfl ?_; clear F a; intro a F
     refine wl_skip rfl rfl rfl rfl (ne_ft hc4) F rfl rfl ?_; clear F a; intro a F
     refine wl_skip rfl rfl rfl rfl (ne_ft hc4) F rfl rfl ?_; clear F a; intro a F
     refine wl_skip rfl rfl rfl rfl (ne_ft hc4) F rfl rfl ?_; clear F a; intro a F
     refine wl_ev (wn rfl) (ev_pickT rfl hc4 rfl) F S rfl rfl ?_; clear F a; intro a F
     obtain rfl := sinj hm
     refine wpList_nil (then_n ?_); exact ⟨rfl, F.sub ⟨rfl, rfl, rfl, rfl, rfl, trivial⟩⟩
    ·refine wl_ev (wg F rfl rfl rfl rfl hc4) (ev_move rfl) F S rfl rfl ?_; clear F a; intro a F
     refine wl_ev (wg F rfl rfl rfl rfl hc4) (ev_move rfl) F S rfl rfl ?_; clear F a; intro a F
     refine wl_ev (wg F rfl rfl rfl rfl hc4) (ev_lenSh hl_1 rfl tu22) F S rfl rfl ?_; clear F a; intro a F
     refine wl_ev (wg F rfl rfl rfl rfl hc4) (ev_int rfl rfl (bo_geq _ _ _ _)) F S rfl rfl ?_; clear F a; intro a F
     refine wl_ev (wn rfl) (ev_pickF rfl hc4 rfl) F S rfl rfl ?_; clear F a; intro a F
     obtain rfl := sinj hm
     refine wpList_nil (then_n ?_); exact ⟨rfl, F.sub ⟨rfl, rfl, rfl, rfl, rfl, trivial⟩⟩
   clear F; rintro a w' ⟨rfl, F⟩
   refine wpList_nil ?_
   refine then_n ?_
   obtain ⟨hc5, hm⟩ | ⟨hc5, hm⟩ := ite_or hm
   ·refine wp_condT F rfl hc5 ?_
    refine wp_seq ?_
    refine wp_region_lit ?_
    obtain ⟨y3, hy3, hm⟩ := bind_some hm
    refine wl_call (wn rfl) rfl (xs := [.const (.int .i64 3), .const (.int .i64 (-3))]) (vs := [.int .i64 3, .int .i64 (-3)]) (cap := []) F rfl rfl tc26 (changeforgeref1_At_ok (g := g1) (fr := (fl [[(b2, .cells #[.int .i64 y1.Code, .int .i64 y1.Index] 24 (0, 0))], [(b1, .cells #[.int .i64 0, .int .i64 0] 24 (0, 0))]] fr)) (w := w) 3 (-3) S hy3) rfl rfl ?_; clear F a S
    rintro _ a w ⟨g3, l3, S, rfl⟩ F; replace S : St g3 [[(b2, .cells #[.int .i64 y1.Code, .int .i64 y1.Index] 24 (0, 0))], [(b1, .cells #[.int .i64 0, .int .i64 0] 24 (0, 0))]] fr w := S
    refine wl_ev (wn rfl) (ev_assign rfl) F S rfl rfl ?_; clear F a; intro a F
    refine wl_ev (wn rfl) (ev_assign rfl) F S rfl rfl ?_; clear F a; intro a F
    refine wl_storeC (wn rfl) rfl F S rfl rfl (vs := [.int .i64 y3.Code, .int .i64 y3.Index]) rfl ts24 (one_cons rfl (one_cons rfl one_nil)) (k := 1) rfl (lb rfl) (c' := #[.int .i64 y3.Code, .int .i64 y3.Index]) rfl rfl ?_; clear S; intro w S
    replace S : St g3 [[(b2, .cells #[.int .i64 y1.Code, .int .i64 y1.Index] 24 (0, 0))], [(b1, .cells #[.int .i64 y3.Code, .int .i64 y3.Index] 24 (0, 0))]] fr w := S
    refine wpList_nil ?_
    replace F := F.sub (e' := [(7, .bool false), (6, nilS), (8, bp b1 0)]) ⟨rfl, rfl, rfl, trivial⟩
    refine then_n ?_
    refine wp_ret ?_
    refine then_r ?_
    obtain rfl := sinj hm
    refine post_r (fn := Try.f11) (rs := [.tmp 6, .tmp 7, .cell 8 24]) [nilS, .bool false, .agg #[.int .i64 y3.Code, .int .i64 y3.Index]] F rfl (ar_cons (resT rfl) (ar_cons (resT rfl) (ar_cons (resA rfl tu24 rfl ts24 (box_ptr (cells := [.int .i64 y3.Code, .int .i64 y3.Index]) 1 rfl 0 rfl (lb rfl) w S)) ar_nil))) ?_
    replace S : St g3 [] fr w := St.tail [] _ S
    exact ⟨_, rfl, g3, (nilS), (l1.trans l3), S, (RepSl.nil _), rfl⟩
   ·refine wp_condF F rfl hc5 ?_
    refine wp_skip ?_
    refine then_n ?_
    refine wp_seq ?_
    refine wp_region_lit ?_
    refine wl_ev (wn rfl) (ev_move rfl) F S rfl rfl ?_; clear F a; intro a F
    refine wl_ev (wn rfl) (ev_move rfl) F S rfl rfl ?_; clear F a; intro a F
    refine wl_ev (wn rfl) (ev_move rfl) F S rfl rfl ?_; clear F a; intro a F
    refine wl_ev (wn rfl) (ev_move rfl) F S rfl rfl ?_; clear F a; intro a F
    obtain ⟨z1, hz1, hm⟩ := bind_some hm
    refine wl_ev (wn rfl) (ev_int rfl rfl (bo_sub hz1)) F S rfl rfl ?_; clear F a; intro a F
    obtain ⟨y4, hy4, hm⟩ := bind_some hm
    refine wl_call (wn rfl) rfl (xs := [.tmp 34, .tmp 35, .tmp 38]) (vs := [vl_1, .int .i64 from_, .int .i64 z1]) (cap := []) F rfl rfl tc27 (changeforgeref2_carried_ok (g := g1) (fr := (fl [[(b2, .cells #[.int .i64 y1.Code, .int .i64 y1.Index] 24 (0, 0))], [(b1, .cells #[.int .i64 0, .int .i64 0] 24 (0, 0))]] fr)) (w := w) l_ vl_1 (hl_1.mono l1) from_ z1 S hy4) rfl rfl ?_; clear F a S
    rintro _ a w ⟨g4, v1, l4, S, h1, rfl⟩ F; replace S : St g4 [[(b2, .cells #[.int .i64 y1.Code, .int .i64 y1.Index] 24 (0, 0))], [(b1, .cells #[.int .i64 0, .int .i64 0] 24 (0, 0))]] fr w := S
    refine wl_ev (wn rfl) (ev_extract (vs := [v1, .bool y4.2.1, .agg #[.int .i64 y4.2.2.Code, .int .i64 y4.2.2.Index]]) rfl rfl) F S rfl rfl ?_; clear F a; intro a F
    refine wl_ev (wn rfl) (ev_extract (vs := [v1, .bool y4.2.1, .agg #[.int .i64 y4.2.2.Code, .int .i64 y4.2.2.Index]]) rfl rfl) F S rfl rfl ?_; clear F a; intro a F
    refine wl_ev (wn rfl) (ev_extract (vs := [v1, .bool y4.2.1, .agg #[.int .i64 y4.2.2.Code, .int .i64 y4.2.2.Index]]) rfl rfl) F S rfl rfl ?_; clear F a; intro a F
    refine wl_ev (wn rfl) (ev_assign rfl) F S rfl rfl ?_; clear F a; intro a F
    refine wl_ev (wn rfl) (ev_assign rfl) F S rfl rfl ?_; clear F a; intro a F
    refine wl_storeC (wn rfl) rfl F S rfl rfl (vs := [.int .i64 y4.2.2.Code, .int .i64 y4.2.2.Index]) rfl ts24 (one_cons rfl (one_cons rfl one_nil)) (k := 1) rfl (lb rfl) (c' := #[.int .i64 y4.2.2.Code, .int .i64 y4.2.2.Index]) rfl rfl ?_; clear S; intro w S
    replace S : St g4 [[(b2, .cells #[.int .i64 y1.Code, .int .i64 y1.Index] 24 (0, 0))], [(b1, .cells #[.int .i64 y4.2.2.Code, .int .i64 y4.2.2.Index] 24 (0, 0))]] fr w := S
    refine wpList_nil ?_
    replace F := F.sub (e' := [(7, .bool y4.2.1), (6, v1), (8, bp b1 0)]) ⟨rfl, rfl, rfl, trivial⟩
    refine then_n ?_
    refine wp_ret ?_
    obtain rfl := sinj hm
    refine post_r (fn := Try.f11) (rs := [.tmp 6, .tmp 7, .cell 8 24]) [v1, .bool y4.2.1, .agg #[.int .i64 y4.2.2.Code, .int .i64 y4.2.2.Index]] F rfl (ar_cons (resT rfl) (ar_cons (resT rfl) (ar_cons (resA rfl tu24 rfl ts24 (box_ptr (cells := [.int .i64 y4.2.2.Code, .int .i64 y4.2.2.Index]) 1 rfl 0 rfl (lb rfl) w S)) ar_nil))) ?_
    replace S : St g4 [] fr w := St.tail [] _ S
    exact ⟨_, rfl, g4, v1, (l1.trans l4), S, h1, rfl⟩

theorem changeforgeref2_DropStack_ok {g : Gh} {fr : Hl} {w : World} {r : (List Patch) × Bool × Fault} (l_ : (List Patch)) (vl_1 : Value) (hl_1 : RepSl g l_ vl_1) (i_ : Int) (S : St g [] fr w) (hm : changeforgeref2_DropStack l_ i_ = some r) :
  Calls Try.prog 13 [vl_1, .int .i64 i_].toArray w (fun en w' => ∃ v, en = .returned v ∧ ∃ (g' : Gh) (v1 : Value), Le g g' ∧ St g' [] fr w' ∧ RepSl g' r.1 v1 ∧ .tuple #[v1, .bool r.2.1, .agg #[.int .i64 r.2.2.Code, .int .i64 r.2.2.Index]] = v) := by
 unfold changeforgeref2_DropStack at hm
 refine calls_enter (fn := Try.f13) Try.func13 rfl Try.ntmps13 (lb rfl) ?_
 intro a F
 replace F : Fr 47 a [(0, vl_1), (1, .int .i64 i_)] := F
 refine wp_seq ?_
 refine wp_region_lit ?_
 refine wl_ev (wn rfl) (ev_assign rfl) F S rfl rfl ?_; clear F a; intro a F
 refine wl_ev (wn rfl) (ev_assign rfl) F S rfl rfl ?_; clear F a; intro a F
 refine wl_alloc (wn rfl) rfl tz24 (cs := [.int .i64 0, .int .i64 0]) rfl F S rfl rfl ?_; clear F a S; rintro b1 a w F S
 refine wpList_nil ?_
 replace F := F.sub (e' := [(6, bp b1 0), (0, vl_1), (1, .int .i64 i_)]) ⟨rfl, rfl, rfl, trivial⟩
 refine then_n ?_
 refine wp_seq ?_
 refine wp_seq ?_
 refine wp_region_lit ?_
 refine wl_ev (wn rfl) (ev_move rfl) F S rfl rfl ?_; clear F a; intro a F
 obtain ⟨y1, hy1, hm⟩ := bind_some hm
 refine wl_call (wn rfl) rfl (xs := [.tmp 11]) (vs := [vl_1]) (cap := []) F rfl rfl tc25 (changeforgeref2_StackFault_ok (g := g) (fr := (fl [[(b1, .cells #[.int .i64 0, .int .i64 0] 24 (0, 0))]] fr)) (w := w) l_ vl_1 hl_1 S hy1) rfl rfl ?_; clear F a S
 rintro _ a w ⟨g1, l1, S, rfl⟩ F; replace S : St g1 [[(b1, .cells #[.int .i64 0, .int .i64 0] 24 (0, 0))]] fr w := S
 refine wl_alloc (wn rfl) rfl tz24 (cs := [.int .i64 0, .int .i64 0]) rfl F S rfl rfl ?_; clear F a S; rintro b2 a w F S
 refine wl_storeC (wn rfl) rfl F S rfl rfl (vs := [.int .i64 y1.Code, .int .i64 y1.Index]) rfl ts24 (one_cons rfl (one_cons rfl one_nil)) (k := 0) rfl (lb rfl) (c' := #[.int .i64 y1.Code, .int .i64 y1.Index]) rfl rfl ?_; clear S; intro w S
 replace S : St g1 [[(b2, .cells #[.int .i64 y1.Code, .int .i64 y1.Index] 24 (0, 0))], [(b1, .cells #[.int .i64 0, .int .i64 0] 24 (0, 0))]] fr w := S
 refine wpList_nil ?_
 replace F := F.sub (e' := [(7, bp b2 0), (6, bp b1 0), (0, vl_1), (1, .int .i64 i_)]) ⟨rfl, rfl, rfl, rfl, trivial⟩
 refine then_n ?_
 refine wp_seq ?_
 refine wp_region_lit ?_
 refine wl_ev (wn rfl) (ev_fieldAddr' tu24 tf24_0 (z := 0) ts3 rfl ⟨_, rfl⟩ rfl) F S rfl rfl ?_; clear F a; intro a F
 refine wl_ev (wn rfl) (ev_load1 tu3 rfl rfl (box_ptr (cells := [.int .i64 y1.Code]) 0 rfl 0 rfl (lb rfl))) F S rfl rfl ?_; clear F a; intro a F
 refine wl_ev (wn rfl) (ev_int rfl rfl (bo_neq _ _ _ _)) F S rfl rfl ?_; clear F a; intro a F
 refine wpList_nil ?_
 replace F := F.sub (e' := [(15, .bool (!decide (y1.Code = 0))), (7, bp b2 0), (6, bp b1 0), (0, vl_1), (1, .int .i64 i_)]) ⟨rfl, rfl, rfl, rfl, rfl, trivial⟩
 refine then_n ?_
 obtain ⟨hc1, hm⟩ | ⟨hc1, hm⟩ := ite_or hm
 ·refine wp_condT F rfl hc1 ?_
  refine wp_seq ?_
  refine wp_drawL ⟨2, [[16], [4], [5], []], [[], [], [], [5]], [[4], [], [], []], [[7], [], [], [6]], [[], [], [], [0]], [6], [0, 1, 2, 3, 4]⟩
   [([16], fun us g c => us = [.agg #[.int .i64 y1.Code, .int .i64 y1.Index]]),
    ([4], fun us g c => us = [nilS]),
    ([5], fun us g c => us = [.bool false]),
    ([], fun us g c => us = [] ∧ c = [(b1, .cells #[.int .i64 y1.Code, .int .i64 y1.Index] 24 (0, 0))])]
   mo (by kernel_rfl) rfl rfl ⟨fun _ _ _ _ _ h => h, fun _ _ _ _ _ h => h, fun _ _ _ _ _ h => h, fun _ _ _ _ _ h => h, trivial⟩ F S ⟨?_, ?_, ?_, ?_, trivial⟩ ?_
  ·intro a w gd1 c fr hsz hdf hK ld1 hN hI S
   have F : Fr 47 a [(7, bp b2 0)] := Fr.of hsz hdf ⟨hK 7 (by decide) _ rfl, trivial⟩
   replace S : St gd1 [c 4] fr w := S.of_eq (flat2 _ _ _ _)
   have q4 : c 4 = [(b2, .cells #[.int .i64 y1.Code, .int .i64 y1.Index] 24 (0, 0))] := hI 0 _ rfl
   rw [q4] at S
   refine wl_ev (wn rfl) (ev_loadA tu24 rfl (cs := [.int .i64 y1.Code, .int .i64 y1.Index]) ts24 rfl (box_ptr (cells := [.int .i64 y1.Code, .int .i64 y1.Index]) 0 rfl 0 rfl (lb rfl))) F S rfl rfl ?_; clear F; intro a F
   refine wpList_nil ⟨rfl, F.sz, F.df, _, [], (Le.refl _), ?_, (lst1 (F.get 16 _ rfl))⟩
   refine St0.of_eq ?_ (flat3 c [] [4] fr).symm
   show St0 _ (fl ([] ++ [c 4]) fr) _
   rw [q4]
   exact S
  ·intro a w gd1 c fr hsz hdf hK ld1 hN hI S
   have F : Fr 47 a [] := Fr.of hsz hdf trivial
   replace S : St gd1 [] fr w := S.of_eq (flat2 _ _ _ _)
   refine wl_ev (wn rfl) (ev_assign rfl) F S rfl rfl ?_; clear F; intro a F
   refine wpList_nil ⟨rfl, F.sz, F.df, _, [], (Le.refl _), ?_, (lst1 (F.get 4 _ rfl))⟩
   refine St0.of_eq ?_ (flat3 c [] [] fr).symm
   show St0 _ (fl ([] ++ []) fr) _
   exact S
  ·intro a w gd1 c fr hsz hdf hK ld1 hN hI S
   have F : Fr 47 a [] := Fr.of hsz hdf trivial
   replace S : St gd1 [] fr w := S.of_eq (flat2 _ _ _ _)
   refine wl_ev (wn rfl) (ev_assign rfl) F S rfl rfl ?_; clear F; intro a F
   refine wpList_nil ⟨rfl, F.sz, F.df, _, [], (Le.refl _), ?_, (lst1 (F.get 5 _ rfl))⟩
   refine St0.of_eq ?_ (flat3 c [] [] fr).symm
   show St0 _ (fl ([] ++ []) fr) _
   exact S
  ·intro a w gd1 c fr hsz hdf hK ld1 hN hI S
   have e0 := hN 0 (by decide)
   have e16x : val a 16 = .agg #[.int .i64 y1.Code, .int .i64 y1.Index] := nth e0 0
   have F : Fr 47 a [(6, bp b1 0), (16, .agg #[.int .i64 y1.Code, .int .i64 y1.Index])] := Fr.of hsz hdf ⟨hK 6 (by decide) _ rfl, e16x, trivial⟩
   replace S : St gd1 [c 5] fr w := S.of_eq (flat2 _ _ _ _)
   have q5 : c 5 = [(b1, .cells #[.int .i64 0, .int .i64 0] 24 (0, 0))] := hI 1 _ rfl
   rw [q5] at S
   refine wl_storeC (wn rfl) rfl F S rfl rfl (vs := [.int .i64 y1.Code, .int .i64 y1.Index]) rfl ts24 (one_cons rfl (one_cons rfl one_nil)) (k := 0) rfl (lb rfl) (c' := #[.int .i64 y1.Code, .int .i64 y1.Index]) rfl rfl ?_; clear S; intro w S
   replace S : St gd1 [[(b1, .cells #[.int .i64 y1.Code, .int .i64 y1.Index] 24 (0, 0))]] fr w := S
   refine wpList_nil ⟨rfl, F.sz, F.df, _, [(b1, .cells #[.int .i64 y1.Code, .int .i64 y1.Index] 24 (0, 0))], (Le.refl _), ?_, ⟨rfl, rfl⟩⟩
   refine St0.of_eq ?_ (flat3s c ([(b1, .cells #[.int .i64 y1.Code, .int .i64 y1.Index] 24 (0, 0))]) [] fr).symm
   show St0 _ (fl ([[(b1, .cells #[.int .i64 y1.Code, .int .i64 y1.Index] 24 (0, 0))]] ++ []) fr) _
   exact S
  clear F S; intro a w gd1 c hsz hdf hK ld1 hI S hN
  have e1 := hN 1 (by decide)
  have e4x : val a 4 = nilS := nth e1 0
  have e2 := hN 2 (by decide)
  have e5x : val a 5 = .bool false := nth e2 0
  obtain ⟨e3, q3⟩ := hN 3 (by decide)
  have F : Fr 47 a [(6, bp b1 0), (4, nilS), (5, .bool false)] := Fr.of hsz hdf ⟨hK 6 (by decide) _ rfl, e4x, e5x, trivial⟩
  replace S : St gd1 [c 0, c 1, c 2, c 3, c 4] fr w := S.of_eq (flat_fl _ _ _)
  rw [q3] at S
  have q4 : c 4 = [(b2, .cells #[.int .i64 y1.Code, .int .i64 y1.Index] 24 (0, 0))] := hI 0 _ rfl
  rw [q4] at S
  replace S : St gd1 [[(b1, .cells #[.int .i64 y1.Code, .int .i64 y1.Index] 24 (0, 0))]] fr w := St.tail [[(b1, .cells #[.int .i64 y1.Code, .int .i64 y1.Index] 24 (0, 0))]] _ (S.frontC 3 rfl)
  clear hK hI hN hsz hdf e1 e2 e3 e4x e5x
  refine then_n ?_
  refine wp_ret ?_
  refine then_r ?_
  obtain rfl := sinj hm
  refine post_r (fn := Try.f13) (rs := [.tmp 4, .tmp 5, .cell 6 24]) [nilS, .bool false, .agg #[.int .i64 y1.Code, .int .i64 y1.Index]] F rfl (ar_cons (resT rfl) (ar_cons (resT rfl) (ar_cons (resA rfl tu24 rfl ts24 (box_ptr (cells := [.int .i64 y1.Code, .int .i64 y1.Index]) 0 rfl 0 rfl (lb rfl) w S)) ar_nil))) ?_
  replace S : St gd1 [] fr w := St.tail [] _ S
  exact ⟨_, rfl, gd1, (nilS), (l1.trans ld1), S, (RepSl.nil _), rfl⟩
 ·refine wp_condF F rfl hc1 ?_
  refine wp_skip ?_
  refine then_n ?_
  refine wp_seq ?_
  refine wp_seq ?_
  refine wp_region_lit ?_
  refine wl_ev (wn rfl) (ev_move rfl) F S rfl rfl ?_; clear F a; intro a F
  refine wl_ev (wn rfl) (ev_int rfl rfl (bo_lss _ _ _ _)) F S rfl rfl ?_; clear F a; intro a F
  refine wl_ev (wn rfl) (ev_move rfl) F S rfl rfl ?_; clear F a; intro a F
  obtain ⟨x1, hx1, hm⟩ := bind_some hm
  refine wl_cut 5 (fun a w' => w = w' ∧ Fr 47 a [(24, .bool x1), (6, bp b1 0), (0, vl_1), (1, .int .i64 i_)]) ?_ ?_
  ·clear hm; obtain ⟨hc2, hm⟩ | ⟨hc2, hm⟩ := ite_or hx1
   ·refine wl_skip rfl rfl rfl rfl (ne_ft hc2) F rfl rfl ?_; clear F a; intro a F
    refine wl_skip rfl rfl rfl rfl (ne_ft hc2) F rfl rfl ?_; clear F a; intro a F
    refine wl_skip rfl rfl rfl rfl (ne_ft hc2) F rfl rfl ?_; clear F a; intro a F
    refine wl_skip rfl rfl rfl rfl (ne_ft hc2) F rfl rfl ?_; clear F a; intro a F
    refine wl_ev (wn rfl) (ev_pickT rfl hc2 rfl) F S rfl rfl ?_; clear F a; intro a F
    obtain rfl := sinj hm
    refine wpList_nil (then_n ?_); exact ⟨rfl, F.sub ⟨rfl, rfl, rfl, rfl, trivial⟩⟩
   ·refine wl_ev (wg F rfl rfl rfl rfl hc2) (ev_move rfl) F S rfl rfl ?_; clear F a; intro a F
    refine wl_ev (wg F rfl rfl rfl rfl hc2) (ev_move rfl) F S rfl rfl ?_; clear F a; intro a F
    refine wl_ev (wg F rfl rfl rfl rfl hc2) (ev_lenSh hl_1 rfl tu22) F S rfl rfl ?_; clear F a; intro a F
    refine wl_ev (wg F rfl rfl rfl rfl hc2) (ev_int rfl rfl (bo_geq _ _ _ _)) F S rfl rfl ?_; clear F a; intro a F
    refine wl_ev (wn rfl) (ev_pickF rfl hc2 rfl) F S rfl rfl ?_; clear F a; intro a F
    obtain rfl := sinj hm
    refine wpList_nil (then_n ?_); exact ⟨rfl, F.sub ⟨rfl, rfl, rfl, rfl, trivial⟩⟩
  clear F; rintro a w' ⟨rfl, F⟩
  refine wpList_nil ?_
  refine then_n ?_
  obtain ⟨hc3, hm⟩ | ⟨hc3, hm⟩ := ite_or hm
  ·refine wp_condT F rfl hc3 ?_
   refine wp_seq ?_
   refine wp_region_lit ?_
   obtain ⟨y2, hy2, hm⟩ := bind_some hm
   refine wl_call (wn rfl) rfl (xs := [.const (.int .i64 3), .const (.int .i64 (-2))]) (vs := [.int .i64 3, .int .i64 (-2)]) (cap := []) F rfl rfl tc26 (changeforgeref1_At_ok (g := g1) (fr := (fl [[(b2, .cells #[.int .i64 y1.Code, .int .i64 y1.Index] 24 (0, 0))], [(b1, .cells #[.int .i64 0, .int .i64 0] 24 (0, 0))]] fr)) (w := w) 3 (-2) S hy2) rfl rfl ?_; clear F a S
   rintro _ a w ⟨g2, l2, S, rfl⟩ F; replace S : St g2 [[(b2, .cells #[.int .i64 y1.Code, .int .i64 y1.Index] 24 (0, 0))], [(b1, .cells #[.int .i64 0, .int .i64 0] 24 (0, 0))]] fr w := S
   refine wl_ev (wn rfl) (ev_assign rfl) F S rfl rfl ?_; clear F a; intro a F
   refine wl_ev (wn rfl) (ev_assign rfl) F S rfl rfl ?_; clear F a; intro a F
   refine wl_storeC (wn rfl) rfl F S rfl rfl (vs := [.int .i64 y2.Code, .int .i64 y2.Index]) rfl ts24 (one_cons rfl (one_cons rfl one_nil)) (k := 1) rfl (lb rfl) (c' := #[.int .i64 y2.Code, .int .i64 y2.Index]) rfl rfl ?_; clear S; intro w S
   replace S : St g2 [[(b2, .cells #[.int .i64 y1.Code, .int .i64 y1.Index] 24 (0, 0))], [(b1, .cells #[.int .i64 y2.Code, .int .i64 y2.Index] 24 (0, 0))]] fr w := S
   refine wpList_nil ?_
   replace F := F.sub (e' := [(5, .bool false), (4, nilS), (6, bp b1 0)]) ⟨rfl, rfl, rfl, trivial⟩
   refine then_n ?_
   refine wp_ret ?_
   refine then_r ?_
   obtain rfl := sinj hm
   refine post_r (fn := Try.f13) (rs := [.tmp 4, .tmp 5, .cell 6 24]) [nilS, .bool false, .agg #[.int .i64 y2.Code, .int .i64 y2.Index]] F rfl (ar_cons (resT rfl) (ar_cons (resT rfl) (ar_cons (resA rfl tu24 rfl ts24 (box_ptr (cells := [.int .i64 y2.Code, .int .i64 y2.Index]) 1 rfl 0 rfl (lb rfl) w S)) ar_nil))) ?_
   replace S : St g2 [] fr w := St.tail [] _ S
   exact ⟨_, rfl, g2, (nilS), (l1.trans l2), S, (RepSl.nil _), rfl⟩
  ·refine wp_condF F rfl hc3 ?_
   refine wp_skip ?_
   refine then_n ?_
   refine wp_seq ?_
   refine wp_region_lit ?_
   refine wl_ev (wn rfl) (ev_move rfl) F S rfl rfl ?_; clear F a; intro a F
   refine wl_ev (wn rfl) (ev_move rfl) F S rfl rfl ?_; clear F a; intro a F
   refine wl_ev (wn rfl) (ev_move rfl) F S rfl rfl ?_; clear F a; intro a F
   refine wl_ev (wn rfl) (ev_lenSh hl_1 rfl tu22) F S rfl rfl ?_; clear F a; intro a F
   obtain ⟨z1, hz1, hm⟩ := bind_some hm
   refine wl_ev (wn rfl) (ev_int rfl rfl (bo_sub hz1)) F S rfl rfl ?_; clear F a; intro a F
   refine wl_ev (wn rfl) (ev_move rfl) F S rfl rfl ?_; clear F a; intro a F
   obtain ⟨z2, hz2, hm⟩ := bind_some hm
   refine wl_ev (wn rfl) (ev_int rfl rfl (bo_sub hz2)) F S rfl rfl ?_; clear F a; intro a F
   obtain ⟨y3, hy3, hm⟩ := bind_some hm
   refine wl_call (wn rfl) rfl (xs := [.tmp 27, .tmp 28, .tmp 33]) (vs := [vl_1, .int .i64 i_, .int .i64 z2]) (cap := []) F rfl rfl tc27 (changeforgeref2_carried_ok (g := g1) (fr := (fl [[(b2, .cells #[.int .i64 y1.Code, .int .i64 y1.Index] 24 (0, 0))], [(b1, .cells #[.int .i64 0, .int .i64 0] 24 (0, 0))]] fr)) (w := w) l_ vl_1 (hl_1.mono l1) i_ z2 S hy3) rfl rfl ?_; clear F a S
   rintro _ a w ⟨g3, v1, l3, S, h1, rfl⟩ F; replace S : St g3 [[(b2, .cells #[.int .i64 y1.Code, .int .i64 y1.Index] 24 (0, 0))], [(b1, .cells #[.int .i64 0, .int .i64 0] 24 (0, 0))]] fr w := S
   refine wl_ev (wn rfl) (ev_move rfl) F S rfl rfl ?_; clear F a; intro a F
   refine wl_ev (wn rfl) (ev_extract (vs := [v1, .bool y3.2.1, .agg #[.int .i64 y3.2.2.Code, .int .i64 y3.2.2.Index]]) rfl rfl) F S rfl rfl ?_; clear F a; intro a F
   refine wl_ev (wn rfl) (ev_extract (vs := [v1, .bool y3.2.1, .agg #[.int .i64 y3.2.2.Code, .int .i64 y3.2.2.Index]]) rfl rfl) F S rfl rfl ?_; clear F a; intro a F
   refine wl_ev (wn rfl) (ev_extract (vs := [v1, .bool y3.2.1, .agg #[.int .i64 y3.2.2.Code, .int .i64 y3.2.2.Index]]) rfl rfl) F S rfl rfl ?_; clear F a; intro a F
   refine wl_alloc (wn rfl) rfl tz24 (cs := [.int .i64 0, .int .i64 0]) rfl F S rfl rfl ?_; clear F a S; rintro b3 a w F S
   refine wl_ev (wn rfl) (ev_assign rfl) F S rfl rfl ?_; clear F a; intro a F
   refine wl_ev (wn rfl) (ev_assign rfl) F S rfl rfl ?_; clear F a; intro a F
   refine wl_storeC (wn rfl) rfl F S rfl rfl (vs := [.int .i64 y3.2.2.Code, .int .i64 y3.2.2.Index]) rfl ts24 (one_cons rfl (one_cons rfl one_nil)) (k := 0) rfl (lb rfl) (c' := #[.int .i64 y3.2.2.Code, .int .i64 y3.2.2.Index]) rfl rfl ?_; clear S; intro w S
   replace S : St g3 [[(b3, .cells #[.int .i64 y3.2.2.Code, .int .i64 y3.2.2.Index] 24 (0, 0))], [(b2, .cells #[.int .i64 y1.Code, .int .i64 y1.Index] 24 (0, 0))], [(b1, .cells #[.int .i64 0, .int .i64 0] 24 (0, 0))]] fr w := S
   refine wpList_nil ?_
   replace F := F.sub (e' := [(9, .bool y3.2.1), (8, v1), (10, bp b3 0), (6, bp b1 0)]) ⟨rfl, rfl, rfl, rfl, trivial⟩
   refine then_n ?_
   refine wp_seq ?_
   refine wp_seq ?_
   refine wp_region_lit ?_
   refine wl_ev (wn rfl) (ev_move rfl) F S rfl rfl ?_; clear F a; intro a F
   refine wl_ev (wn rfl) (ev_not rfl) F S rfl rfl ?_; clear F a; intro a F
   refine wpList_nil ?_
   replace F := F.sub (e' := [(39, .bool !y3.2.1), (8, v1), (10, bp b3 0), (6, bp b1 0)]) ⟨rfl, rfl, rfl, rfl, trivial⟩
   refine then_n ?_
   obtain ⟨hc4, hm⟩ | ⟨hc4, hm⟩ := ite_or hm
   ·refine wp_condT F rfl hc4 ?_
    refine wp_seq ?_
    refine wp_drawL ⟨3, [[40], [4], [5], []], [[], [], [], [6]], [[4], [], [], []], [[10], [], [], [6]], [[], [], [], [0]], [6], [0, 1, 2, 3, 4, 5]⟩
     [([40], fun us g c => us = [.agg #[.int .i64 y3.2.2.Code, .int .i64 y3.2.2.Index]]),
      ([4], fun us g c => us = [nilS]),
      ([5], fun us g c => us = [.bool false]),
      ([], fun us g c => us = [] ∧ c = [(b1, .cells #[.int .i64 y3.2.2.Code, .int .i64 y3.2.2.Index] 24 (0, 0))])]
     mo (by kernel_rfl) rfl rfl ⟨fun _ _ _ _ _ h => h, fun _ _ _ _ _ h => h, fun _ _ _ _ _ h => h, fun _ _ _ _ _ h => h, trivial⟩ F S ⟨?_, ?_, ?_, ?_, trivial⟩ ?_
    ·intro a w gd6 c fr hsz hdf hK ld6 hN hI S
     have F : Fr 47 a [(10, bp b3 0)] := Fr.of hsz hdf ⟨hK 10 (by decide) _ rfl, trivial⟩
     replace S : St gd6 [c 4] fr w := S.of_eq (flat2 _ _ _ _)
     have q4 : c 4 = [(b3, .cells #[.int .i64 y3.2.2.Code, .int .i64 y3.2.2.Index] 24 (0, 0))] := hI 0 _ rfl
     rw [q4] at S
     refine wl_ev (wn rfl) (ev_loadA tu24 rfl (cs := [.int .i64 y3.2.2.Code, .int .i64 y3.2.2.Index]) ts24 rfl (box_ptr (cells := [.int .i64 y3.2.2.Code, .int .i64 y3.2.2.Index]) 0 rfl 0 rfl (lb rfl))) F S rfl rfl ?_; clear F; intro a F
     refine wpList_nil ⟨rfl, F.sz, F.df, _, [], (Le.refl _), ?_, (lst1 (F.get 40 _ rfl))⟩
     refine St0.of_eq ?_ (flat3 c [] [4] fr).symm
     show St0 _ (fl ([] ++ [c 4]) fr) _
     rw [q4]
     exact S
    ·intro a w gd6 c fr hsz hdf hK ld6 hN hI S
     have F : Fr 47 a [] := Fr.of hsz hdf trivial
     replace S : St gd6 [] fr w := S.of_eq (flat2 _ _ _ _)
     refine wl_ev (wn rfl) (ev_assign rfl) F S rfl rfl ?_; clear F; intro a F
     refine wpList_nil ⟨rfl, F.sz, F.df, _, [], (Le.refl _), ?_, (lst1 (F.get 4 _ rfl))⟩
     refine St0.of_eq ?_ (flat3 c [] [] fr).symm
     show St0 _ (fl ([] ++ []) fr) _
     exact S
    ·intro a w gd6 c fr hsz hdf hK ld6 hN hI S
     have F : Fr 47 a [] := Fr.of hsz hdf trivial
     replace S : St gd6 [] fr w := S.of_eq (flat2 _ _ _ _)
     refine wl_ev (wn rfl) (ev_assign rfl) F S rfl rfl ?_; clear F; intro a F
     refine wpList_nil ⟨rfl, F.sz, F.df, _, [], (Le.refl _), ?_, (lst1 (F.get 5 _ rfl))⟩
     refine St0.of_eq ?_ (flat3 c [] [] fr).symm
     show St0 _ (fl ([] ++ []) fr) _
     exact S
    ·intro a w gd6 c fr hsz hdf hK ld6 hN hI S
     have e0 := hN 0 (by decide)
     have e40x : val a 40 = .agg #[.int .i64 y3.2.2.Code, .int .i64 y3.2.2.Index] := nth e0 0
     have F : Fr 47 a [(6, bp b1 0), (40, .agg #[.int .i64 y3.2.2.Code, .int .i64 y3.2.2.Index])] := Fr.of hsz hdf ⟨hK 6 (by decide) _ rfl, e40x, trivial⟩
     replace S : St gd6 [c 6] fr w := S.of_eq (flat2 _ _ _ _)
     have q6 : c 6 = [(b1, .cells #[.int .i64 0, .int .i64 0] 24 (0, 0))] := hI 2 _ rfl
     rw [q6] at S
     refine wl_storeC (wn rfl) rfl F S rfl rfl (vs := [.int .i64 y3.2.2.Code, .int .i64 y3.2.2.Index]) rfl ts24 (one_cons rfl (one_cons rfl one_nil)) (k := 0) rfl (lb rfl) (c' := #[.int .i64 y3.2.2.Code, .int .i64 y3.2.2.Index]) rfl rfl ?_; clear S; intro w S
     replace S : St gd6 [[(b1, .cells #[.int .i64 y3.2.2.Code, .int .i64 y3.2.2.Index] 24 (0, 0))]] fr w := S
     refine wpList_nil ⟨rfl, F.sz, F.df, _, [(b1, .cells #[.int .i64 y3.2.2.Code, .int .i64 y3.2.2.Index] 24 (0, 0))], (Le.refl _), ?_, ⟨rfl, rfl⟩⟩
     refine St0.of_eq ?_ (flat3s c ([(b1, .cells #[.int .i64 y3.2.2.Code, .int .i64 y3.2.2.Index] 24 (0, 0))]) [] fr).symm
     show St0 _ (fl ([[(b1, .cells #[.int .i64 y3.2.2.Code, .int .i64 y3.2.2.Index] 24 (0, 0))]] ++ []) fr) _
     exact S
    clear F S; intro a w gd6 c hsz hdf hK ld6 hI S hN
    have e1 := hN 1 (by decide)
    have e4x : val a 4 = nilS := nth e1 0
    have e2 := hN 2 (by decide)
    have e5x : val a 5 = .bool false := nth e2 0
    obtain ⟨e3, q3⟩ := hN 3 (by decide)
    have F : Fr 47 a [(6, bp b1 0), (4, nilS), (5, .bool false)] := Fr.of hsz hdf ⟨hK 6 (by decide) _ rfl, e4x, e5x, trivial⟩
    replace S : St gd6 [c 0, c 1, c 2, c 3, c 4, c 5] fr w := S.of_eq (flat_fl _ _ _)
    rw [q3] at S
    have q4 : c 4 = [(b3, .cells #[.int .i64 y3.2.2.Code, .int .i64 y3.2.2.Index] 24 (0, 0))] := hI 0 _ rfl
    rw [q4] at S
    have q5 : c 5 = [(b2, .cells #[.int .i64 y1.Code, .int .i64 y1.Index] 24 (0, 0))] := hI 1 _ rfl
    rw [q5] at S
    replace S : St gd6 [[(b1, .cells #[.int .i64 y3.2.2.Code, .int .i64 y3.2.2.Index] 24 (0, 0))]] fr w := St.tail [[(b1, .cells #[.int .i64 y3.2.2.Code, .int .i64 y3.2.2.Index] 24 (0, 0))]] _ (S.frontC 3 rfl)
    clear hK hI hN hsz hdf e1 e2 e3 e4x e5x
    refine then_n ?_
    refine wp_ret ?_
    refine then_r ?_
    obtain rfl := sinj hm
    refine post_r (fn := Try.f13) (rs := [.tmp 4, .tmp 5, .cell 6 24]) [nilS, .bool false, .agg #[.int .i64 y3.2.2.Code, .int .i64 y3.2.2.Index]] F rfl (ar_cons (resT rfl) (ar_cons (resT rfl) (ar_cons (resA rfl tu24 rfl ts24 (box_ptr (cells := [.int .i64 y3.2.2.Code, .int .i64 y3.2.2.Index]) 0 rfl 0 rfl (lb rfl) w S)) ar_nil))) ?_
    replace S : St gd6 [] fr w := St.tail [] _ S
    exact ⟨_, rfl, gd6, (nilS), ((l1.trans l3).trans ld6), S, (RepSl.nil _), rfl⟩
   ·refine wp_condF F rfl hc4 ?_
    refine wp_skip ?_
    refine then_n ?_
    refine wp_seq ?_
    refine wp_region_lit ?_
    refine wl_ev (wn rfl) (ev_move rfl) F S rfl rfl ?_; clear F a; intro a F
    refine wl_ev (wn rfl) (ev_move rfl) F S rfl rfl ?_; clear F a; intro a F
    refine wl_ev (wn rfl) (ev_lenSh h1 rfl tu22) F S rfl rfl ?_; clear F a; intro a F
    obtain ⟨z3, hz3, hm⟩ := bind_some hm
    refine wl_ev (wn rfl) (ev_int rfl rfl (bo_sub hz3)) F S rfl rfl ?_; clear F a; intro a F
    obtain ⟨y4, hy4, hm⟩ := bind_some hm
    refine wl_cutS (wn rfl) rfl h1 hy4 tu22 ts38 rfl (bnd0 _) (bndV rfl) F rfl rfl ?_; clear F a; rintro v2 h2 a F
    refine wl_ev (wn rfl) (ev_build (parts := []) (vs := []) rfl (fun w => tb24_  w)) F S rfl rfl ?_; clear F a; intro a F
    refine wl_ev (wn rfl) (ev_assign rfl) F S rfl rfl ?_; clear F a; intro a F
    refine wl_ev (wn rfl) (ev_assign rfl) F S rfl rfl ?_; clear F a; intro a F
    refine wl_storeC (wn rfl) rfl F S rfl rfl (vs := [.int .i64 0, .int .i64 0]) rfl ts24 (one_cons rfl (one_cons rfl one_nil)) (k := 2) rfl (lb rfl) (c' := #[.int .i64 0, .int .i64 0]) rfl rfl ?_; clear S; intro w S
    replace S : St g3 [[(b3, .cells #[.int .i64 y3.2.2.Code, .int .i64 y3.2.2.Index] 24 (0, 0))], [(b2, .cells #[.int .i64 y1.Code, .int .i64 y1.Index] 24 (0, 0))], [(b1, .cells #[.int .i64 0, .int .i64 0] 24 (0, 0))]] fr w := S
    refine wpList_nil ?_
    replace F := F.sub (e' := [(5, .bool true), (4, v2), (6, bp b1 0)]) ⟨rfl, rfl, rfl, trivial⟩
    refine then_n ?_
    refine wp_ret ?_
    obtain rfl := sinj hm
    refine post_r (fn := Try.f13) (rs := [.tmp 4, .tmp 5, .cell 6 24]) [v2, .bool true, .agg #[.int .i64 0, .int .i64 0]] F rfl (ar_cons (resT rfl) (ar_cons (resT rfl) (ar_cons (resA rfl tu24 rfl ts24 (box_ptr (cells := [.int .i64 0, .int .i64 0]) 2 rfl 0 rfl (lb rfl) w S)) ar_nil))) ?_
    replace S : St g3 [] fr w := St.tail [] _ S
    exact ⟨_, rfl, g3, v2, (l1.trans l3), S, h2, rfl⟩
end Go.Dc
