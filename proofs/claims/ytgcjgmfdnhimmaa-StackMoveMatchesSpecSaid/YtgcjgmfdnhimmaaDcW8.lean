/- Walks: each function comes to what its model says. -/
import Derived.Test.YtgcjgmfdnhimmaaDcTab
import Derived.Test.YtgcjgmfdnhimmaaDcM
import Derived.Test.YtgcjgmfdnhimmaaDcW6
import Derived.Test.YtgcjgmfdnhimmaaDcW7
namespace Go.Dc
open Go Go.Proofs
set_option maxRecDepth 100000
set_option maxHeartbeats 4000000
set_option linter.unusedVariables false
theorem changeforgeref1_Commute_ok {g : Gh} {fr : Hl} {w : World} {r : Patch × Patch × Bool × Fault} (p_ : Patch) (vp_1 : Value) (hp_1 : RepSl g p_.Hunks vp_1) (q_ : Patch) (vq_1 : Value) (hq_1 : RepSl g q_.Hunks vq_1) (S : St g [] fr w) (hm : changeforgeref1_Commute p_ q_ = some r) :
  Calls Try.prog 47 [.agg #[vp_1], .agg #[vq_1]].toArray w (fun en w' => ∃ v, en = .returned v ∧ ∃ (g' : Gh) (v1 v2 : Value), Le g g' ∧ St g' [] fr w' ∧ RepSl g' r.1.Hunks v1 ∧ RepSl g' r.2.1.Hunks v2 ∧ .tuple #[.agg #[v1], .agg #[v2], .bool r.2.2.1, .agg #[.int .i64 r.2.2.2.Code, .int .i64 r.2.2.2.Index]] = v) := by
 unfold changeforgeref1_Commute at hm
 refine calls_enter (fn := Try.f47) Try.func47 rfl Try.ntmps47 (lb rfl) ?_
 intro a F
 replace F : Fr 160 a [(0, .agg #[vp_1]), (1, .agg #[vq_1])] := F
 refine wp_seq ?_
 refine wp_region_lit ?_
 refine wl_boxC (wn rfl) rfl rfl rfl F S rfl rfl ?_; clear F a S; rintro b1 a w F S
 refine wl_boxC (wn rfl) rfl rfl rfl F S rfl rfl ?_; clear F a S; rintro b2 a w F S
 refine wl_alloc (wn rfl) rfl tz38 (cs := [nilS]) rfl F S rfl rfl ?_; clear F a S; rintro b3 a w F S
 refine wl_alloc (wn rfl) rfl tz38 (cs := [nilS]) rfl F S rfl rfl ?_; clear F a S; rintro b4 a w F S
 refine wl_ev (wn rfl) (ev_assign rfl) F S rfl rfl ?_; clear F a; intro a F
 refine wl_alloc (wn rfl) rfl tz24 (cs := [.int .i64 0, .int .i64 0]) rfl F S rfl rfl ?_; clear F a S; rintro b5 a w F S
 refine wpList_nil ?_
 replace F := F.sub (e' := [(7, bp b5 0), (5, bp b4 0), (4, bp b3 0), (3, bp b2 0), (2, bp b1 0)]) ⟨rfl, rfl, rfl, rfl, rfl, trivial⟩
 refine then_n ?_
 refine wp_seq ?_
 refine wp_seq ?_
 refine wp_region_lit ?_
 refine wl_ev (wn rfl) (ev_loadA tu38 rfl (cs := [vp_1]) ts38 rfl (box_ptr (cells := [vp_1]) 4 rfl 0 rfl (lb rfl))) F S rfl rfl ?_; clear F a; intro a F
 refine wl_ev (wn rfl) (ev_loadA tu38 rfl (cs := [vq_1]) ts38 rfl (box_ptr (cells := [vq_1]) 3 rfl 0 rfl (lb rfl))) F S rfl rfl ?_; clear F a; intro a F
 obtain ⟨y1, hy1, hm⟩ := bind_some hm
 refine wl_call (wn rfl) rfl (xs := [.tmp 19, .tmp 20]) (vs := [.agg #[vp_1], .agg #[vq_1]]) (cap := []) F rfl rfl tc60 (changeforgeref1_Pair_ok (g := g) (fr := (fl [[(b5, .cells #[.int .i64 0, .int .i64 0] 24 (0, 0))], [(b4, .cells #[nilS] 38 (0, 0))], [(b3, .cells #[nilS] 38 (0, 0))], [(b2, .cells #[vq_1] 38 (0, 0))], [(b1, .cells #[vp_1] 38 (0, 0))]] fr)) (w := w) p_ vp_1 hp_1 q_ vq_1 hq_1 S hy1) rfl rfl ?_; clear F a S
 rintro _ a w ⟨g1, l1, S, rfl⟩ F; replace S : St g1 [[(b5, .cells #[.int .i64 0, .int .i64 0] 24 (0, 0))], [(b4, .cells #[nilS] 38 (0, 0))], [(b3, .cells #[nilS] 38 (0, 0))], [(b2, .cells #[vq_1] 38 (0, 0))], [(b1, .cells #[vp_1] 38 (0, 0))]] fr w := S
 refine wl_alloc (wn rfl) rfl tz24 (cs := [.int .i64 0, .int .i64 0]) rfl F S rfl rfl ?_; clear F a S; rintro b6 a w F S
 refine wl_storeC (wn rfl) rfl F S rfl rfl (vs := [.int .i64 y1.Code, .int .i64 y1.Index]) rfl ts24 (one_cons rfl (one_cons rfl one_nil)) (k := 0) rfl (lb rfl) (c' := #[.int .i64 y1.Code, .int .i64 y1.Index]) rfl rfl ?_; clear S; intro w S
 replace S : St g1 [[(b6, .cells #[.int .i64 y1.Code, .int .i64 y1.Index] 24 (0, 0))], [(b5, .cells #[.int .i64 0, .int .i64 0] 24 (0, 0))], [(b4, .cells #[nilS] 38 (0, 0))], [(b3, .cells #[nilS] 38 (0, 0))], [(b2, .cells #[vq_1] 38 (0, 0))], [(b1, .cells #[vp_1] 38 (0, 0))]] fr w := S
 refine wpList_nil ?_
 replace F := F.sub (e' := [(8, bp b6 0), (7, bp b5 0), (5, bp b4 0), (4, bp b3 0), (3, bp b2 0), (2, bp b1 0)]) ⟨rfl, rfl, rfl, rfl, rfl, rfl, trivial⟩
 refine then_n ?_
 refine wp_seq ?_
 refine wp_region_lit ?_
 refine wl_ev (wn rfl) (ev_fieldAddr' tu24 tf24_0 (z := 0) ts3 rfl ⟨_, rfl⟩ rfl) F S rfl rfl ?_; clear F a; intro a F
 refine wl_ev (wn rfl) (ev_load1 tu3 rfl rfl (box_ptr (cells := [.int .i64 y1.Code]) 0 rfl 0 rfl (lb rfl))) F S rfl rfl ?_; clear F a; intro a F
 refine wl_ev (wn rfl) (ev_int rfl rfl (bo_neq _ _ _ _)) F S rfl rfl ?_; clear F a; intro a F
 refine wpList_nil ?_
 replace F := F.sub (e' := [(24, .bool (!decide (y1.Code = 0))), (8, bp b6 0), (7, bp b5 0), (5, bp b4 0), (4, bp b3 0), (3, bp b2 0), (2, bp b1 0)]) ⟨rfl, rfl, rfl, rfl, rfl, rfl, rfl, trivial⟩
 refine then_n ?_
 obtain ⟨hc1, hm⟩ | ⟨hc1, hm⟩ := ite_or hm
 ·refine wp_condT F rfl hc1 ?_
  refine wp_seq ?_
  refine wp_drawL ⟨6, [[25], [26], [27], [], [], [6], []], [[], [], [], [10], [9], [], [8]], [[], [], [7], [], [], [], []], [[], [], [8], [4], [5], [], [7]], [[], [], [], [0], [1], [], [2]], [7, 5, 4], [0, 1, 2, 3, 4, 5, 6, 7, 11, 12]⟩
   [([25], fun us g c => us = [.agg #[nilS]]),
    ([26], fun us g c => us = [.agg #[nilS]]),
    ([27], fun us g c => us = [.agg #[.int .i64 y1.Code, .int .i64 y1.Index]]),
    ([], fun us g c => us = [] ∧ c = [(b3, .cells #[nilS] 38 (0, 0))]),
    ([], fun us g c => us = [] ∧ c = [(b4, .cells #[nilS] 38 (0, 0))]),
    ([6], fun us g c => us = [.bool false]),
    ([], fun us g c => us = [] ∧ c = [(b5, .cells #[.int .i64 y1.Code, .int .i64 y1.Index] 24 (0, 0))])]
   mo (by kernel_rfl) rfl rfl ⟨fun _ _ _ _ _ h => h, fun _ _ _ _ _ h => h, fun _ _ _ _ _ h => h, fun _ _ _ _ _ h => h, fun _ _ _ _ _ h => h, fun _ _ _ _ _ h => h, fun _ _ _ _ _ h => h, trivial⟩ F S ⟨?_, ?_, ?_, ?_, ?_, ?_, ?_, trivial⟩ ?_
  ·intro a w gd1 c fr hsz hdf hK ld1 hN hI S
   have F : Fr 160 a [] := Fr.of hsz hdf trivial
   replace S : St gd1 [] fr w := S.of_eq (flat2 _ _ _ _)
   refine wl_ev (wn rfl) (ev_build (parts := []) (vs := []) rfl (fun w => tb38_  w)) F S rfl rfl ?_; clear F; intro a F
   refine wpList_nil ⟨rfl, F.sz, F.df, _, [], (Le.refl _), ?_, (lst1 (F.get 25 _ rfl))⟩
   refine St0.of_eq ?_ (flat3 c [] [] fr).symm
   show St0 _ (fl ([] ++ []) fr) _
   exact S
  ·intro a w gd1 c fr hsz hdf hK ld1 hN hI S
   have F : Fr 160 a [] := Fr.of hsz hdf trivial
   replace S : St gd1 [] fr w := S.of_eq (flat2 _ _ _ _)
   refine wl_ev (wn rfl) (ev_build (parts := []) (vs := []) rfl (fun w => tb38_  w)) F S rfl rfl ?_; clear F; intro a F
   refine wpList_nil ⟨rfl, F.sz, F.df, _, [], (Le.refl _), ?_, (lst1 (F.get 26 _ rfl))⟩
   refine St0.of_eq ?_ (flat3 c [] [] fr).symm
   show St0 _ (fl ([] ++ []) fr) _
   exact S
  ·intro a w gd1 c fr hsz hdf hK ld1 hN hI S
   have F : Fr 160 a [(8, bp b6 0)] := Fr.of hsz hdf ⟨hK 8 (by decide) _ rfl, trivial⟩
   replace S : St gd1 [c 7] fr w := S.of_eq (flat2 _ _ _ _)
   have q7 : c 7 = [(b6, .cells #[.int .i64 y1.Code, .int .i64 y1.Index] 24 (0, 0))] := hI 0 _ rfl
   rw [q7] at S
   refine wl_ev (wn rfl) (ev_loadA tu24 rfl (cs := [.int .i64 y1.Code, .int .i64 y1.Index]) ts24 rfl (box_ptr (cells := [.int .i64 y1.Code, .int .i64 y1.Index]) 0 rfl 0 rfl (lb rfl))) F S rfl rfl ?_; clear F; intro a F
   refine wpList_nil ⟨rfl, F.sz, F.df, _, [], (Le.refl _), ?_, (lst1 (F.get 27 _ rfl))⟩
   refine St0.of_eq ?_ (flat3 c [] [7] fr).symm
   show St0 _ (fl ([] ++ [c 7]) fr) _
   rw [q7]
   exact S
  ·intro a w gd1 c fr hsz hdf hK ld1 hN hI S
   have e0 := hN 0 (by decide)
   have e25x : val a 25 = .agg #[nilS] := nth e0 0
   have F : Fr 160 a [(4, bp b3 0), (25, .agg #[nilS])] := Fr.of hsz hdf ⟨hK 4 (by decide) _ rfl, e25x, trivial⟩
   replace S : St gd1 [c 10] fr w := S.of_eq (flat2 _ _ _ _)
   have q10 : c 10 = [(b3, .cells #[nilS] 38 (0, 0))] := hI 3 _ rfl
   rw [q10] at S
   refine wl_storeC (wn rfl) rfl F S rfl rfl (vs := [nilS]) rfl ts38 (one_cons rfl one_nil) (k := 0) rfl (lb rfl) (c' := #[nilS]) rfl rfl ?_; clear S; intro w S
   replace S : St gd1 [[(b3, .cells #[nilS] 38 (0, 0))]] fr w := S
   refine wpList_nil ⟨rfl, F.sz, F.df, _, [(b3, .cells #[nilS] 38 (0, 0))], (Le.refl _), ?_, ⟨rfl, rfl⟩⟩
   refine St0.of_eq ?_ (flat3s c ([(b3, .cells #[nilS] 38 (0, 0))]) [] fr).symm
   show St0 _ (fl ([[(b3, .cells #[nilS] 38 (0, 0))]] ++ []) fr) _
   exact S
  ·intro a w gd1 c fr hsz hdf hK ld1 hN hI S
   have e1 := hN 1 (by decide)
   have e26x : val a 26 = .agg #[nilS] := nth e1 0
   have F : Fr 160 a [(5, bp b4 0), (26, .agg #[nilS])] := Fr.of hsz hdf ⟨hK 5 (by decide) _ rfl, e26x, trivial⟩
   replace S : St gd1 [c 9] fr w := S.of_eq (flat2 _ _ _ _)
   have q9 : c 9 = [(b4, .cells #[nilS] 38 (0, 0))] := hI 2 _ rfl
   rw [q9] at S
   refine wl_storeC (wn rfl) rfl F S rfl rfl (vs := [nilS]) rfl ts38 (one_cons rfl one_nil) (k := 0) rfl (lb rfl) (c' := #[nilS]) rfl rfl ?_; clear S; intro w S
   replace S : St gd1 [[(b4, .cells #[nilS] 38 (0, 0))]] fr w := S
   refine wpList_nil ⟨rfl, F.sz, F.df, _, [(b4, .cells #[nilS] 38 (0, 0))], (Le.refl _), ?_, ⟨rfl, rfl⟩⟩
   refine St0.of_eq ?_ (flat3s c ([(b4, .cells #[nilS] 38 (0, 0))]) [] fr).symm
   show St0 _ (fl ([[(b4, .cells #[nilS] 38 (0, 0))]] ++ []) fr) _
   exact S
  ·intro a w gd1 c fr hsz hdf hK ld1 hN hI S
   have F : Fr 160 a [] := Fr.of hsz hdf trivial
   replace S : St gd1 [] fr w := S.of_eq (flat2 _ _ _ _)
   refine wl_ev (wn rfl) (ev_assign rfl) F S rfl rfl ?_; clear F; intro a F
   refine wpList_nil ⟨rfl, F.sz, F.df, _, [], (Le.refl _), ?_, (lst1 (F.get 6 _ rfl))⟩
   refine St0.of_eq ?_ (flat3 c [] [] fr).symm
   show St0 _ (fl ([] ++ []) fr) _
   exact S
  ·intro a w gd1 c fr hsz hdf hK ld1 hN hI S
   have e2 := hN 2 (by decide)
   have e27x : val a 27 = .agg #[.int .i64 y1.Code, .int .i64 y1.Index] := nth e2 0
   have F : Fr 160 a [(7, bp b5 0), (27, .agg #[.int .i64 y1.Code, .int .i64 y1.Index])] := Fr.of hsz hdf ⟨hK 7 (by decide) _ rfl, e27x, trivial⟩
   replace S : St gd1 [c 8] fr w := S.of_eq (flat2 _ _ _ _)
   have q8 : c 8 = [(b5, .cells #[.int .i64 0, .int .i64 0] 24 (0, 0))] := hI 1 _ rfl
   rw [q8] at S
   refine wl_storeC (wn rfl) rfl F S rfl rfl (vs := [.int .i64 y1.Code, .int .i64 y1.Index]) rfl ts24 (one_cons rfl (one_cons rfl one_nil)) (k := 0) rfl (lb rfl) (c' := #[.int .i64 y1.Code, .int .i64 y1.Index]) rfl rfl ?_; clear S; intro w S
   replace S : St gd1 [[(b5, .cells #[.int .i64 y1.Code, .int .i64 y1.Index] 24 (0, 0))]] fr w := S
   refine wpList_nil ⟨rfl, F.sz, F.df, _, [(b5, .cells #[.int .i64 y1.Code, .int .i64 y1.Index] 24 (0, 0))], (Le.refl _), ?_, ⟨rfl, rfl⟩⟩
   refine St0.of_eq ?_ (flat3s c ([(b5, .cells #[.int .i64 y1.Code, .int .i64 y1.Index] 24 (0, 0))]) [] fr).symm
   show St0 _ (fl ([[(b5, .cells #[.int .i64 y1.Code, .int .i64 y1.Index] 24 (0, 0))]] ++ []) fr) _
   exact S
  clear F S; intro a w gd1 c hsz hdf hK ld1 hI S hN
  obtain ⟨e3, q3⟩ := hN 3 (by decide)
  obtain ⟨e4, q4⟩ := hN 4 (by decide)
  have e5 := hN 5 (by decide)
  have e6x : val a 6 = .bool false := nth e5 0
  obtain ⟨e6, q6⟩ := hN 6 (by decide)
  have F : Fr 160 a [(7, bp b5 0), (5, bp b4 0), (4, bp b3 0), (6, .bool false)] := Fr.of hsz hdf ⟨hK 7 (by decide) _ rfl, hK 5 (by decide) _ rfl, hK 4 (by decide) _ rfl, e6x, trivial⟩
  replace S : St gd1 [c 0, c 1, c 2, c 3, c 4, c 5, c 6, c 7, c 11, c 12] fr w := S.of_eq (flat_fl _ _ _)
  rw [q3] at S
  rw [q4] at S
  rw [q6] at S
  have q7 : c 7 = [(b6, .cells #[.int .i64 y1.Code, .int .i64 y1.Index] 24 (0, 0))] := hI 0 _ rfl
  rw [q7] at S
  have q11 : c 11 = [(b2, .cells #[vq_1] 38 (0, 0))] := hI 4 _ rfl
  rw [q11] at S
  have q12 : c 12 = [(b1, .cells #[vp_1] 38 (0, 0))] := hI 5 _ rfl
  rw [q12] at S
  replace S : St gd1 [[(b3, .cells #[nilS] 38 (0, 0))], [(b4, .cells #[nilS] 38 (0, 0))], [(b5, .cells #[.int .i64 y1.Code, .int .i64 y1.Index] 24 (0, 0))]] fr w := St.tail [[(b3, .cells #[nilS] 38 (0, 0))], [(b4, .cells #[nilS] 38 (0, 0))], [(b5, .cells #[.int .i64 y1.Code, .int .i64 y1.Index] 24 (0, 0))]] _ (((S.frontC 6 rfl).frontC 5 rfl).frontC 5 rfl)
  clear hK hI hN hsz hdf e3 e4 e5 e6 e6x
  refine then_n ?_
  refine wp_ret ?_
  refine then_r ?_
  obtain rfl := sinj hm
  refine post_r (fn := Try.f47) (rs := [.cell 4 38, .cell 5 38, .tmp 6, .cell 7 24]) [.agg #[nilS], .agg #[nilS], .bool false, .agg #[.int .i64 y1.Code, .int .i64 y1.Index]] F rfl (ar_cons (resA rfl tu38 rfl ts38 (box_ptr (cells := [nilS]) 0 rfl 0 rfl (lb rfl) w S)) (ar_cons (resA rfl tu38 rfl ts38 (box_ptr (cells := [nilS]) 1 rfl 0 rfl (lb rfl) w S)) (ar_cons (resT rfl) (ar_cons (resA rfl tu24 rfl ts24 (box_ptr (cells := [.int .i64 y1.Code, .int .i64 y1.Index]) 2 rfl 0 rfl (lb rfl) w S)) ar_nil)))) ?_
  replace S : St gd1 [] fr w := St.tail [] _ S
  exact ⟨_, rfl, gd1, (nilS), (nilS), (l1.trans ld1), S, (RepSl.nil _), (RepSl.nil _), rfl⟩
 ·refine wp_condF F rfl hc1 ?_
  refine wp_skip ?_
  refine then_n ?_
  refine wp_seq ?_
  refine wp_region_lit ?_
  refine wl_alloc (wn rfl) rfl tz38 (cs := [nilS]) rfl F S rfl rfl ?_; clear F a S; rintro b7 a w F S
  refine wpList_nil ?_
  replace F := F.sub (e' := [(9, bp b7 0), (7, bp b5 0), (5, bp b4 0), (4, bp b3 0), (3, bp b2 0), (2, bp b1 0)]) ⟨rfl, rfl, rfl, rfl, rfl, rfl, trivial⟩
  refine then_n ?_
  refine wp_seq ?_
  refine wp_region_lit ?_
  refine wl_alloc (wn rfl) rfl tz38 (cs := [nilS]) rfl F S rfl rfl ?_; clear F a S; rintro b8 a w F S
  refine wpList_nil ?_
  refine then_n ?_
  refine wp_cut (fun a w => ∃ (x1 : List Hunk) (v1 : Value) (c1 : Hl) (g2 : Gh), Fr 160 a [(10, bp b8 0), (9, bp b7 0), (7, bp b5 0), (5, bp b4 0), (4, bp b3 0), (2, bp b1 0)] ∧ Le g1 g2 ∧ St g2 [[(b8, .cells #[nilS] 38 (0, 0))], [(b7, .cells #[v1] 38 (0, 0))], [(b5, .cells #[.int .i64 0, .int .i64 0] 24 (0, 0))], [(b4, .cells #[nilS] 38 (0, 0))], [(b3, .cells #[nilS] 38 (0, 0))], [(b1, .cells #[vp_1] 38 (0, 0))], c1] fr w ∧ OwnS g2 x1 v1 c1 ∧ changeforgeref1_Commute.j1 p_ x1 = some r) ?_ ?_
  ·refine wp_seq ?_
   refine wp_region_lit ?_
   refine wl_ev (wn rfl) (ev_assign rfl) F S rfl rfl ?_; clear F a; intro a F
   refine wpList_nil ?_
   refine then_n ?_
   refine wp_block ?_
   obtain ⟨r3, hr8, hm⟩ := bind_some hm
   have hmo3 := hm; clear hm
   refine wp_iter (σ := Int × (List Hunk)) (ρ := (Patch × Patch × Bool × Fault) ⊕ (List Hunk)) (m := fun s => changeforgeref1_Commute.l3 p_ q_ s.1 s.2) (I := fun s a w => match s with | (x13, x14) => ∃ (v17 : Value) (c7 : Hl) (g18 : Gh), Fr 160 a [(11, .int .i64 x13), (10, bp b8 0), (9, bp b7 0), (7, bp b5 0), (5, bp b4 0), (4, bp b3 0), (3, bp b2 0), (2, bp b1 0)] ∧ Le g1 g18 ∧ St g18 [[(b8, .cells #[nilS] 38 (0, 0))], [(b7, .cells #[v17] 38 (0, 0))], [(b5, .cells #[.int .i64 0, .int .i64 0] 24 (0, 0))], [(b4, .cells #[nilS] 38 (0, 0))], [(b3, .cells #[nilS] 38 (0, 0))], [(b2, .cells #[vq_1] 38 (0, 0))], [(b1, .cells #[vp_1] 38 (0, 0))], c7] fr w ∧ OwnS g18 x14 v17 c7) hr8 ?_ ?_
   ·dsimp only
    replace S : St g1 [[], [(b8, .cells #[nilS] 38 (0, 0))], [(b7, .cells #[nilS] 38 (0, 0))], [(b6, .cells #[.int .i64 y1.Code, .int .i64 y1.Index] 24 (0, 0))], [(b5, .cells #[.int .i64 0, .int .i64 0] 24 (0, 0))], [(b4, .cells #[nilS] 38 (0, 0))], [(b3, .cells #[nilS] 38 (0, 0))], [(b2, .cells #[vq_1] 38 (0, 0))], [(b1, .cells #[vp_1] 38 (0, 0))]] fr w := S
    replace S : St g1 [[(b8, .cells #[nilS] 38 (0, 0))], [(b7, .cells #[nilS] 38 (0, 0))], [(b5, .cells #[.int .i64 0, .int .i64 0] 24 (0, 0))], [(b4, .cells #[nilS] 38 (0, 0))], [(b3, .cells #[nilS] 38 (0, 0))], [(b2, .cells #[vq_1] 38 (0, 0))], [(b1, .cells #[vp_1] 38 (0, 0))], []] fr w := St.tail [[(b8, .cells #[nilS] 38 (0, 0))], [(b7, .cells #[nilS] 38 (0, 0))], [(b5, .cells #[.int .i64 0, .int .i64 0] 24 (0, 0))], [(b4, .cells #[nilS] 38 (0, 0))], [(b3, .cells #[nilS] 38 (0, 0))], [(b2, .cells #[vq_1] 38 (0, 0))], [(b1, .cells #[vp_1] 38 (0, 0))], []] _ ((((((((S.frontC 0 rfl).frontC 9 rfl).frontC 9 rfl).frontC 9 rfl).frontC 9 rfl).frontC 9 rfl).frontC 8 rfl).frontC 8 rfl)
    exact ⟨(nilS), [], g1, F.sub ⟨rfl, rfl, rfl, rfl, rfl, rfl, rfl, rfl, trivial⟩, (Le.refl _), S, (OwnS.nil _)⟩
   ·clear F S; rintro ⟨x13, x14⟩ a w x15 ⟨v17, c7, g18, F, l18, S, h19⟩ hx4 hfin3
    have hm : changeforgeref1_Commute.l3 p_ q_ x13 x14 = some x15 := hx4; clear hx4
    unfold changeforgeref1_Commute.l3 at hm
    refine wp_seq ?_
    refine wp_seq ?_
    refine wp_region_lit ?_
    refine wl_ev (wn rfl) (ev_move rfl) F S rfl rfl ?_; clear F a; intro a F
    refine wl_ev (wn rfl) (ev_fieldAddr' tu38 tf38_0 (z := 0) ts36 rfl ⟨_, rfl⟩ rfl) F S rfl rfl ?_; clear F a; intro a F
    refine wl_ev (wn rfl) (ev_load1 tu36 rfl rfl (box_ptr (cells := [vq_1]) 5 rfl 0 rfl (lb rfl))) F S rfl rfl ?_; clear F a; intro a F
    refine wl_ev (wn rfl) (ev_lenSh hq_1 rfl tu36) F S rfl rfl ?_; clear F a; intro a F
    refine wl_ev (wn rfl) (ev_int rfl rfl (bo_lss _ _ _ _)) F S rfl rfl ?_; clear F a; intro a F
    refine wpList_nil ?_
    replace F := F.sub (e' := [(32, .bool (decide (x13 < (q_.Hunks.length : Int)))), (11, .int .i64 x13), (10, bp b8 0), (9, bp b7 0), (7, bp b5 0), (5, bp b4 0), (4, bp b3 0), (3, bp b2 0), (2, bp b1 0)]) ⟨rfl, rfl, rfl, rfl, rfl, rfl, rfl, rfl, rfl, trivial⟩
    refine then_n ?_
    obtain ⟨hc7, hm⟩ | ⟨hc7, hm⟩ := ite_or hm
    ·refine wp_condT F rfl hc7 ?_
     refine wp_skip ?_
     refine then_n ?_
     refine wp_cut (fun a w => ∃ (x16 : List Hunk) (v18 : Value) (c8 : Hl) (g19 : Gh), Fr 160 a [(11, .int .i64 x13), (10, bp b8 0), (9, bp b7 0), (7, bp b5 0), (5, bp b4 0), (4, bp b3 0), (3, bp b2 0), (2, bp b1 0)] ∧ Le g18 g19 ∧ St g19 [[(b8, .cells #[nilS] 38 (0, 0))], [(b7, .cells #[v18] 38 (0, 0))], [(b5, .cells #[.int .i64 0, .int .i64 0] 24 (0, 0))], [(b4, .cells #[nilS] 38 (0, 0))], [(b3, .cells #[nilS] 38 (0, 0))], [(b2, .cells #[vq_1] 38 (0, 0))], [(b1, .cells #[vp_1] 38 (0, 0))], c8] fr w ∧ OwnS g19 x16 v18 c8 ∧ changeforgeref1_Commute.j6 x13 x16 = some x15) ?_ ?_
     ·refine wp_block ?_
      refine wp_seq ?_
      refine wp_region_lit ?_
      refine wl_ev (wn rfl) (ev_assign rfl) F S rfl rfl ?_; clear F a; intro a F
      refine wpList_nil ?_
      replace F := F.sub (e' := [(12, .int .i64 0), (11, .int .i64 x13), (10, bp b8 0), (9, bp b7 0), (7, bp b5 0), (5, bp b4 0), (4, bp b3 0), (3, bp b2 0), (2, bp b1 0)]) ⟨rfl, rfl, rfl, rfl, rfl, rfl, rfl, rfl, rfl, trivial⟩
      refine then_n ?_
      refine wp_cut (fun a w => ∃ (x17 : Int) (g20 : Gh), Fr 160 a [(12, .int .i64 x17), (11, .int .i64 x13), (10, bp b8 0), (9, bp b7 0), (7, bp b5 0), (5, bp b4 0), (4, bp b3 0), (3, bp b2 0), (2, bp b1 0)] ∧ Le g18 g20 ∧ St g20 [[(b8, .cells #[nilS] 38 (0, 0))], [(b7, .cells #[v17] 38 (0, 0))], [(b5, .cells #[.int .i64 0, .int .i64 0] 24 (0, 0))], [(b4, .cells #[nilS] 38 (0, 0))], [(b3, .cells #[nilS] 38 (0, 0))], [(b2, .cells #[vq_1] 38 (0, 0))], [(b1, .cells #[vp_1] 38 (0, 0))], c7] fr w ∧ changeforgeref1_Commute.j7 q_ x13 x14 x17 = some x15) ?_ ?_
      ·refine wp_seq ?_
       refine wp_region_lit ?_
       refine wl_ev (wn rfl) (ev_assign rfl) F S rfl rfl ?_; clear F a; intro a F
       refine wpList_nil ?_
       refine then_n ?_
       refine wp_block ?_
       obtain ⟨r4, hr11, hm⟩ := bind_some hm
       have hmo4 := hm; clear hm
       refine wp_iter (σ := Int × Int) (ρ := (Patch × Patch × Bool × Fault) ⊕ Int) (m := fun s => changeforgeref1_Commute.l4 p_ q_ x13 s.1 s.2) (I := fun s a w => match s with | (x18, x19) => ∃ (g22 : Gh), Fr 160 a [(13, .int .i64 x18), (12, .int .i64 x19), (11, .int .i64 x13), (10, bp b8 0), (9, bp b7 0), (7, bp b5 0), (5, bp b4 0), (4, bp b3 0), (3, bp b2 0), (2, bp b1 0)] ∧ Le g18 g22 ∧ St g22 [[(b8, .cells #[nilS] 38 (0, 0))], [(b7, .cells #[v17] 38 (0, 0))], [(b5, .cells #[.int .i64 0, .int .i64 0] 24 (0, 0))], [(b4, .cells #[nilS] 38 (0, 0))], [(b3, .cells #[nilS] 38 (0, 0))], [(b2, .cells #[vq_1] 38 (0, 0))], [(b1, .cells #[vp_1] 38 (0, 0))], c7] fr w) hr11 ?_ ?_
       ·dsimp only
        exact ⟨g18, F.sub ⟨rfl, rfl, rfl, rfl, rfl, rfl, rfl, rfl, rfl, rfl, trivial⟩, (Le.refl _), S⟩
       ·clear F S; rintro ⟨x18, x19⟩ a w x20 ⟨g22, F, l22, S⟩ hx5 hfin4
        have hm : changeforgeref1_Commute.l4 p_ q_ x13 x18 x19 = some x20 := hx5; clear hx5
        unfold changeforgeref1_Commute.l4 at hm
        refine wp_seq ?_
        refine wp_seq ?_
        refine wp_region_lit ?_
        refine wl_ev (wn rfl) (ev_move rfl) F S rfl rfl ?_; clear F a; intro a F
        refine wl_ev (wn rfl) (ev_fieldAddr' tu38 tf38_0 (z := 0) ts36 rfl ⟨_, rfl⟩ rfl) F S rfl rfl ?_; clear F a; intro a F
        refine wl_ev (wn rfl) (ev_load1 tu36 rfl rfl (box_ptr (cells := [vp_1]) 6 rfl 0 rfl (lb rfl))) F S rfl rfl ?_; clear F a; intro a F
        refine wl_ev (wn rfl) (ev_lenSh hp_1 rfl tu36) F S rfl rfl ?_; clear F a; intro a F
        refine wl_ev (wn rfl) (ev_int rfl rfl (bo_lss _ _ _ _)) F S rfl rfl ?_; clear F a; intro a F
        refine wpList_nil ?_
        replace F := F.sub (e' := [(39, .bool (decide (x18 < (p_.Hunks.length : Int)))), (13, .int .i64 x18), (12, .int .i64 x19), (11, .int .i64 x13), (10, bp b8 0), (9, bp b7 0), (7, bp b5 0), (5, bp b4 0), (4, bp b3 0), (3, bp b2 0), (2, bp b1 0)]) ⟨rfl, rfl, rfl, rfl, rfl, rfl, rfl, rfl, rfl, rfl, rfl, trivial⟩
        refine then_n ?_
        obtain ⟨hc8, hm⟩ | ⟨hc8, hm⟩ := ite_or hm
        ·refine wp_condT F rfl hc8 ?_
         refine wp_skip ?_
         refine then_n ?_
         refine wp_cut (fun a w => ∃ (x21 : Int) (g23 : Gh), Fr 160 a [(12, .int .i64 x21), (13, .int .i64 x18), (11, .int .i64 x13), (10, bp b8 0), (9, bp b7 0), (7, bp b5 0), (5, bp b4 0), (4, bp b3 0), (3, bp b2 0), (2, bp b1 0)] ∧ Le g22 g23 ∧ St g23 [[(b8, .cells #[nilS] 38 (0, 0))], [(b7, .cells #[v17] 38 (0, 0))], [(b5, .cells #[.int .i64 0, .int .i64 0] 24 (0, 0))], [(b4, .cells #[nilS] 38 (0, 0))], [(b3, .cells #[nilS] 38 (0, 0))], [(b2, .cells #[vq_1] 38 (0, 0))], [(b1, .cells #[vp_1] 38 (0, 0))], c7] fr w ∧ changeforgeref1_Commute.j8 x18 x21 = some x20) ?_ ?_
         ·refine wp_block ?_
          refine wp_seq ?_
          refine wp_region_lit ?_
          refine wl_ev (wn rfl) (ev_loadA tu38 rfl (cs := [vp_1]) ts38 rfl (box_ptr (cells := [vp_1]) 6 rfl 0 rfl (lb rfl))) F S rfl rfl ?_; clear F a; intro a F
          refine wl_ev (wn rfl) (ev_move rfl) F S rfl rfl ?_; clear F a; intro a F
          obtain ⟨y16, hy16, hm⟩ := bind_some hm
          refine wl_call (wn rfl) rfl (xs := [.tmp 43, .tmp 44]) (vs := [.agg #[vp_1], .int .i64 x18]) (cap := []) F rfl rfl tc62 (changeforgeref1_news_ok (g := g22) (fr := (fl [[(b8, .cells #[nilS] 38 (0, 0))], [(b7, .cells #[v17] 38 (0, 0))], [(b5, .cells #[.int .i64 0, .int .i64 0] 24 (0, 0))], [(b4, .cells #[nilS] 38 (0, 0))], [(b3, .cells #[nilS] 38 (0, 0))], [(b2, .cells #[vq_1] 38 (0, 0))], [(b1, .cells #[vp_1] 38 (0, 0))], c7] fr)) (w := w) p_ vp_1 (hp_1.mono ((l1.trans l18).trans l22)) x18 S hy16) rfl rfl ?_; clear F a S
          rintro _ a w ⟨g24, l24, S, rfl⟩ F; replace S : St g24 [[(b8, .cells #[nilS] 38 (0, 0))], [(b7, .cells #[v17] 38 (0, 0))], [(b5, .cells #[.int .i64 0, .int .i64 0] 24 (0, 0))], [(b4, .cells #[nilS] 38 (0, 0))], [(b3, .cells #[nilS] 38 (0, 0))], [(b2, .cells #[vq_1] 38 (0, 0))], [(b1, .cells #[vp_1] 38 (0, 0))], c7] fr w := S
          refine wl_ev (wn rfl) (ev_move rfl) F S rfl rfl ?_; clear F a; intro a F
          refine wl_ev (wn rfl) (ev_extract (vs := [.int .i64 y16.1, .int .i64 y16.2]) rfl rfl) F S rfl rfl ?_; clear F a; intro a F
          refine wl_ev (wn rfl) (ev_extract (vs := [.int .i64 y16.1, .int .i64 y16.2]) rfl rfl) F S rfl rfl ?_; clear F a; intro a F
          refine wl_ev (wn rfl) (ev_assign rfl) F S rfl rfl ?_; clear F a; intro a F
          refine wl_ev (wn rfl) (ev_assign rfl) F S rfl rfl ?_; clear F a; intro a F
          refine wpList_nil ?_
          replace F := F.sub (e' := [(15, .int .i64 y16.2), (14, .int .i64 y16.1), (13, .int .i64 x18), (12, .int .i64 x19), (11, .int .i64 x13), (10, bp b8 0), (9, bp b7 0), (7, bp b5 0), (5, bp b4 0), (4, bp b3 0), (3, bp b2 0), (2, bp b1 0)]) ⟨rfl, rfl, rfl, rfl, rfl, rfl, rfl, rfl, rfl, rfl, rfl, rfl, trivial⟩
          refine then_n ?_
          refine wp_seq ?_
          refine wp_seq ?_
          refine wp_region_lit ?_
          refine wl_ev (wn rfl) (ev_move rfl) F S rfl rfl ?_; clear F a; intro a F
          refine wl_ev (wn rfl) (ev_fieldAddr' tu38 tf38_0 (z := 0) ts36 rfl ⟨_, rfl⟩ rfl) F S rfl rfl ?_; clear F a; intro a F
          refine wl_ev (wn rfl) (ev_load1 tu36 rfl rfl (box_ptr (cells := [vq_1]) 5 rfl 0 rfl (lb rfl))) F S rfl rfl ?_; clear F a; intro a F
          refine wl_ev (wn rfl) (ev_move rfl) F S rfl rfl ?_; clear F a; intro a F
          obtain ⟨y17, hy17, hm⟩ := bind_some hm
          obtain ⟨cs8, hr12, hp5⟩ := elemS (hq_1.mono (((l1.trans l18).trans l22).trans l24)) hy17
          obtain ⟨v25, v26, rfl, h27, h28⟩ := rep_Hunk hr12
          refine wl_ev (wn rfl) (ev_idxS (hq_1.mono (((l1.trans l18).trans l22).trans l24)) hy17 tu36 ts60 rfl rfl) F S rfl rfl ?_; clear F a; intro a F
          have hp6 := PtrC.field hp5 0 1 (lb rfl)
          have hp6 : PtrC g24 (addP (elemP vq_1 x13 3) 0) [.int .i64 y17.At] := hp6
          refine wl_ev (wn rfl) (ev_fieldAddr' tu60 tf60_0 (z := 0) ts3 rfl hp5.ptr rfl) F S rfl rfl ?_; clear F a; intro a F
          refine wl_ev (wn rfl) (ev_load1 tu3 rfl rfl (ptr_mono (cks := [[(b8, .cells #[nilS] 38 (0, 0))], [(b7, .cells #[v17] 38 (0, 0))], [(b5, .cells #[.int .i64 0, .int .i64 0] 24 (0, 0))], [(b4, .cells #[nilS] 38 (0, 0))], [(b3, .cells #[nilS] 38 (0, 0))], [(b2, .cells #[vq_1] 38 (0, 0))], [(b1, .cells #[vp_1] 38 (0, 0))], c7]) (fr := fr) hp6 (Le.refl _))) F S rfl rfl ?_; clear F a; intro a F
          refine wl_ev (wn rfl) (ev_int rfl rfl (bo_geq _ _ _ _)) F S rfl rfl ?_; clear F a; intro a F
          refine wl_ev (wn rfl) (ev_move rfl) F S rfl rfl ?_; clear F a; intro a F
          obtain ⟨x22, hx6, hm⟩ := bind_some hm
          refine wl_cut 9 (fun a w => ∃ g25, Fr 160 a [(65, .bool x22), (15, .int .i64 y16.2), (13, .int .i64 x18), (12, .int .i64 x19), (11, .int .i64 x13), (10, bp b8 0), (9, bp b7 0), (7, bp b5 0), (5, bp b4 0), (4, bp b3 0), (3, bp b2 0), (2, bp b1 0)] ∧ Le g24 g25 ∧ St g25 [[(b8, .cells #[nilS] 38 (0, 0))], [(b7, .cells #[v17] 38 (0, 0))], [(b5, .cells #[.int .i64 0, .int .i64 0] 24 (0, 0))], [(b4, .cells #[nilS] 38 (0, 0))], [(b3, .cells #[nilS] 38 (0, 0))], [(b2, .cells #[vq_1] 38 (0, 0))], [(b1, .cells #[vp_1] 38 (0, 0))], c7] fr w) ?_ ?_
          ·clear hm; obtain ⟨hc9, hm⟩ | ⟨hc9, hm⟩ := ite_or hx6
           ·refine wl_ev (wg F rfl rfl rfl rfl hc9) (ev_fieldAddr' tu38 tf38_0 (z := 0) ts36 rfl ⟨_, rfl⟩ rfl) F S rfl rfl ?_; clear F a; intro a F
            refine wl_ev (wg F rfl rfl rfl rfl hc9) (ev_load1 tu36 rfl rfl (box_ptr (cells := [vq_1]) 5 rfl 0 rfl (lb rfl))) F S rfl rfl ?_; clear F a; intro a F
            refine wl_ev (wg F rfl rfl rfl rfl hc9) (ev_move rfl) F S rfl rfl ?_; clear F a; intro a F
            obtain ⟨y18, hy18, hm⟩ := bind_some hm
            obtain ⟨cs9, hr13, hp7⟩ := elemS (hq_1.mono (((l1.trans l18).trans l22).trans l24)) hy18
            obtain ⟨v27, v28, rfl, h29, h30⟩ := rep_Hunk hr13
            refine wl_ev (wg F rfl rfl rfl rfl hc9) (ev_idxS (hq_1.mono (((l1.trans l18).trans l22).trans l24)) hy18 tu36 ts60 rfl rfl) F S rfl rfl ?_; clear F a; intro a F
            refine wl_ev (wg F rfl rfl rfl rfl hc9) (ev_loadA tu60 rfl (cs := [.int .i64 y18.At, v27, v28]) ts60 rfl (ptr_mono (cks := [[(b8, .cells #[nilS] 38 (0, 0))], [(b7, .cells #[v17] 38 (0, 0))], [(b5, .cells #[.int .i64 0, .int .i64 0] 24 (0, 0))], [(b4, .cells #[nilS] 38 (0, 0))], [(b3, .cells #[nilS] 38 (0, 0))], [(b2, .cells #[vq_1] 38 (0, 0))], [(b1, .cells #[vp_1] 38 (0, 0))], c7]) (fr := fr) hp7 (Le.refl _))) F S rfl rfl ?_; clear F a; intro a F
            obtain ⟨y19, hy19, hm⟩ := bind_some hm
            refine wl_call (wg F rfl rfl rfl rfl hc9) rfl (xs := [.tmp 61]) (vs := [.agg #[.int .i64 y18.At, v27, v28]]) (cap := []) F rfl rfl tc57 (changeforgeref1_End_ok (g := g24) (fr := (fl [[(b8, .cells #[nilS] 38 (0, 0))], [(b7, .cells #[v17] 38 (0, 0))], [(b5, .cells #[.int .i64 0, .int .i64 0] 24 (0, 0))], [(b4, .cells #[nilS] 38 (0, 0))], [(b3, .cells #[nilS] 38 (0, 0))], [(b2, .cells #[vq_1] 38 (0, 0))], [(b1, .cells #[vp_1] 38 (0, 0))], c7] fr)) (w := w) y18 v27 h29 v28 h30 S hy19) rfl rfl ?_; clear F a S
            rintro _ a w ⟨g26, l26, S, rfl⟩ F; replace S : St g26 [[(b8, .cells #[nilS] 38 (0, 0))], [(b7, .cells #[v17] 38 (0, 0))], [(b5, .cells #[.int .i64 0, .int .i64 0] 24 (0, 0))], [(b4, .cells #[nilS] 38 (0, 0))], [(b3, .cells #[nilS] 38 (0, 0))], [(b2, .cells #[vq_1] 38 (0, 0))], [(b1, .cells #[vp_1] 38 (0, 0))], c7] fr w := S
            refine wl_ev (wg F rfl rfl rfl rfl hc9) (ev_move rfl) F S rfl rfl ?_; clear F a; intro a F
            refine wl_ev (wg F rfl rfl rfl rfl hc9) (ev_int rfl rfl (bo_geq _ _ _ _)) F S rfl rfl ?_; clear F a; intro a F
            refine wl_ev (wn rfl) (ev_pickT rfl hc9 rfl) F S rfl rfl ?_; clear F a; intro a F
            obtain rfl := sinj hm
            refine wpList_nil (then_n ?_); exact ⟨g26, F.sub ⟨rfl, rfl, rfl, rfl, rfl, rfl, rfl, rfl, rfl, rfl, rfl, rfl, trivial⟩, l26, S⟩
           ·refine wl_skip rfl rfl rfl rfl (ne_tf hc9) F rfl rfl ?_; clear F a; intro a F
            refine wl_skip rfl rfl rfl rfl (ne_tf hc9) F rfl rfl ?_; clear F a; intro a F
            refine wl_skip rfl rfl rfl rfl (ne_tf hc9) F rfl rfl ?_; clear F a; intro a F
            refine wl_skip rfl rfl rfl rfl (ne_tf hc9) F rfl rfl ?_; clear F a; intro a F
            refine wl_skip rfl rfl rfl rfl (ne_tf hc9) F rfl rfl ?_; clear F a; intro a F
            refine wl_skip rfl rfl rfl rfl (ne_tf hc9) F rfl rfl ?_; clear F a; intro a F
            refine wl_skip rfl rfl rfl rfl (ne_tf hc9) F rfl rfl ?_; clear F a; intro a F
            refine wl_skip rfl rfl rfl rfl (ne_tf hc9) F rfl rfl ?_; clear F a; intro a F
            refine wl_ev (wn rfl) (ev_pickF rfl hc9 rfl) F S rfl rfl ?_; clear F a; intro a F
            obtain rfl := sinj hm
            refine wpList_nil (then_n ?_); exact ⟨g24, F.sub ⟨rfl, rfl, rfl, rfl, rfl, rfl, rfl, rfl, rfl, rfl, rfl, rfl, trivial⟩, (Le.refl _), S⟩
          clear F S; rintro a w ⟨g25, F, l25, S⟩
          refine wpList_nil ?_
          refine then_n ?_
          obtain ⟨hc10, hm⟩ | ⟨hc10, hm⟩ := ite_or hm
          ·refine wp_condT F rfl hc10 ?_
           refine wp_seq ?_
           refine wp_region_lit ?_
           refine wl_ev (wn rfl) (ev_build (parts := []) (vs := []) rfl (fun w => tb38_  w)) F S rfl rfl ?_; clear F a; intro a F
           refine wl_ev (wn rfl) (ev_build (parts := []) (vs := []) rfl (fun w => tb38_  w)) F S rfl rfl ?_; clear F a; intro a F
           refine wl_ev (wn rfl) (ev_build (parts := []) (vs := []) rfl (fun w => tb24_  w)) F S rfl rfl ?_; clear F a; intro a F
           refine wl_storeC (wn rfl) rfl F S rfl rfl (vs := [nilS]) rfl ts38 (one_cons rfl one_nil) (k := 4) rfl (lb rfl) (c' := #[nilS]) rfl rfl ?_; clear S; intro w S
           replace S : St g25 [[(b8, .cells #[nilS] 38 (0, 0))], [(b7, .cells #[v17] 38 (0, 0))], [(b5, .cells #[.int .i64 0, .int .i64 0] 24 (0, 0))], [(b4, .cells #[nilS] 38 (0, 0))], [(b3, .cells #[nilS] 38 (0, 0))], [(b2, .cells #[vq_1] 38 (0, 0))], [(b1, .cells #[vp_1] 38 (0, 0))], c7] fr w := S
           refine wl_storeC (wn rfl) rfl F S rfl rfl (vs := [nilS]) rfl ts38 (one_cons rfl one_nil) (k := 3) rfl (lb rfl) (c' := #[nilS]) rfl rfl ?_; clear S; intro w S
           replace S : St g25 [[(b8, .cells #[nilS] 38 (0, 0))], [(b7, .cells #[v17] 38 (0, 0))], [(b5, .cells #[.int .i64 0, .int .i64 0] 24 (0, 0))], [(b4, .cells #[nilS] 38 (0, 0))], [(b3, .cells #[nilS] 38 (0, 0))], [(b2, .cells #[vq_1] 38 (0, 0))], [(b1, .cells #[vp_1] 38 (0, 0))], c7] fr w := S
           refine wl_ev (wn rfl) (ev_assign rfl) F S rfl rfl ?_; clear F a; intro a F
           refine wl_storeC (wn rfl) rfl F S rfl rfl (vs := [.int .i64 0, .int .i64 0]) rfl ts24 (one_cons rfl (one_cons rfl one_nil)) (k := 2) rfl (lb rfl) (c' := #[.int .i64 0, .int .i64 0]) rfl rfl ?_; clear S; intro w S
           replace S : St g25 [[(b8, .cells #[nilS] 38 (0, 0))], [(b7, .cells #[v17] 38 (0, 0))], [(b5, .cells #[.int .i64 0, .int .i64 0] 24 (0, 0))], [(b4, .cells #[nilS] 38 (0, 0))], [(b3, .cells #[nilS] 38 (0, 0))], [(b2, .cells #[vq_1] 38 (0, 0))], [(b1, .cells #[vp_1] 38 (0, 0))], c7] fr w := S
           refine wpList_nil ?_
           replace F := F.sub (e' := [(6, .bool false), (7, bp b5 0), (5, bp b4 0), (4, bp b3 0)]) ⟨rfl, rfl, rfl, rfl, trivial⟩
           refine then_n ?_
           refine wp_ret ?_
           refine then_r ?_
           refine inb_r ?_
           refine then_r ?_
           refine then_r ?_
           refine inb_r ?_
           refine then_r ?_
           refine inb_r ?_
           refine then_r ?_
           refine then_r ?_
           refine inb_r ?_
           refine then_r ?_
           obtain rfl := sinj hm
           obtain rfl := hfin4 _ rfl
           clear hm
           have hm : (some (Step.done (Sum.inl (({ Hunks := [] } : Patch), ({ Hunks := [] } : Patch), false, ({ Code := 0, Index := 0 } : Fault)))) : Option (Step (Int × (List Hunk)) ((Patch × Patch × Bool × Fault) ⊕ (List Hunk)))) = some _ := hmo4
           obtain rfl := sinj hm
           obtain rfl := hfin3 _ rfl
           clear hm
           have hm : (some (({ Hunks := [] } : Patch), ({ Hunks := [] } : Patch), false, ({ Code := 0, Index := 0 } : Fault)) : Option (Patch × Patch × Bool × Fault)) = some _ := hmo3
           obtain rfl := sinj hm
           refine post_r (fn := Try.f47) (rs := [.cell 4 38, .cell 5 38, .tmp 6, .cell 7 24]) [.agg #[nilS], .agg #[nilS], .bool false, .agg #[.int .i64 0, .int .i64 0]] F rfl (ar_cons (resA rfl tu38 rfl ts38 (box_ptr (cells := [nilS]) 4 rfl 0 rfl (lb rfl) w S)) (ar_cons (resA rfl tu38 rfl ts38 (box_ptr (cells := [nilS]) 3 rfl 0 rfl (lb rfl) w S)) (ar_cons (resT rfl) (ar_cons (resA rfl tu24 rfl ts24 (box_ptr (cells := [.int .i64 0, .int .i64 0]) 2 rfl 0 rfl (lb rfl) w S)) ar_nil)))) ?_
           replace S : St g25 [] fr w := St.tail [] _ S
           exact ⟨_, rfl, g25, (nilS), (nilS), ((((l1.trans l18).trans l22).trans l24).trans l25), S, (RepSl.nil _), (RepSl.nil _), rfl⟩
          ·refine wp_condF F rfl hc10 ?_
           refine wp_skip ?_
           refine then_n ?_
           refine wp_seq ?_
           refine wp_region_lit ?_
           refine wl_ev (wn rfl) (ev_move rfl) F S rfl rfl ?_; clear F a; intro a F
           refine wl_ev (wn rfl) (ev_fieldAddr' tu38 tf38_0 (z := 0) ts36 rfl ⟨_, rfl⟩ rfl) F S rfl rfl ?_; clear F a; intro a F
           refine wl_ev (wn rfl) (ev_load1 tu36 rfl rfl (box_ptr (cells := [vq_1]) 5 rfl 0 rfl (lb rfl))) F S rfl rfl ?_; clear F a; intro a F
           refine wl_ev (wn rfl) (ev_move rfl) F S rfl rfl ?_; clear F a; intro a F
           obtain ⟨y20, hy20, hm⟩ := bind_some hm
           obtain ⟨cs10, hr14, hp8⟩ := elemS (hq_1.mono ((((l1.trans l18).trans l22).trans l24).trans l25)) hy20
           obtain ⟨v29, v30, rfl, h31, h32⟩ := rep_Hunk hr14
           refine wl_ev (wn rfl) (ev_idxS (hq_1.mono ((((l1.trans l18).trans l22).trans l24).trans l25)) hy20 tu36 ts60 rfl rfl) F S rfl rfl ?_; clear F a; intro a F
           have hp9 := PtrC.field hp8 0 1 (lb rfl)
           have hp9 : PtrC g25 (addP (elemP vq_1 x13 3) 0) [.int .i64 y20.At] := hp9
           refine wl_ev (wn rfl) (ev_fieldAddr' tu60 tf60_0 (z := 0) ts3 rfl hp8.ptr rfl) F S rfl rfl ?_; clear F a; intro a F
           refine wl_ev (wn rfl) (ev_load1 tu3 rfl rfl (ptr_mono (cks := [[(b8, .cells #[nilS] 38 (0, 0))], [(b7, .cells #[v17] 38 (0, 0))], [(b5, .cells #[.int .i64 0, .int .i64 0] 24 (0, 0))], [(b4, .cells #[nilS] 38 (0, 0))], [(b3, .cells #[nilS] 38 (0, 0))], [(b2, .cells #[vq_1] 38 (0, 0))], [(b1, .cells #[vp_1] 38 (0, 0))], c7]) (fr := fr) hp9 (Le.refl _))) F S rfl rfl ?_; clear F a; intro a F
           refine wl_ev (wn rfl) (ev_int rfl rfl (bo_lss _ _ _ _)) F S rfl rfl ?_; clear F a; intro a F
           refine wpList_nil ?_
           replace F := F.sub (e' := [(76, .bool (decide (y16.2 < y20.At))), (13, .int .i64 x18), (12, .int .i64 x19), (11, .int .i64 x13), (10, bp b8 0), (9, bp b7 0), (7, bp b5 0), (5, bp b4 0), (4, bp b3 0), (3, bp b2 0), (2, bp b1 0)]) ⟨rfl, rfl, rfl, rfl, rfl, rfl, rfl, rfl, rfl, rfl, rfl, trivial⟩
           refine then_n ?_
           obtain ⟨hc11, hm⟩ | ⟨hc11, hm⟩ := ite_or hm
           ·refine wp_condT F rfl hc11 ?_
            refine wp_region_lit ?_
            refine wl_ev (wn rfl) (ev_move rfl) F S rfl rfl ?_; clear F a; intro a F
            refine wl_ev (wn rfl) (ev_fieldAddr' tu38 tf38_0 (z := 0) ts36 rfl ⟨_, rfl⟩ rfl) F S rfl rfl ?_; clear F a; intro a F
            refine wl_ev (wn rfl) (ev_load1 tu36 rfl rfl (box_ptr (cells := [vp_1]) 6 rfl 0 rfl (lb rfl))) F S rfl rfl ?_; clear F a; intro a F
            refine wl_ev (wn rfl) (ev_move rfl) F S rfl rfl ?_; clear F a; intro a F
            obtain ⟨y21, hy21, hm⟩ := bind_some hm
            obtain ⟨cs11, hr15, hp10⟩ := elemS (hp_1.mono ((((l1.trans l18).trans l22).trans l24).trans l25)) hy21
            obtain ⟨v31, v32, rfl, h33, h34⟩ := rep_Hunk hr15
            refine wl_ev (wn rfl) (ev_idxS (hp_1.mono ((((l1.trans l18).trans l22).trans l24).trans l25)) hy21 tu36 ts60 rfl rfl) F S rfl rfl ?_; clear F a; intro a F
            refine wl_ev (wn rfl) (ev_loadA tu60 rfl (cs := [.int .i64 y21.At, v31, v32]) ts60 rfl (ptr_mono (cks := [[(b8, .cells #[nilS] 38 (0, 0))], [(b7, .cells #[v17] 38 (0, 0))], [(b5, .cells #[.int .i64 0, .int .i64 0] 24 (0, 0))], [(b4, .cells #[nilS] 38 (0, 0))], [(b3, .cells #[nilS] 38 (0, 0))], [(b2, .cells #[vq_1] 38 (0, 0))], [(b1, .cells #[vp_1] 38 (0, 0))], c7]) (fr := fr) hp10 (Le.refl _))) F S rfl rfl ?_; clear F a; intro a F
            obtain ⟨y22, hy22, hm⟩ := bind_some hm
            refine wl_call (wn rfl) rfl (xs := [.tmp 82]) (vs := [.agg #[.int .i64 y21.At, v31, v32]]) (cap := []) F rfl rfl tc63 (changeforgeref1_Growth_ok (g := g25) (fr := (fl [[(b8, .cells #[nilS] 38 (0, 0))], [(b7, .cells #[v17] 38 (0, 0))], [(b5, .cells #[.int .i64 0, .int .i64 0] 24 (0, 0))], [(b4, .cells #[nilS] 38 (0, 0))], [(b3, .cells #[nilS] 38 (0, 0))], [(b2, .cells #[vq_1] 38 (0, 0))], [(b1, .cells #[vp_1] 38 (0, 0))], c7] fr)) (w := w) y21 v31 h33 v32 h34 S hy22) rfl rfl ?_; clear F a S
            rintro _ a w ⟨g27, l27, S, rfl⟩ F; replace S : St g27 [[(b8, .cells #[nilS] 38 (0, 0))], [(b7, .cells #[v17] 38 (0, 0))], [(b5, .cells #[.int .i64 0, .int .i64 0] 24 (0, 0))], [(b4, .cells #[nilS] 38 (0, 0))], [(b3, .cells #[nilS] 38 (0, 0))], [(b2, .cells #[vq_1] 38 (0, 0))], [(b1, .cells #[vp_1] 38 (0, 0))], c7] fr w := S
            obtain ⟨z6, hz6, hm⟩ := bind_some hm
            refine wl_ev (wn rfl) (ev_int rfl rfl (bo_sub hz6)) F S rfl rfl ?_; clear F a; intro a F
            refine wl_ev (wn rfl) (ev_assign rfl) F S rfl rfl ?_; clear F a; intro a F
            refine wpList_nil ?_
            replace F := F.sub (e' := [(12, .int .i64 z6), (13, .int .i64 x18), (11, .int .i64 x13), (10, bp b8 0), (9, bp b7 0), (7, bp b5 0), (5, bp b4 0), (4, bp b3 0), (3, bp b2 0), (2, bp b1 0)]) ⟨rfl, rfl, rfl, rfl, rfl, rfl, rfl, rfl, rfl, rfl, trivial⟩
            refine inb_n ?_
            refine then_n ?_
            exact ⟨z6, g27, F.sub ⟨rfl, rfl, rfl, rfl, rfl, rfl, rfl, rfl, rfl, rfl, trivial⟩, ((l24.trans l25).trans l27), S, hm⟩
           ·refine wp_condF F rfl hc11 ?_
            refine wp_skip ?_
            refine inb_n ?_
            refine then_n ?_
            exact ⟨x19, g25, F.sub ⟨rfl, rfl, rfl, rfl, rfl, rfl, rfl, rfl, rfl, rfl, trivial⟩, (l24.trans l25), S, hm⟩
         ·clear F S hm; rintro a w ⟨x21, g23, F, l23, S, hm⟩
          refine wp_region_lit ?_
          refine wl_ev (wn rfl) (ev_move rfl) F S rfl rfl ?_; clear F a; intro a F
          obtain ⟨z5, hz5, hm⟩ := bind_some hm
          refine wl_ev (wn rfl) (ev_int rfl rfl (bo_add hz5)) F S rfl rfl ?_; clear F a; intro a F
          refine wl_ev (wn rfl) (ev_assign rfl) F S rfl rfl ?_; clear F a; intro a F
          refine wpList_nil ?_
          replace F := F.sub (e' := [(13, .int .i64 z5), (12, .int .i64 x21), (11, .int .i64 x13), (10, bp b8 0), (9, bp b7 0), (7, bp b5 0), (5, bp b4 0), (4, bp b3 0), (3, bp b2 0), (2, bp b1 0)]) ⟨rfl, rfl, rfl, rfl, rfl, rfl, rfl, rfl, rfl, rfl, trivial⟩
          refine then_n ?_
          obtain rfl := sinj hm
          refine ⟨_, rfl, ?_⟩
          dsimp only
          exact ⟨g23, F.sub ⟨rfl, rfl, rfl, rfl, rfl, rfl, rfl, rfl, rfl, rfl, trivial⟩, (l22.trans l23), S⟩
        ·refine wp_condF F rfl hc8 ?_
         refine wp_exit ?_
         refine then_e ?_
         refine then_e ?_
         refine inb_x ?_
         refine then_n ?_
         obtain rfl := sinj hm
         obtain rfl := hfin4 _ rfl
         clear hm
         have hm : (changeforgeref1_Commute.j7 q_ x13 x14 x19 : Option (Step (Int × (List Hunk)) ((Patch × Patch × Bool × Fault) ⊕ (List Hunk)))) = some _ := hmo4
         exact ⟨x19, g22, F.sub ⟨rfl, rfl, rfl, rfl, rfl, rfl, rfl, rfl, rfl, trivial⟩, l22, S, hm⟩
      ·clear F S hm; rintro a w ⟨x17, g20, F, l20, S, hm⟩
       obtain ⟨y13, hy13, hm⟩ := bind_some hm
       obtain ⟨y14, hy14, hm⟩ := bind_some hm
       obtain ⟨y15, hy15, hm⟩ := bind_some hm
       refine wp_drawL ⟨8, [[85], [86], [87], [88], [89], [90], [91], [92], [93], [94], [95], [96], [95]], [[], [], [], [], [], [], [], [], [], [], [20], [], [14]], [[], [14], [], [18], [], [], [], [], [], [], [9], [], []], [[9], [], [3], [], [11], [], [], [12], [], [], [], [9], []], [[], [0], [], [2], [], [3, 4], [5], [], [6, 7], [8], [1, 9], [], [10, 11]], [11, 10, 9, 7, 5, 4, 3, 2], [0, 1, 2, 3, 4, 5, 6, 7, 8, 9, 10, 11, 12, 13, 15, 16, 17, 18, 19]⟩
        [([85], fun us g c => us = [bp b7 0]),
         ([86], fun us g c => us = [v17]),
         ([87], fun us g c => us = [bp b2 0]),
         ([88], fun us g c => us = [vq_1]),
         ([89], fun us g c => us = [.int .i64 x13]),
         ([90], fun us g c => ∃ v19 : Value, ∃ v20 : Value, us = [(elemP vq_1 x13 3)] ∧ RepSl g y13.Old v19 ∧ RepSl g y13.New v20 ∧ PtrC g (elemP vq_1 x13 3) [.int .i64 y13.At, v19, v20]),
         ([91], fun us g c => ∃ v19 : Value, ∃ v20 : Value, us = [.agg #[.int .i64 y13.At, v19, v20]] ∧ RepSl g y13.Old v19 ∧ RepSl g y13.New v20),
         ([92], fun us g c => us = [.int .i64 x17]),
         ([93], fun us g c => ∃ v21 : Value, ∃ v22 : Value, us = [.agg #[.int .i64 y14.At, v21, v22]] ∧ RepSl g y14.Old v21 ∧ RepSl g y14.New v22),
         ([94], fun us g c => ∃ v23 : Value, us = [v23] ∧ OwnS g ([y14] : List Hunk) v23 c),
         ([95], fun us g c => ∃ v24 : Value, us = [v24] ∧ OwnS g y15 v24 c),
         ([96], fun us g c => us = [bp b7 0]),
         ([95], fun us g c => ∃ v24 : Value, us = [v24] ∧ c = [(b7, .cells #[v24] 38 (0, 0))])]
        mo (by kernel_rfl) rfl rfl ⟨fun _ _ _ _ _ h => h, fun _ _ _ _ _ h => h, fun _ _ _ _ _ h => h, fun _ _ _ _ _ h => h, fun _ _ _ _ _ h => h, fun _ _ _ _ l ⟨x0, x1, e0, h0, h1, h2⟩ => ⟨x0, x1, e0, h0.mono l, h1.mono l, h2.mono l⟩, fun _ _ _ _ l ⟨x0, x1, e0, h0, h1⟩ => ⟨x0, x1, e0, h0.mono l, h1.mono l⟩, fun _ _ _ _ _ h => h, fun _ _ _ _ l ⟨x0, x1, e0, h0, h1⟩ => ⟨x0, x1, e0, h0.mono l, h1.mono l⟩, fun _ _ _ _ l ⟨x0, e0, h0⟩ => ⟨x0, e0, h0.mono l⟩, fun _ _ _ _ l ⟨x0, e0, h0⟩ => ⟨x0, e0, h0.mono l⟩, fun _ _ _ _ _ h => h, fun _ _ _ _ _ h => h, trivial⟩ F S ⟨?_, ?_, ?_, ?_, ?_, ?_, ?_, ?_, ?_, ?_, ?_, ?_, ?_, trivial⟩ ?_
       ·intro a w gd16 c fr hsz hdf hK ld16 hN hI S
        have F : Fr 160 a [(9, bp b7 0)] := Fr.of hsz hdf ⟨hK 9 (by decide) _ rfl, trivial⟩
        replace S : St gd16 [] fr w := S.of_eq (flat2 _ _ _ _)
        refine wl_ev (wn rfl) (ev_fieldAddr' tu38 tf38_0 (z := 0) ts36 rfl ⟨_, rfl⟩ rfl) F S rfl rfl ?_; clear F; intro a F
        refine wpList_nil ⟨rfl, F.sz, F.df, _, [], (Le.refl _), ?_, (lst1 (F.get 85 _ rfl))⟩
        refine St0.of_eq ?_ (flat3 c [] [] fr).symm
        show St0 _ (fl ([] ++ []) fr) _
        exact S
       ·intro a w gd16 c fr hsz hdf hK ld16 hN hI S
        have e0 := hN 0 (by decide)
        have e85x : val a 85 = bp b7 0 := nth e0 0
        have F : Fr 160 a [(85, bp b7 0)] := Fr.of hsz hdf ⟨e85x, trivial⟩
        replace S : St gd16 [c 14] fr w := S.of_eq (flat2 _ _ _ _)
        have q14 : c 14 = [(b7, .cells #[v17] 38 (0, 0))] := hI 1 _ rfl
        rw [q14] at S
        refine wl_ev (wn rfl) (ev_load1 tu36 rfl rfl (box_ptr (cells := [v17]) 0 rfl 0 rfl (lb rfl))) F S rfl rfl ?_; clear F; intro a F
        refine wpList_nil ⟨rfl, F.sz, F.df, _, [], (Le.refl _), ?_, (lst1 (F.get 86 _ rfl))⟩
        refine St0.of_eq ?_ (flat3 c [] [14] fr).symm
        show St0 _ (fl ([] ++ [c 14]) fr) _
        rw [q14]
        exact S
       ·intro a w gd16 c fr hsz hdf hK ld16 hN hI S
        have F : Fr 160 a [(3, bp b2 0)] := Fr.of hsz hdf ⟨hK 3 (by decide) _ rfl, trivial⟩
        replace S : St gd16 [] fr w := S.of_eq (flat2 _ _ _ _)
        refine wl_ev (wn rfl) (ev_fieldAddr' tu38 tf38_0 (z := 0) ts36 rfl ⟨_, rfl⟩ rfl) F S rfl rfl ?_; clear F; intro a F
        refine wpList_nil ⟨rfl, F.sz, F.df, _, [], (Le.refl _), ?_, (lst1 (F.get 87 _ rfl))⟩
        refine St0.of_eq ?_ (flat3 c [] [] fr).symm
        show St0 _ (fl ([] ++ []) fr) _
        exact S
       ·intro a w gd16 c fr hsz hdf hK ld16 hN hI S
        have e2 := hN 2 (by decide)
        have e87x : val a 87 = bp b2 0 := nth e2 0
        have F : Fr 160 a [(87, bp b2 0)] := Fr.of hsz hdf ⟨e87x, trivial⟩
        replace S : St gd16 [c 18] fr w := S.of_eq (flat2 _ _ _ _)
        have q18 : c 18 = [(b2, .cells #[vq_1] 38 (0, 0))] := hI 5 _ rfl
        rw [q18] at S
        refine wl_ev (wn rfl) (ev_load1 tu36 rfl rfl (box_ptr (cells := [vq_1]) 0 rfl 0 rfl (lb rfl))) F S rfl rfl ?_; clear F; intro a F
        refine wpList_nil ⟨rfl, F.sz, F.df, _, [], (Le.refl _), ?_, (lst1 (F.get 88 _ rfl))⟩
        refine St0.of_eq ?_ (flat3 c [] [18] fr).symm
        show St0 _ (fl ([] ++ [c 18]) fr) _
        rw [q18]
        exact S
       ·intro a w gd16 c fr hsz hdf hK ld16 hN hI S
        have F : Fr 160 a [(11, .int .i64 x13)] := Fr.of hsz hdf ⟨hK 11 (by decide) _ rfl, trivial⟩
        replace S : St gd16 [] fr w := S.of_eq (flat2 _ _ _ _)
        refine wl_ev (wn rfl) (ev_move rfl) F S rfl rfl ?_; clear F; intro a F
        refine wpList_nil ⟨rfl, F.sz, F.df, _, [], (Le.refl _), ?_, (lst1 (F.get 89 _ rfl))⟩
        refine St0.of_eq ?_ (flat3 c [] [] fr).symm
        show St0 _ (fl ([] ++ []) fr) _
        exact S
       ·intro a w gd16 c fr hsz hdf hK ld16 hN hI S
        have e3 := hN 3 (by decide)
        have e88x : val a 88 = vq_1 := nth e3 0
        have e4 := hN 4 (by decide)
        have e89x : val a 89 = .int .i64 x13 := nth e4 0
        have F : Fr 160 a [(88, vq_1), (89, .int .i64 x13)] := Fr.of hsz hdf ⟨e88x, e89x, trivial⟩
        replace S : St gd16 [] fr w := S.of_eq (flat2 _ _ _ _)
        obtain ⟨cs6, hr9, hp4⟩ := elemS (hq_1.mono (((l1.trans l18).trans l20).trans ld16)) hy13
        obtain ⟨v19, v20, rfl, h21, h22⟩ := rep_Hunk hr9
        refine wl_ev (wn rfl) (ev_idxS (hq_1.mono (((l1.trans l18).trans l20).trans ld16)) hy13 tu36 ts60 rfl rfl) F S rfl rfl ?_; clear F; intro a F
        refine wpList_nil ⟨rfl, F.sz, F.df, _, [], (Le.refl _), ?_, ⟨v19, v20, (lst1 (F.get 90 _ rfl)), h21, h22, hp4⟩⟩
        refine St0.of_eq ?_ (flat3 c [] [] fr).symm
        show St0 _ (fl ([] ++ []) fr) _
        exact S
       ·intro a w gd16 c fr hsz hdf hK ld16 hN hI S
        obtain ⟨lv1, lv2, e5, lh3, lh4, lh5⟩ := hN 5 (by decide)
        have e90x : val a 90 = (elemP vq_1 x13 3) := nth e5 0
        have F : Fr 160 a [(90, (elemP vq_1 x13 3))] := Fr.of hsz hdf ⟨e90x, trivial⟩
        replace S : St gd16 [] fr w := S.of_eq (flat2 _ _ _ _)
        refine wl_ev (wn rfl) (ev_loadA tu60 rfl (cs := [.int .i64 y13.At, lv1, lv2]) ts60 rfl (ptr_mono (cks := []) (fr := fr) lh5 (Le.refl _))) F S rfl rfl ?_; clear F; intro a F
        refine wpList_nil ⟨rfl, F.sz, F.df, _, [], (Le.refl _), ?_, ⟨lv1, lv2, (lst1 (F.get 91 _ rfl)), lh3, lh4⟩⟩
        refine St0.of_eq ?_ (flat3 c [] [] fr).symm
        show St0 _ (fl ([] ++ []) fr) _
        exact S
       ·intro a w gd16 c fr hsz hdf hK ld16 hN hI S
        have F : Fr 160 a [(12, .int .i64 x17)] := Fr.of hsz hdf ⟨hK 12 (by decide) _ rfl, trivial⟩
        replace S : St gd16 [] fr w := S.of_eq (flat2 _ _ _ _)
        refine wl_ev (wn rfl) (ev_move rfl) F S rfl rfl ?_; clear F; intro a F
        refine wpList_nil ⟨rfl, F.sz, F.df, _, [], (Le.refl _), ?_, (lst1 (F.get 92 _ rfl))⟩
        refine St0.of_eq ?_ (flat3 c [] [] fr).symm
        show St0 _ (fl ([] ++ []) fr) _
        exact S
       ·intro a w gd16 c fr hsz hdf hK ld16 hN hI S
        obtain ⟨v19, v20, e6, lh3, lh4⟩ := hN 6 (by decide)
        have e91x : val a 91 = .agg #[.int .i64 y13.At, v19, v20] := nth e6 0
        have e7 := hN 7 (by decide)
        have e92x : val a 92 = .int .i64 x17 := nth e7 0
        have F : Fr 160 a [(91, .agg #[.int .i64 y13.At, v19, v20]), (92, .int .i64 x17)] := Fr.of hsz hdf ⟨e91x, e92x, trivial⟩
        replace S : St gd16 [] fr w := S.of_eq (flat2 _ _ _ _)
        refine wl_call (wn rfl) rfl (xs := [.tmp 91, .tmp 92]) (vs := [.agg #[.int .i64 y13.At, v19, v20], .int .i64 x17]) (cap := []) F rfl rfl tc64 (changeforgeref1_moved_ok (g := gd16) (fr := fr) (w := w) y13 v19 lh3 v20 lh4 x17 S hy14) rfl rfl ?_; clear F S
        rintro _ a w ⟨g21, v21, v22, l21, S, h23, h24, rfl⟩ F; replace S : St g21 [] fr w := S
        refine wpList_nil ⟨rfl, F.sz, F.df, _, [], l21, ?_, ⟨v21, v22, (lst1 (F.get 93 _ rfl)), h23, h24⟩⟩
        refine St0.of_eq ?_ (flat3 c [] [] fr).symm
        show St0 _ (fl ([] ++ []) fr) _
        exact S
       ·intro a w gd16 c fr hsz hdf hK ld16 hN hI S
        obtain ⟨v21, v22, e8, lh3, lh4⟩ := hN 8 (by decide)
        have e93x : val a 93 = .agg #[.int .i64 y14.At, v21, v22] := nth e8 0
        have F : Fr 160 a [(93, .agg #[.int .i64 y14.At, v21, v22])] := Fr.of hsz hdf ⟨e93x, trivial⟩
        replace S : St gd16 [] fr w := S.of_eq (flat2 _ _ _ _)
        refine wl_lit (l := ([y14] : List Hunk)) (vs := [.agg #[.int .i64 y14.At, v21, v22]]) (parts := [(0, .tmp 93)]) (wn rfl) rfl rfl rfl tu36 te60 (sz_cons rfl sz_nil) rfl (Cat.cons (rep_Hunk_mk (x := y14) lh3 lh4) (Cat.nil _)) (coa_cons rfl coa_nil) rfl F S rfl rfl ?_; clear F S
        rintro v23 c9 a w h25 F S
        refine wpList_nil ⟨rfl, F.sz, F.df, _, c9, (Le.refl _), ?_, ⟨v23, (lst1 (F.get 94 _ rfl)), h25⟩⟩
        refine St0.of_eq ?_ (flat3s c (c9) [] fr).symm
        show St0 _ (fl ([c9] ++ []) fr) _
        exact S
       ·intro a w gd16 c fr hsz hdf hK ld16 hN hI S
        have e1 := hN 1 (by decide)
        have e86x : val a 86 = v17 := nth e1 0
        obtain ⟨v23, e9, lh3⟩ := hN 9 (by decide)
        have e94x : val a 94 = v23 := nth e9 0
        have F : Fr 160 a [(86, v17), (94, v23)] := Fr.of hsz hdf ⟨e86x, e94x, trivial⟩
        replace S : St gd16 [c 20, c 9] fr w := S.of_eq (flat2 _ _ _ _)
        have q20 : c 20 = c7 := hI 7 _ rfl
        rw [q20] at S
        obtain ⟨cs7, hk2, hr10⟩ := OwnS.reads lh3
        refine wl_append (wn rfl) rfl tu36 tu36 te60 (by decide) (by decide) F S rfl rfl (k := 0) rfl (h19.mono (l20.trans ld16)) hk2 rfl (hr10 _ _ _ 1 rfl S) hy15 rfl rfl ?_; clear F S
        rintro v24 c10 a w h26 S F; replace S : St gd16 [c10, (c 9)] fr w := S
        refine wpList_nil ⟨rfl, F.sz, F.df, _, c10, (Le.refl _), ?_, ⟨v24, (lst1 (F.get 95 _ rfl)), h26⟩⟩
        refine St0.of_eq ?_ (flat3s c (c10) [9] fr).symm
        show St0 _ (fl ([c10] ++ [c 9]) fr) _
        exact S
       ·intro a w gd16 c fr hsz hdf hK ld16 hN hI S
        have F : Fr 160 a [(9, bp b7 0)] := Fr.of hsz hdf ⟨hK 9 (by decide) _ rfl, trivial⟩
        replace S : St gd16 [] fr w := S.of_eq (flat2 _ _ _ _)
        refine wl_ev (wn rfl) (ev_fieldAddr' tu38 tf38_0 (z := 0) ts36 rfl ⟨_, rfl⟩ rfl) F S rfl rfl ?_; clear F; intro a F
        refine wpList_nil ⟨rfl, F.sz, F.df, _, [], (Le.refl _), ?_, (lst1 (F.get 96 _ rfl))⟩
        refine St0.of_eq ?_ (flat3 c [] [] fr).symm
        show St0 _ (fl ([] ++ []) fr) _
        exact S
       ·intro a w gd16 c fr hsz hdf hK ld16 hN hI S
        obtain ⟨v24, e10, lh3⟩ := hN 10 (by decide)
        have e95x : val a 95 = v24 := nth e10 0
        have e11 := hN 11 (by decide)
        have e96x : val a 96 = bp b7 0 := nth e11 0
        have F : Fr 160 a [(95, v24), (96, bp b7 0)] := Fr.of hsz hdf ⟨e95x, e96x, trivial⟩
        replace S : St gd16 [c 14] fr w := S.of_eq (flat2 _ _ _ _)
        have q14 : c 14 = [(b7, .cells #[v17] 38 (0, 0))] := hI 1 _ rfl
        rw [q14] at S
        refine wl_storeC (wn rfl) rfl F S rfl rfl (vs := [v24]) (OwnS.cl lh3) ts36 (one_cons (OwnS.one lh3) one_nil) (k := 0) rfl (lb rfl) (c' := #[v24]) rfl rfl ?_; clear S; intro w S
        replace S : St gd16 [[(b7, .cells #[v24] 38 (0, 0))]] fr w := S
        refine wpList_nil ⟨rfl, F.sz, F.df, _, [(b7, .cells #[v24] 38 (0, 0))], (Le.refl _), ?_, ⟨v24, (lst1 (F.get 95 _ rfl)), rfl⟩⟩
        refine St0.of_eq ?_ (flat3s c ([(b7, .cells #[v24] 38 (0, 0))]) [] fr).symm
        show St0 _ (fl ([[(b7, .cells #[v24] 38 (0, 0))]] ++ []) fr) _
        exact S
       clear F S; intro a w gd16 c hsz hdf hK ld16 hI S hN
       obtain ⟨v23, e9, lh3⟩ := hN 9 (by decide)
       have e94x : val a 94 = v23 := nth e9 0
       obtain ⟨v24, e10, lh4⟩ := hN 10 (by decide)
       have e95x : val a 95 = v24 := nth e10 0
       obtain ⟨dup2, e12, q12⟩ := hN 12 (by decide)
       obtain rfl : v24 = dup2 := by have hq := e95x.symm.trans (nth e12 0); simp at hq; first | exact hq | exact hq.1 | exact hq.2 | exact hq.2.1 | exact hq.2.2
       have F : Fr 160 a [(11, .int .i64 x13), (10, bp b8 0), (9, bp b7 0), (7, bp b5 0), (5, bp b4 0), (4, bp b3 0), (3, bp b2 0), (2, bp b1 0)] := Fr.of hsz hdf ⟨hK 11 (by decide) _ rfl, hK 10 (by decide) _ rfl, hK 9 (by decide) _ rfl, hK 7 (by decide) _ rfl, hK 5 (by decide) _ rfl, hK 4 (by decide) _ rfl, hK 3 (by decide) _ rfl, hK 2 (by decide) _ rfl, trivial⟩
       replace S : St gd16 [c 0, c 1, c 2, c 3, c 4, c 5, c 6, c 7, c 8, c 9, c 10, c 11, c 12, c 13, c 15, c 16, c 17, c 18, c 19] fr w := S.of_eq (flat_fl _ _ _)
       generalize c 9 = c9 at *
       generalize c 10 = c10 at *
       rw [q12] at S
       have q13 : c 13 = [(b8, .cells #[nilS] 38 (0, 0))] := hI 0 _ rfl
       rw [q13] at S
       have q15 : c 15 = [(b5, .cells #[.int .i64 0, .int .i64 0] 24 (0, 0))] := hI 2 _ rfl
       rw [q15] at S
       have q16 : c 16 = [(b4, .cells #[nilS] 38 (0, 0))] := hI 3 _ rfl
       rw [q16] at S
       have q17 : c 17 = [(b3, .cells #[nilS] 38 (0, 0))] := hI 4 _ rfl
       rw [q17] at S
       have q18 : c 18 = [(b2, .cells #[vq_1] 38 (0, 0))] := hI 5 _ rfl
       rw [q18] at S
       have q19 : c 19 = [(b1, .cells #[vp_1] 38 (0, 0))] := hI 6 _ rfl
       rw [q19] at S
       replace S : St gd16 [c10, [(b7, .cells #[v24] 38 (0, 0))], [(b8, .cells #[nilS] 38 (0, 0))], [(b5, .cells #[.int .i64 0, .int .i64 0] 24 (0, 0))], [(b4, .cells #[nilS] 38 (0, 0))], [(b3, .cells #[nilS] 38 (0, 0))], [(b2, .cells #[vq_1] 38 (0, 0))], [(b1, .cells #[vp_1] 38 (0, 0))]] fr w := St.tail [c10, [(b7, .cells #[v24] 38 (0, 0))], [(b8, .cells #[nilS] 38 (0, 0))], [(b5, .cells #[.int .i64 0, .int .i64 0] 24 (0, 0))], [(b4, .cells #[nilS] 38 (0, 0))], [(b3, .cells #[nilS] 38 (0, 0))], [(b2, .cells #[vq_1] 38 (0, 0))], [(b1, .cells #[vp_1] 38 (0, 0))]] _ ((((((((S.frontC 18 rfl).frontC 18 rfl).frontC 18 rfl).frontC 18 rfl).frontC 18 rfl).frontC 18 rfl).frontC 18 rfl).frontC 17 rfl)
       clear hK hI hN hsz hdf e9 e10 e12 e94x e95x
       refine inb_n ?_
       refine then_n ?_
       replace S : St gd16 [[(b8, .cells #[nilS] 38 (0, 0))], [(b7, .cells #[v24] 38 (0, 0))], [(b5, .cells #[.int .i64 0, .int .i64 0] 24 (0, 0))], [(b4, .cells #[nilS] 38 (0, 0))], [(b3, .cells #[nilS] 38 (0, 0))], [(b2, .cells #[vq_1] 38 (0, 0))], [(b1, .cells #[vp_1] 38 (0, 0))], c10] fr w := St.tail [[(b8, .cells #[nilS] 38 (0, 0))], [(b7, .cells #[v24] 38 (0, 0))], [(b5, .cells #[.int .i64 0, .int .i64 0] 24 (0, 0))], [(b4, .cells #[nilS] 38 (0, 0))], [(b3, .cells #[nilS] 38 (0, 0))], [(b2, .cells #[vq_1] 38 (0, 0))], [(b1, .cells #[vp_1] 38 (0, 0))], c10] _ ((((((((S.frontC 0 rfl).frontC 8 rfl).frontC 8 rfl).frontC 8 rfl).frontC 8 rfl).frontC 8 rfl).frontC 7 rfl).frontC 9 rfl)
       exact ⟨y15, v24, c10, gd16, F.sub ⟨rfl, rfl, rfl, rfl, rfl, rfl, rfl, rfl, trivial⟩, (l20.trans ld16), S, lh4, hm⟩
     ·clear F S hm; rintro a w ⟨x16, v18, c8, g19, F, l19, S, h20, hm⟩
      refine wp_region_lit ?_
      refine wl_ev (wn rfl) (ev_move rfl) F S rfl rfl ?_; clear F a; intro a F
      obtain ⟨z4, hz4, hm⟩ := bind_some hm
      refine wl_ev (wn rfl) (ev_int rfl rfl (bo_add hz4)) F S rfl rfl ?_; clear F a; intro a F
      refine wl_ev (wn rfl) (ev_assign rfl) F S rfl rfl ?_; clear F a; intro a F
      refine wpList_nil ?_
      replace F := F.sub (e' := [(11, .int .i64 z4), (10, bp b8 0), (9, bp b7 0), (7, bp b5 0), (5, bp b4 0), (4, bp b3 0), (3, bp b2 0), (2, bp b1 0)]) ⟨rfl, rfl, rfl, rfl, rfl, rfl, rfl, rfl, trivial⟩
      refine then_n ?_
      obtain rfl := sinj hm
      refine ⟨_, rfl, ?_⟩
      dsimp only
      exact ⟨v18, c8, g19, F.sub ⟨rfl, rfl, rfl, rfl, rfl, rfl, rfl, rfl, trivial⟩, (l18.trans l19), S, h20⟩
    ·refine wp_condF F rfl hc7 ?_
     refine wp_exit ?_
     refine then_e ?_
     refine then_e ?_
     refine inb_x ?_
     refine then_n ?_
     obtain rfl := sinj hm
     obtain rfl := hfin3 _ rfl
     clear hm
     have hm : (changeforgeref1_Commute.j1 p_ x14 : Option (Patch × Patch × Bool × Fault)) = some _ := hmo3
     replace S : St g18 [[(b8, .cells #[nilS] 38 (0, 0))], [(b7, .cells #[v17] 38 (0, 0))], [(b5, .cells #[.int .i64 0, .int .i64 0] 24 (0, 0))], [(b4, .cells #[nilS] 38 (0, 0))], [(b3, .cells #[nilS] 38 (0, 0))], [(b1, .cells #[vp_1] 38 (0, 0))], c7] fr w := St.tail [[(b8, .cells #[nilS] 38 (0, 0))], [(b7, .cells #[v17] 38 (0, 0))], [(b5, .cells #[.int .i64 0, .int .i64 0] 24 (0, 0))], [(b4, .cells #[nilS] 38 (0, 0))], [(b3, .cells #[nilS] 38 (0, 0))], [(b1, .cells #[vp_1] 38 (0, 0))], c7] _ (((((((S.frontC 7 rfl).frontC 7 rfl).frontC 6 rfl).frontC 6 rfl).frontC 6 rfl).frontC 6 rfl).frontC 6 rfl)
     exact ⟨x14, v17, c7, g18, F.sub ⟨rfl, rfl, rfl, rfl, rfl, rfl, trivial⟩, l18, S, h19, hm⟩
  ·clear F S hm; rintro a w ⟨x1, v1, c1, g2, F, l2, S, h1, hm⟩
   refine wp_cut (fun a w => ∃ (x2 : List Hunk) (v2 : Value) (c2 : Hl) (g3 : Gh), Fr 160 a [(10, bp b8 0), (9, bp b7 0), (7, bp b5 0), (5, bp b4 0), (4, bp b3 0)] ∧ Le g2 g3 ∧ St g3 [[(b8, .cells #[v2] 38 (0, 0))], [(b7, .cells #[v1] 38 (0, 0))], [(b5, .cells #[.int .i64 0, .int .i64 0] 24 (0, 0))], [(b4, .cells #[nilS] 38 (0, 0))], [(b3, .cells #[nilS] 38 (0, 0))], c2, c1] fr w ∧ OwnS g3 x2 v2 c2 ∧ changeforgeref1_Commute.j2 x1 x2 = some r) ?_ ?_
   ·refine wp_seq ?_
    refine wp_region_lit ?_
    refine wl_ev (wn rfl) (ev_assign rfl) F S rfl rfl ?_; clear F a; intro a F
    refine wpList_nil ?_
    refine then_n ?_
    refine wp_block ?_
    obtain ⟨r1, hr1, hm⟩ := bind_some hm
    have hmo1 := hm; clear hm
    refine wp_iter (σ := Int × (List Hunk)) (ρ := (List Hunk)) (m := fun s => changeforgeref1_Commute.l1 p_ x1 s.1 s.2) (I := fun s a w => match s with | (x4, x5) => ∃ (v3 : Value) (c3 : Hl) (g10 : Gh), Fr 160 a [(16, .int .i64 x4), (10, bp b8 0), (9, bp b7 0), (7, bp b5 0), (5, bp b4 0), (4, bp b3 0), (2, bp b1 0)] ∧ Le g2 g10 ∧ St g10 [[(b8, .cells #[v3] 38 (0, 0))], [(b7, .cells #[v1] 38 (0, 0))], [(b5, .cells #[.int .i64 0, .int .i64 0] 24 (0, 0))], [(b4, .cells #[nilS] 38 (0, 0))], [(b3, .cells #[nilS] 38 (0, 0))], [(b1, .cells #[vp_1] 38 (0, 0))], c3, c1] fr w ∧ OwnS g10 x5 v3 c3) hr1 ?_ ?_
    ·dsimp only
     replace S : St g2 [[], [(b8, .cells #[nilS] 38 (0, 0))], [(b7, .cells #[v1] 38 (0, 0))], [(b5, .cells #[.int .i64 0, .int .i64 0] 24 (0, 0))], [(b4, .cells #[nilS] 38 (0, 0))], [(b3, .cells #[nilS] 38 (0, 0))], [(b1, .cells #[vp_1] 38 (0, 0))], c1] fr w := S
     replace S : St g2 [[(b8, .cells #[nilS] 38 (0, 0))], [(b7, .cells #[v1] 38 (0, 0))], [(b5, .cells #[.int .i64 0, .int .i64 0] 24 (0, 0))], [(b4, .cells #[nilS] 38 (0, 0))], [(b3, .cells #[nilS] 38 (0, 0))], [(b1, .cells #[vp_1] 38 (0, 0))], [], c1] fr w := St.tail [[(b8, .cells #[nilS] 38 (0, 0))], [(b7, .cells #[v1] 38 (0, 0))], [(b5, .cells #[.int .i64 0, .int .i64 0] 24 (0, 0))], [(b4, .cells #[nilS] 38 (0, 0))], [(b3, .cells #[nilS] 38 (0, 0))], [(b1, .cells #[vp_1] 38 (0, 0))], [], c1] _ ((((((((S.frontC 7 rfl).frontC 1 rfl).frontC 8 rfl).frontC 8 rfl).frontC 8 rfl).frontC 8 rfl).frontC 8 rfl).frontC 8 rfl)
     exact ⟨(nilS), [], g2, F.sub ⟨rfl, rfl, rfl, rfl, rfl, rfl, rfl, trivial⟩, (Le.refl _), S, (OwnS.nil _)⟩
    ·clear F S; rintro ⟨x4, x5⟩ a w x6 ⟨v3, c3, g10, F, l10, S, h5⟩ hx2 hfin1
     have hm : changeforgeref1_Commute.l1 p_ x1 x4 x5 = some x6 := hx2; clear hx2
     unfold changeforgeref1_Commute.l1 at hm
     refine wp_seq ?_
     refine wp_seq ?_
     refine wp_region_lit ?_
     refine wl_ev (wn rfl) (ev_move rfl) F S rfl rfl ?_; clear F a; intro a F
     refine wl_ev (wn rfl) (ev_fieldAddr' tu38 tf38_0 (z := 0) ts36 rfl ⟨_, rfl⟩ rfl) F S rfl rfl ?_; clear F a; intro a F
     refine wl_ev (wn rfl) (ev_load1 tu36 rfl rfl (box_ptr (cells := [vp_1]) 5 rfl 0 rfl (lb rfl))) F S rfl rfl ?_; clear F a; intro a F
     refine wl_ev (wn rfl) (ev_lenSh hp_1 rfl tu36) F S rfl rfl ?_; clear F a; intro a F
     refine wl_ev (wn rfl) (ev_int rfl rfl (bo_lss _ _ _ _)) F S rfl rfl ?_; clear F a; intro a F
     refine wpList_nil ?_
     replace F := F.sub (e' := [(101, .bool (decide (x4 < (p_.Hunks.length : Int)))), (16, .int .i64 x4), (10, bp b8 0), (9, bp b7 0), (7, bp b5 0), (5, bp b4 0), (4, bp b3 0), (2, bp b1 0)]) ⟨rfl, rfl, rfl, rfl, rfl, rfl, rfl, rfl, trivial⟩
     refine then_n ?_
     obtain ⟨hc4, hm⟩ | ⟨hc4, hm⟩ := ite_or hm
     ·refine wp_condT F rfl hc4 ?_
      refine wp_skip ?_
      refine then_n ?_
      refine wp_cut (fun a w => ∃ (x7 : List Hunk) (v4 : Value) (c4 : Hl) (g11 : Gh), Fr 160 a [(16, .int .i64 x4), (10, bp b8 0), (9, bp b7 0), (7, bp b5 0), (5, bp b4 0), (4, bp b3 0), (2, bp b1 0)] ∧ Le g10 g11 ∧ St g11 [[(b8, .cells #[v4] 38 (0, 0))], [(b7, .cells #[v1] 38 (0, 0))], [(b5, .cells #[.int .i64 0, .int .i64 0] 24 (0, 0))], [(b4, .cells #[nilS] 38 (0, 0))], [(b3, .cells #[nilS] 38 (0, 0))], [(b1, .cells #[vp_1] 38 (0, 0))], c4, c1] fr w ∧ OwnS g11 x7 v4 c4 ∧ changeforgeref1_Commute.j3 x4 x7 = some x6) ?_ ?_
      ·refine wp_block ?_
       refine wp_seq ?_
       refine wp_region_lit ?_
       refine wl_ev (wn rfl) (ev_assign rfl) F S rfl rfl ?_; clear F a; intro a F
       refine wpList_nil ?_
       replace F := F.sub (e' := [(17, .int .i64 0), (16, .int .i64 x4), (10, bp b8 0), (9, bp b7 0), (7, bp b5 0), (5, bp b4 0), (4, bp b3 0), (2, bp b1 0)]) ⟨rfl, rfl, rfl, rfl, rfl, rfl, rfl, rfl, trivial⟩
       refine then_n ?_
       refine wp_cut (fun a w => ∃ (x8 : Int) (g12 : Gh), Fr 160 a [(17, .int .i64 x8), (16, .int .i64 x4), (10, bp b8 0), (9, bp b7 0), (7, bp b5 0), (5, bp b4 0), (4, bp b3 0), (2, bp b1 0)] ∧ Le g10 g12 ∧ St g12 [[(b8, .cells #[v3] 38 (0, 0))], [(b7, .cells #[v1] 38 (0, 0))], [(b5, .cells #[.int .i64 0, .int .i64 0] 24 (0, 0))], [(b4, .cells #[nilS] 38 (0, 0))], [(b3, .cells #[nilS] 38 (0, 0))], [(b1, .cells #[vp_1] 38 (0, 0))], c3, c1] fr w ∧ changeforgeref1_Commute.j4 p_ x4 x5 x8 = some x6) ?_ ?_
       ·refine wp_seq ?_
        refine wp_region_lit ?_
        refine wl_ev (wn rfl) (ev_assign rfl) F S rfl rfl ?_; clear F a; intro a F
        refine wpList_nil ?_
        refine then_n ?_
        refine wp_block ?_
        obtain ⟨r2, hr4, hm⟩ := bind_some hm
        have hmo2 := hm; clear hm
        refine wp_iter (σ := Int × Int) (ρ := Int) (m := fun s => changeforgeref1_Commute.l2 p_ x1 x4 s.1 s.2) (I := fun s a w => match s with | (x9, x10) => ∃ (g14 : Gh), Fr 160 a [(18, .int .i64 x9), (17, .int .i64 x10), (16, .int .i64 x4), (10, bp b8 0), (9, bp b7 0), (7, bp b5 0), (5, bp b4 0), (4, bp b3 0), (2, bp b1 0)] ∧ Le g10 g14 ∧ St g14 [[(b8, .cells #[v3] 38 (0, 0))], [(b7, .cells #[v1] 38 (0, 0))], [(b5, .cells #[.int .i64 0, .int .i64 0] 24 (0, 0))], [(b4, .cells #[nilS] 38 (0, 0))], [(b3, .cells #[nilS] 38 (0, 0))], [(b1, .cells #[vp_1] 38 (0, 0))], c3, c1] fr w) hr4 ?_ ?_
        ·dsimp only
         exact ⟨g10, F.sub ⟨rfl, rfl, rfl, rfl, rfl, rfl, rfl, rfl, rfl, trivial⟩, (Le.refl _), S⟩
        ·clear F S; rintro ⟨x9, x10⟩ a w x11 ⟨g14, F, l14, S⟩ hx3 hfin2
         have hm : changeforgeref1_Commute.l2 p_ x1 x4 x9 x10 = some x11 := hx3; clear hx3
         unfold changeforgeref1_Commute.l2 at hm
         refine wp_seq ?_
         refine wp_seq ?_
         refine wp_region_lit ?_
         refine wl_ev (wn rfl) (ev_move rfl) F S rfl rfl ?_; clear F a; intro a F
         refine wl_ev (wn rfl) (ev_fieldAddr' tu38 tf38_0 (z := 0) ts36 rfl ⟨_, rfl⟩ rfl) F S rfl rfl ?_; clear F a; intro a F
         refine wl_ev (wn rfl) (ev_load1 tu36 rfl rfl (box_ptr (cells := [v1]) 1 rfl 0 rfl (lb rfl))) F S rfl rfl ?_; clear F a; intro a F
         refine wl_ev (wn rfl) (ev_lenOw h1 rfl tu36) F S rfl rfl ?_; clear F a; intro a F
         refine wl_ev (wn rfl) (ev_int rfl rfl (bo_lss _ _ _ _)) F S rfl rfl ?_; clear F a; intro a F
         refine wpList_nil ?_
         replace F := F.sub (e' := [(108, .bool (decide (x9 < (x1.length : Int)))), (18, .int .i64 x9), (17, .int .i64 x10), (16, .int .i64 x4), (10, bp b8 0), (9, bp b7 0), (7, bp b5 0), (5, bp b4 0), (4, bp b3 0), (2, bp b1 0)]) ⟨rfl, rfl, rfl, rfl, rfl, rfl, rfl, rfl, rfl, rfl, trivial⟩
         refine then_n ?_
         obtain ⟨hc5, hm⟩ | ⟨hc5, hm⟩ := ite_or hm
         ·refine wp_condT F rfl hc5 ?_
          refine wp_skip ?_
          refine then_n ?_
          refine wp_cut (fun a w => ∃ (x12 : Int) (g15 : Gh), Fr 160 a [(17, .int .i64 x12), (18, .int .i64 x9), (16, .int .i64 x4), (10, bp b8 0), (9, bp b7 0), (7, bp b5 0), (5, bp b4 0), (4, bp b3 0), (2, bp b1 0)] ∧ Le g14 g15 ∧ St g15 [[(b8, .cells #[v3] 38 (0, 0))], [(b7, .cells #[v1] 38 (0, 0))], [(b5, .cells #[.int .i64 0, .int .i64 0] 24 (0, 0))], [(b4, .cells #[nilS] 38 (0, 0))], [(b3, .cells #[nilS] 38 (0, 0))], [(b1, .cells #[vp_1] 38 (0, 0))], c3, c1] fr w ∧ changeforgeref1_Commute.j5 x9 x12 = some x11) ?_ ?_
          ·refine wp_block ?_
           refine wp_seq ?_
           refine wp_quiet mo (by kernel_rfl) S ?_
           refine wq_ev (wn rfl) (ev_fieldAddr' tu38 tf38_0 (z := 0) ts36 rfl ⟨_, rfl⟩ rfl) F rfl rfl ?_; clear F a; intro a F
           refine wq_ev (wn rfl) (ev_load1 tu36 rfl rfl (box_ptr (cells := [v1]) 1 rfl 0 rfl (lb rfl))) F rfl rfl ?_; clear F a; intro a F
           refine wq_ev (wn rfl) (ev_move rfl) F rfl rfl ?_; clear F a; intro a F
           obtain ⟨y8, hy8, hm⟩ := bind_some hm
           refine wq_ev (wn rfl) (ev_idxO (h1.mono (l10.trans l14)) hy8 tu36 ts60 rfl rfl) F rfl rfl ?_; clear F a; intro a F
           obtain ⟨cs3, hr5, hq1⟩ := elemO (h1.mono (l10.trans l14)) hy8
           obtain ⟨v11, v12, rfl, h13, h14⟩ := rep_Hunk hr5
           refine wq_ev (wn rfl) (ev_loadA tu60 rfl (cs := [.int .i64 y8.At, v11, v12]) ts60 rfl (hq1 _ _ 7 rfl)) F rfl rfl ?_; clear F a; intro a F
           obtain ⟨y9, hy9, hm⟩ := bind_some hm
           refine wq_call (wn rfl) rfl (xs := [.tmp 115]) (vs := [.agg #[.int .i64 y8.At, v11, v12]]) (cap := []) F rfl rfl tc57 (v := .int .i64 y9) (fun w S => (changeforgeref1_End_ok (g := g14) (fr := (fl [[(b8, .cells #[v3] 38 (0, 0))], [(b7, .cells #[v1] 38 (0, 0))], [(b5, .cells #[.int .i64 0, .int .i64 0] 24 (0, 0))], [(b4, .cells #[nilS] 38 (0, 0))], [(b3, .cells #[nilS] 38 (0, 0))], [(b1, .cells #[vp_1] 38 (0, 0))], c3, c1] fr)) (w := w) y8 v11 h13 v12 h14 S hy9).mono (by rintro en w' ⟨_, rfl, g2, l2, S2, rfl⟩; exact ⟨rfl, S2.weak l2⟩)) rfl rfl ?_; clear F a; intro a F
           refine wq_ev (wn rfl) (ev_fieldAddr' tu38 tf38_0 (z := 0) ts36 rfl ⟨_, rfl⟩ rfl) F rfl rfl ?_; clear F a; intro a F
           refine wq_ev (wn rfl) (ev_load1 tu36 rfl rfl (box_ptr (cells := [vp_1]) 5 rfl 0 rfl (lb rfl))) F rfl rfl ?_; clear F a; intro a F
           refine wq_ev (wn rfl) (ev_move rfl) F rfl rfl ?_; clear F a; intro a F
           obtain ⟨y10, hy10, hm⟩ := bind_some hm
           obtain ⟨cs4, hr6, hp2⟩ := elemS (hp_1.mono (((l1.trans l2).trans l10).trans l14)) hy10
           obtain ⟨v13, v14, rfl, h15, h16⟩ := rep_Hunk hr6
           refine wq_ev (wn rfl) (ev_idxS (hp_1.mono (((l1.trans l2).trans l10).trans l14)) hy10 tu36 ts60 rfl rfl) F rfl rfl ?_; clear F a; intro a F
           have hp3 := PtrC.field hp2 0 1 (lb rfl)
           have hp3 : PtrC g14 (addP (elemP vp_1 x4 3) 0) [.int .i64 y10.At] := hp3
           refine wq_ev (wn rfl) (ev_fieldAddr' tu60 tf60_0 (z := 0) ts3 rfl hp2.ptr rfl) F rfl rfl ?_; clear F a; intro a F
           refine wq_ev (wn rfl) (ev_load1 tu3 rfl rfl (ptr_mono (cks := [[(b8, .cells #[v3] 38 (0, 0))], [(b7, .cells #[v1] 38 (0, 0))], [(b5, .cells #[.int .i64 0, .int .i64 0] 24 (0, 0))], [(b4, .cells #[nilS] 38 (0, 0))], [(b3, .cells #[nilS] 38 (0, 0))], [(b1, .cells #[vp_1] 38 (0, 0))], c3, c1]) (fr := fr) hp3 (Le.refl _))) F rfl rfl ?_; clear F a; intro a F
           refine wq_ev (wn rfl) (ev_int rfl rfl (bo_lss _ _ _ _)) F rfl rfl ?_; clear F a; intro a F
           refine wq_nil ?_; clear S; intro w S
           replace F := F.sub (e' := [(123, .bool (decide (y9 < y10.At))), (18, .int .i64 x9), (17, .int .i64 x10), (16, .int .i64 x4), (10, bp b8 0), (9, bp b7 0), (7, bp b5 0), (5, bp b4 0), (4, bp b3 0), (2, bp b1 0)]) ⟨rfl, rfl, rfl, rfl, rfl, rfl, rfl, rfl, rfl, rfl, trivial⟩
           refine then_n ?_
           obtain ⟨hc6, hm⟩ | ⟨hc6, hm⟩ := ite_or hm
           ·refine wp_condT F rfl hc6 ?_
            refine wp_region_lit ?_
            refine wl_ev (wn rfl) (ev_move rfl) F S rfl rfl ?_; clear F a; intro a F
            refine wl_ev (wn rfl) (ev_fieldAddr' tu38 tf38_0 (z := 0) ts36 rfl ⟨_, rfl⟩ rfl) F S rfl rfl ?_; clear F a; intro a F
            refine wl_ev (wn rfl) (ev_load1 tu36 rfl rfl (box_ptr (cells := [v1]) 1 rfl 0 rfl (lb rfl))) F S rfl rfl ?_; clear F a; intro a F
            refine wl_ev (wn rfl) (ev_move rfl) F S rfl rfl ?_; clear F a; intro a F
            obtain ⟨y11, hy11, hm⟩ := bind_some hm
            refine wl_ev (wn rfl) (ev_idxO (h1.mono (l10.trans l14)) hy11 tu36 ts60 rfl rfl) F S rfl rfl ?_; clear F a; intro a F
            obtain ⟨cs5, hr7, hq2⟩ := elemO (h1.mono (l10.trans l14)) hy11
            obtain ⟨v15, v16, rfl, h17, h18⟩ := rep_Hunk hr7
            refine wl_ev (wn rfl) (ev_loadA tu60 rfl (cs := [.int .i64 y11.At, v15, v16]) ts60 rfl (hq2 _ _ 7 rfl)) F S rfl rfl ?_; clear F a; intro a F
            obtain ⟨y12, hy12, hm⟩ := bind_some hm
            refine wl_call (wn rfl) rfl (xs := [.tmp 129]) (vs := [.agg #[.int .i64 y11.At, v15, v16]]) (cap := []) F rfl rfl tc63 (changeforgeref1_Growth_ok (g := g14) (fr := (fl [[(b8, .cells #[v3] 38 (0, 0))], [(b7, .cells #[v1] 38 (0, 0))], [(b5, .cells #[.int .i64 0, .int .i64 0] 24 (0, 0))], [(b4, .cells #[nilS] 38 (0, 0))], [(b3, .cells #[nilS] 38 (0, 0))], [(b1, .cells #[vp_1] 38 (0, 0))], c3, c1] fr)) (w := w) y11 v15 h17 v16 h18 S hy12) rfl rfl ?_; clear F a S
            rintro _ a w ⟨g17, l17, S, rfl⟩ F; replace S : St g17 [[(b8, .cells #[v3] 38 (0, 0))], [(b7, .cells #[v1] 38 (0, 0))], [(b5, .cells #[.int .i64 0, .int .i64 0] 24 (0, 0))], [(b4, .cells #[nilS] 38 (0, 0))], [(b3, .cells #[nilS] 38 (0, 0))], [(b1, .cells #[vp_1] 38 (0, 0))], c3, c1] fr w := S
            obtain ⟨z3, hz3, hm⟩ := bind_some hm
            refine wl_ev (wn rfl) (ev_int rfl rfl (bo_add hz3)) F S rfl rfl ?_; clear F a; intro a F
            refine wl_ev (wn rfl) (ev_assign rfl) F S rfl rfl ?_; clear F a; intro a F
            refine wpList_nil ?_
            replace F := F.sub (e' := [(17, .int .i64 z3), (18, .int .i64 x9), (16, .int .i64 x4), (10, bp b8 0), (9, bp b7 0), (7, bp b5 0), (5, bp b4 0), (4, bp b3 0), (2, bp b1 0)]) ⟨rfl, rfl, rfl, rfl, rfl, rfl, rfl, rfl, rfl, trivial⟩
            refine inb_n ?_
            refine then_n ?_
            exact ⟨z3, g17, F.sub ⟨rfl, rfl, rfl, rfl, rfl, rfl, rfl, rfl, rfl, trivial⟩, l17, S, hm⟩
           ·refine wp_condF F rfl hc6 ?_
            refine wp_skip ?_
            refine inb_n ?_
            refine then_n ?_
            exact ⟨x10, g14, F.sub ⟨rfl, rfl, rfl, rfl, rfl, rfl, rfl, rfl, rfl, trivial⟩, (Le.refl _), S, hm⟩
          ·clear F S hm; rintro a w ⟨x12, g15, F, l15, S, hm⟩
           refine wp_region_lit ?_
           refine wl_ev (wn rfl) (ev_move rfl) F S rfl rfl ?_; clear F a; intro a F
           obtain ⟨z2, hz2, hm⟩ := bind_some hm
           refine wl_ev (wn rfl) (ev_int rfl rfl (bo_add hz2)) F S rfl rfl ?_; clear F a; intro a F
           refine wl_ev (wn rfl) (ev_assign rfl) F S rfl rfl ?_; clear F a; intro a F
           refine wpList_nil ?_
           replace F := F.sub (e' := [(18, .int .i64 z2), (17, .int .i64 x12), (16, .int .i64 x4), (10, bp b8 0), (9, bp b7 0), (7, bp b5 0), (5, bp b4 0), (4, bp b3 0), (2, bp b1 0)]) ⟨rfl, rfl, rfl, rfl, rfl, rfl, rfl, rfl, rfl, trivial⟩
           refine then_n ?_
           obtain rfl := sinj hm
           refine ⟨_, rfl, ?_⟩
           dsimp only
           exact ⟨g15, F.sub ⟨rfl, rfl, rfl, rfl, rfl, rfl, rfl, rfl, rfl, trivial⟩, (l14.trans l15), S⟩
         ·refine wp_condF F rfl hc5 ?_
          refine wp_exit ?_
          refine then_e ?_
          refine then_e ?_
          refine inb_x ?_
          refine then_n ?_
          obtain rfl := sinj hm
          obtain rfl := hfin2 _ rfl
          clear hm
          have hm : (changeforgeref1_Commute.j4 p_ x4 x5 x10 : Option (Step (Int × (List Hunk)) (List Hunk))) = some _ := hmo2
          exact ⟨x10, g14, F.sub ⟨rfl, rfl, rfl, rfl, rfl, rfl, rfl, rfl, trivial⟩, l14, S, hm⟩
       ·clear F S hm; rintro a w ⟨x8, g12, F, l12, S, hm⟩
        obtain ⟨y5, hy5, hm⟩ := bind_some hm
        obtain ⟨y6, hy6, hm⟩ := bind_some hm
        obtain ⟨y7, hy7, hm⟩ := bind_some hm
        refine wp_drawL ⟨8, [[132], [133], [134], [135], [136], [137], [138], [139], [140], [141], [142], [143], [142]], [[], [], [], [], [], [], [], [], [], [], [19], [], [13]], [[], [13], [], [18], [], [], [], [], [], [], [9], [], []], [[10], [], [2], [], [16], [], [], [17], [], [], [], [10], []], [[], [0], [], [2], [], [3, 4], [5], [], [6, 7], [8], [1, 9], [], [10, 11]], [16, 10, 9, 7, 5, 4, 2], [0, 1, 2, 3, 4, 5, 6, 7, 8, 9, 10, 11, 12, 14, 15, 16, 17, 18, 20]⟩
         [([132], fun us g c => us = [bp b8 0]),
          ([133], fun us g c => us = [v3]),
          ([134], fun us g c => us = [bp b1 0]),
          ([135], fun us g c => us = [vp_1]),
          ([136], fun us g c => us = [.int .i64 x4]),
          ([137], fun us g c => ∃ v5 : Value, ∃ v6 : Value, us = [(elemP vp_1 x4 3)] ∧ RepSl g y5.Old v5 ∧ RepSl g y5.New v6 ∧ PtrC g (elemP vp_1 x4 3) [.int .i64 y5.At, v5, v6]),
          ([138], fun us g c => ∃ v5 : Value, ∃ v6 : Value, us = [.agg #[.int .i64 y5.At, v5, v6]] ∧ RepSl g y5.Old v5 ∧ RepSl g y5.New v6),
          ([139], fun us g c => us = [.int .i64 x8]),
          ([140], fun us g c => ∃ v7 : Value, ∃ v8 : Value, us = [.agg #[.int .i64 y6.At, v7, v8]] ∧ RepSl g y6.Old v7 ∧ RepSl g y6.New v8),
          ([141], fun us g c => ∃ v9 : Value, us = [v9] ∧ OwnS g ([y6] : List Hunk) v9 c),
          ([142], fun us g c => ∃ v10 : Value, us = [v10] ∧ OwnS g y7 v10 c),
          ([143], fun us g c => us = [bp b8 0]),
          ([142], fun us g c => ∃ v10 : Value, us = [v10] ∧ c = [(b8, .cells #[v10] 38 (0, 0))])]
         mo (by kernel_rfl) rfl rfl ⟨fun _ _ _ _ _ h => h, fun _ _ _ _ _ h => h, fun _ _ _ _ _ h => h, fun _ _ _ _ _ h => h, fun _ _ _ _ _ h => h, fun _ _ _ _ l ⟨x0, x1, e0, h0, h1, h2⟩ => ⟨x0, x1, e0, h0.mono l, h1.mono l, h2.mono l⟩, fun _ _ _ _ l ⟨x0, x1, e0, h0, h1⟩ => ⟨x0, x1, e0, h0.mono l, h1.mono l⟩, fun _ _ _ _ _ h => h, fun _ _ _ _ l ⟨x0, x1, e0, h0, h1⟩ => ⟨x0, x1, e0, h0.mono l, h1.mono l⟩, fun _ _ _ _ l ⟨x0, e0, h0⟩ => ⟨x0, e0, h0.mono l⟩, fun _ _ _ _ l ⟨x0, e0, h0⟩ => ⟨x0, e0, h0.mono l⟩, fun _ _ _ _ _ h => h, fun _ _ _ _ _ h => h, trivial⟩ F S ⟨?_, ?_, ?_, ?_, ?_, ?_, ?_, ?_, ?_, ?_, ?_, ?_, ?_, trivial⟩ ?_
        ·intro a w gd11 c fr hsz hdf hK ld11 hN hI S
         have F : Fr 160 a [(10, bp b8 0)] := Fr.of hsz hdf ⟨hK 10 (by decide) _ rfl, trivial⟩
         replace S : St gd11 [] fr w := S.of_eq (flat2 _ _ _ _)
         refine wl_ev (wn rfl) (ev_fieldAddr' tu38 tf38_0 (z := 0) ts36 rfl ⟨_, rfl⟩ rfl) F S rfl rfl ?_; clear F; intro a F
         refine wpList_nil ⟨rfl, F.sz, F.df, _, [], (Le.refl _), ?_, (lst1 (F.get 132 _ rfl))⟩
         refine St0.of_eq ?_ (flat3 c [] [] fr).symm
         show St0 _ (fl ([] ++ []) fr) _
         exact S
        ·intro a w gd11 c fr hsz hdf hK ld11 hN hI S
         have e0 := hN 0 (by decide)
         have e132x : val a 132 = bp b8 0 := nth e0 0
         have F : Fr 160 a [(132, bp b8 0)] := Fr.of hsz hdf ⟨e132x, trivial⟩
         replace S : St gd11 [c 13] fr w := S.of_eq (flat2 _ _ _ _)
         have q13 : c 13 = [(b8, .cells #[v3] 38 (0, 0))] := hI 0 _ rfl
         rw [q13] at S
         refine wl_ev (wn rfl) (ev_load1 tu36 rfl rfl (box_ptr (cells := [v3]) 0 rfl 0 rfl (lb rfl))) F S rfl rfl ?_; clear F; intro a F
         refine wpList_nil ⟨rfl, F.sz, F.df, _, [], (Le.refl _), ?_, (lst1 (F.get 133 _ rfl))⟩
         refine St0.of_eq ?_ (flat3 c [] [13] fr).symm
         show St0 _ (fl ([] ++ [c 13]) fr) _
         rw [q13]
         exact S
        ·intro a w gd11 c fr hsz hdf hK ld11 hN hI S
         have F : Fr 160 a [(2, bp b1 0)] := Fr.of hsz hdf ⟨hK 2 (by decide) _ rfl, trivial⟩
         replace S : St gd11 [] fr w := S.of_eq (flat2 _ _ _ _)
         refine wl_ev (wn rfl) (ev_fieldAddr' tu38 tf38_0 (z := 0) ts36 rfl ⟨_, rfl⟩ rfl) F S rfl rfl ?_; clear F; intro a F
         refine wpList_nil ⟨rfl, F.sz, F.df, _, [], (Le.refl _), ?_, (lst1 (F.get 134 _ rfl))⟩
         refine St0.of_eq ?_ (flat3 c [] [] fr).symm
         show St0 _ (fl ([] ++ []) fr) _
         exact S
        ·intro a w gd11 c fr hsz hdf hK ld11 hN hI S
         have e2 := hN 2 (by decide)
         have e134x : val a 134 = bp b1 0 := nth e2 0
         have F : Fr 160 a [(134, bp b1 0)] := Fr.of hsz hdf ⟨e134x, trivial⟩
         replace S : St gd11 [c 18] fr w := S.of_eq (flat2 _ _ _ _)
         have q18 : c 18 = [(b1, .cells #[vp_1] 38 (0, 0))] := hI 5 _ rfl
         rw [q18] at S
         refine wl_ev (wn rfl) (ev_load1 tu36 rfl rfl (box_ptr (cells := [vp_1]) 0 rfl 0 rfl (lb rfl))) F S rfl rfl ?_; clear F; intro a F
         refine wpList_nil ⟨rfl, F.sz, F.df, _, [], (Le.refl _), ?_, (lst1 (F.get 135 _ rfl))⟩
         refine St0.of_eq ?_ (flat3 c [] [18] fr).symm
         show St0 _ (fl ([] ++ [c 18]) fr) _
         rw [q18]
         exact S
        ·intro a w gd11 c fr hsz hdf hK ld11 hN hI S
         have F : Fr 160 a [(16, .int .i64 x4)] := Fr.of hsz hdf ⟨hK 16 (by decide) _ rfl, trivial⟩
         replace S : St gd11 [] fr w := S.of_eq (flat2 _ _ _ _)
         refine wl_ev (wn rfl) (ev_move rfl) F S rfl rfl ?_; clear F; intro a F
         refine wpList_nil ⟨rfl, F.sz, F.df, _, [], (Le.refl _), ?_, (lst1 (F.get 136 _ rfl))⟩
         refine St0.of_eq ?_ (flat3 c [] [] fr).symm
         show St0 _ (fl ([] ++ []) fr) _
         exact S
        ·intro a w gd11 c fr hsz hdf hK ld11 hN hI S
         have e3 := hN 3 (by decide)
         have e135x : val a 135 = vp_1 := nth e3 0
         have e4 := hN 4 (by decide)
         have e136x : val a 136 = .int .i64 x4 := nth e4 0
         have F : Fr 160 a [(135, vp_1), (136, .int .i64 x4)] := Fr.of hsz hdf ⟨e135x, e136x, trivial⟩
         replace S : St gd11 [] fr w := S.of_eq (flat2 _ _ _ _)
         obtain ⟨cs1, hr2, hp1⟩ := elemS (hp_1.mono ((((l1.trans l2).trans l10).trans l12).trans ld11)) hy5
         obtain ⟨v5, v6, rfl, h7, h8⟩ := rep_Hunk hr2
         refine wl_ev (wn rfl) (ev_idxS (hp_1.mono ((((l1.trans l2).trans l10).trans l12).trans ld11)) hy5 tu36 ts60 rfl rfl) F S rfl rfl ?_; clear F; intro a F
         refine wpList_nil ⟨rfl, F.sz, F.df, _, [], (Le.refl _), ?_, ⟨v5, v6, (lst1 (F.get 137 _ rfl)), h7, h8, hp1⟩⟩
         refine St0.of_eq ?_ (flat3 c [] [] fr).symm
         show St0 _ (fl ([] ++ []) fr) _
         exact S
        ·intro a w gd11 c fr hsz hdf hK ld11 hN hI S
         obtain ⟨lv1, lv2, e5, lh1, lh2, lh3⟩ := hN 5 (by decide)
         have e137x : val a 137 = (elemP vp_1 x4 3) := nth e5 0
         have F : Fr 160 a [(137, (elemP vp_1 x4 3))] := Fr.of hsz hdf ⟨e137x, trivial⟩
         replace S : St gd11 [] fr w := S.of_eq (flat2 _ _ _ _)
         refine wl_ev (wn rfl) (ev_loadA tu60 rfl (cs := [.int .i64 y5.At, lv1, lv2]) ts60 rfl (ptr_mono (cks := []) (fr := fr) lh3 (Le.refl _))) F S rfl rfl ?_; clear F; intro a F
         refine wpList_nil ⟨rfl, F.sz, F.df, _, [], (Le.refl _), ?_, ⟨lv1, lv2, (lst1 (F.get 138 _ rfl)), lh1, lh2⟩⟩
         refine St0.of_eq ?_ (flat3 c [] [] fr).symm
         show St0 _ (fl ([] ++ []) fr) _
         exact S
        ·intro a w gd11 c fr hsz hdf hK ld11 hN hI S
         have F : Fr 160 a [(17, .int .i64 x8)] := Fr.of hsz hdf ⟨hK 17 (by decide) _ rfl, trivial⟩
         replace S : St gd11 [] fr w := S.of_eq (flat2 _ _ _ _)
         refine wl_ev (wn rfl) (ev_move rfl) F S rfl rfl ?_; clear F; intro a F
         refine wpList_nil ⟨rfl, F.sz, F.df, _, [], (Le.refl _), ?_, (lst1 (F.get 139 _ rfl))⟩
         refine St0.of_eq ?_ (flat3 c [] [] fr).symm
         show St0 _ (fl ([] ++ []) fr) _
         exact S
        ·intro a w gd11 c fr hsz hdf hK ld11 hN hI S
         obtain ⟨v5, v6, e6, lh1, lh2⟩ := hN 6 (by decide)
         have e138x : val a 138 = .agg #[.int .i64 y5.At, v5, v6] := nth e6 0
         have e7 := hN 7 (by decide)
         have e139x : val a 139 = .int .i64 x8 := nth e7 0
         have F : Fr 160 a [(138, .agg #[.int .i64 y5.At, v5, v6]), (139, .int .i64 x8)] := Fr.of hsz hdf ⟨e138x, e139x, trivial⟩
         replace S : St gd11 [] fr w := S.of_eq (flat2 _ _ _ _)
         refine wl_call (wn rfl) rfl (xs := [.tmp 138, .tmp 139]) (vs := [.agg #[.int .i64 y5.At, v5, v6], .int .i64 x8]) (cap := []) F rfl rfl tc64 (changeforgeref1_moved_ok (g := gd11) (fr := fr) (w := w) y5 v5 lh1 v6 lh2 x8 S hy6) rfl rfl ?_; clear F S
         rintro _ a w ⟨g13, v7, v8, l13, S, h9, h10, rfl⟩ F; replace S : St g13 [] fr w := S
         refine wpList_nil ⟨rfl, F.sz, F.df, _, [], l13, ?_, ⟨v7, v8, (lst1 (F.get 140 _ rfl)), h9, h10⟩⟩
         refine St0.of_eq ?_ (flat3 c [] [] fr).symm
         show St0 _ (fl ([] ++ []) fr) _
         exact S
        ·intro a w gd11 c fr hsz hdf hK ld11 hN hI S
         obtain ⟨v7, v8, e8, lh1, lh2⟩ := hN 8 (by decide)
         have e140x : val a 140 = .agg #[.int .i64 y6.At, v7, v8] := nth e8 0
         have F : Fr 160 a [(140, .agg #[.int .i64 y6.At, v7, v8])] := Fr.of hsz hdf ⟨e140x, trivial⟩
         replace S : St gd11 [] fr w := S.of_eq (flat2 _ _ _ _)
         refine wl_lit (l := ([y6] : List Hunk)) (vs := [.agg #[.int .i64 y6.At, v7, v8]]) (parts := [(0, .tmp 140)]) (wn rfl) rfl rfl rfl tu36 te60 (sz_cons rfl sz_nil) rfl (Cat.cons (rep_Hunk_mk (x := y6) lh1 lh2) (Cat.nil _)) (coa_cons rfl coa_nil) rfl F S rfl rfl ?_; clear F S
         rintro v9 c5 a w h11 F S
         refine wpList_nil ⟨rfl, F.sz, F.df, _, c5, (Le.refl _), ?_, ⟨v9, (lst1 (F.get 141 _ rfl)), h11⟩⟩
         refine St0.of_eq ?_ (flat3s c (c5) [] fr).symm
         show St0 _ (fl ([c5] ++ []) fr) _
         exact S
        ·intro a w gd11 c fr hsz hdf hK ld11 hN hI S
         have e1 := hN 1 (by decide)
         have e133x : val a 133 = v3 := nth e1 0
         obtain ⟨v9, e9, lh1⟩ := hN 9 (by decide)
         have e141x : val a 141 = v9 := nth e9 0
         have F : Fr 160 a [(133, v3), (141, v9)] := Fr.of hsz hdf ⟨e133x, e141x, trivial⟩
         replace S : St gd11 [c 19, c 9] fr w := S.of_eq (flat2 _ _ _ _)
         have q19 : c 19 = c3 := hI 6 _ rfl
         rw [q19] at S
         obtain ⟨cs2, hk1, hr3⟩ := OwnS.reads lh1
         refine wl_append (wn rfl) rfl tu36 tu36 te60 (by decide) (by decide) F S rfl rfl (k := 0) rfl (h5.mono (l12.trans ld11)) hk1 rfl (hr3 _ _ _ 1 rfl S) hy7 rfl rfl ?_; clear F S
         rintro v10 c6 a w h12 S F; replace S : St gd11 [c6, (c 9)] fr w := S
         refine wpList_nil ⟨rfl, F.sz, F.df, _, c6, (Le.refl _), ?_, ⟨v10, (lst1 (F.get 142 _ rfl)), h12⟩⟩
         refine St0.of_eq ?_ (flat3s c (c6) [9] fr).symm
         show St0 _ (fl ([c6] ++ [c 9]) fr) _
         exact S
        ·intro a w gd11 c fr hsz hdf hK ld11 hN hI S
         have F : Fr 160 a [(10, bp b8 0)] := Fr.of hsz hdf ⟨hK 10 (by decide) _ rfl, trivial⟩
         replace S : St gd11 [] fr w := S.of_eq (flat2 _ _ _ _)
         refine wl_ev (wn rfl) (ev_fieldAddr' tu38 tf38_0 (z := 0) ts36 rfl ⟨_, rfl⟩ rfl) F S rfl rfl ?_; clear F; intro a F
         refine wpList_nil ⟨rfl, F.sz, F.df, _, [], (Le.refl _), ?_, (lst1 (F.get 143 _ rfl))⟩
         refine St0.of_eq ?_ (flat3 c [] [] fr).symm
         show St0 _ (fl ([] ++ []) fr) _
         exact S
        ·intro a w gd11 c fr hsz hdf hK ld11 hN hI S
         obtain ⟨v10, e10, lh1⟩ := hN 10 (by decide)
         have e142x : val a 142 = v10 := nth e10 0
         have e11 := hN 11 (by decide)
         have e143x : val a 143 = bp b8 0 := nth e11 0
         have F : Fr 160 a [(142, v10), (143, bp b8 0)] := Fr.of hsz hdf ⟨e142x, e143x, trivial⟩
         replace S : St gd11 [c 13] fr w := S.of_eq (flat2 _ _ _ _)
         have q13 : c 13 = [(b8, .cells #[v3] 38 (0, 0))] := hI 0 _ rfl
         rw [q13] at S
         refine wl_storeC (wn rfl) rfl F S rfl rfl (vs := [v10]) (OwnS.cl lh1) ts36 (one_cons (OwnS.one lh1) one_nil) (k := 0) rfl (lb rfl) (c' := #[v10]) rfl rfl ?_; clear S; intro w S
         replace S : St gd11 [[(b8, .cells #[v10] 38 (0, 0))]] fr w := S
         refine wpList_nil ⟨rfl, F.sz, F.df, _, [(b8, .cells #[v10] 38 (0, 0))], (Le.refl _), ?_, ⟨v10, (lst1 (F.get 142 _ rfl)), rfl⟩⟩
         refine St0.of_eq ?_ (flat3s c ([(b8, .cells #[v10] 38 (0, 0))]) [] fr).symm
         show St0 _ (fl ([[(b8, .cells #[v10] 38 (0, 0))]] ++ []) fr) _
         exact S
        clear F S; intro a w gd11 c hsz hdf hK ld11 hI S hN
        obtain ⟨v9, e9, lh1⟩ := hN 9 (by decide)
        have e141x : val a 141 = v9 := nth e9 0
        obtain ⟨v10, e10, lh2⟩ := hN 10 (by decide)
        have e142x : val a 142 = v10 := nth e10 0
        obtain ⟨dup1, e12, q12⟩ := hN 12 (by decide)
        obtain rfl : v10 = dup1 := by have hq := e142x.symm.trans (nth e12 0); simp at hq; first | exact hq | exact hq.1 | exact hq.2 | exact hq.2.1 | exact hq.2.2
        have F : Fr 160 a [(16, .int .i64 x4), (10, bp b8 0), (9, bp b7 0), (7, bp b5 0), (5, bp b4 0), (4, bp b3 0), (2, bp b1 0)] := Fr.of hsz hdf ⟨hK 16 (by decide) _ rfl, hK 10 (by decide) _ rfl, hK 9 (by decide) _ rfl, hK 7 (by decide) _ rfl, hK 5 (by decide) _ rfl, hK 4 (by decide) _ rfl, hK 2 (by decide) _ rfl, trivial⟩
        replace S : St gd11 [c 0, c 1, c 2, c 3, c 4, c 5, c 6, c 7, c 8, c 9, c 10, c 11, c 12, c 14, c 15, c 16, c 17, c 18, c 20] fr w := S.of_eq (flat_fl _ _ _)
        generalize c 9 = c5 at *
        generalize c 10 = c6 at *
        rw [q12] at S
        have q14 : c 14 = [(b7, .cells #[v1] 38 (0, 0))] := hI 1 _ rfl
        rw [q14] at S
        have q15 : c 15 = [(b5, .cells #[.int .i64 0, .int .i64 0] 24 (0, 0))] := hI 2 _ rfl
        rw [q15] at S
        have q16 : c 16 = [(b4, .cells #[nilS] 38 (0, 0))] := hI 3 _ rfl
        rw [q16] at S
        have q17 : c 17 = [(b3, .cells #[nilS] 38 (0, 0))] := hI 4 _ rfl
        rw [q17] at S
        have q18 : c 18 = [(b1, .cells #[vp_1] 38 (0, 0))] := hI 5 _ rfl
        rw [q18] at S
        have q20 : c 20 = c1 := hI 7 _ rfl
        rw [q20] at S
        replace S : St gd11 [c6, [(b8, .cells #[v10] 38 (0, 0))], [(b7, .cells #[v1] 38 (0, 0))], [(b5, .cells #[.int .i64 0, .int .i64 0] 24 (0, 0))], [(b4, .cells #[nilS] 38 (0, 0))], [(b3, .cells #[nilS] 38 (0, 0))], [(b1, .cells #[vp_1] 38 (0, 0))], c1] fr w := St.tail [c6, [(b8, .cells #[v10] 38 (0, 0))], [(b7, .cells #[v1] 38 (0, 0))], [(b5, .cells #[.int .i64 0, .int .i64 0] 24 (0, 0))], [(b4, .cells #[nilS] 38 (0, 0))], [(b3, .cells #[nilS] 38 (0, 0))], [(b1, .cells #[vp_1] 38 (0, 0))], c1] _ ((((((((S.frontC 18 rfl).frontC 18 rfl).frontC 18 rfl).frontC 18 rfl).frontC 18 rfl).frontC 18 rfl).frontC 18 rfl).frontC 17 rfl)
        clear hK hI hN hsz hdf e9 e10 e12 e141x e142x
        refine inb_n ?_
        refine then_n ?_
        replace S : St gd11 [[(b8, .cells #[v10] 38 (0, 0))], [(b7, .cells #[v1] 38 (0, 0))], [(b5, .cells #[.int .i64 0, .int .i64 0] 24 (0, 0))], [(b4, .cells #[nilS] 38 (0, 0))], [(b3, .cells #[nilS] 38 (0, 0))], [(b1, .cells #[vp_1] 38 (0, 0))], c6, c1] fr w := St.tail [[(b8, .cells #[v10] 38 (0, 0))], [(b7, .cells #[v1] 38 (0, 0))], [(b5, .cells #[.int .i64 0, .int .i64 0] 24 (0, 0))], [(b4, .cells #[nilS] 38 (0, 0))], [(b3, .cells #[nilS] 38 (0, 0))], [(b1, .cells #[vp_1] 38 (0, 0))], c6, c1] _ ((((((((S.frontC 7 rfl).frontC 1 rfl).frontC 8 rfl).frontC 8 rfl).frontC 8 rfl).frontC 8 rfl).frontC 8 rfl).frontC 8 rfl)
        exact ⟨y7, v10, c6, gd11, F.sub ⟨rfl, rfl, rfl, rfl, rfl, rfl, rfl, trivial⟩, (l12.trans ld11), S, lh2, hm⟩
      ·clear F S hm; rintro a w ⟨x7, v4, c4, g11, F, l11, S, h6, hm⟩
       refine wp_region_lit ?_
       refine wl_ev (wn rfl) (ev_move rfl) F S rfl rfl ?_; clear F a; intro a F
       obtain ⟨z1, hz1, hm⟩ := bind_some hm
       refine wl_ev (wn rfl) (ev_int rfl rfl (bo_add hz1)) F S rfl rfl ?_; clear F a; intro a F
       refine wl_ev (wn rfl) (ev_assign rfl) F S rfl rfl ?_; clear F a; intro a F
       refine wpList_nil ?_
       replace F := F.sub (e' := [(16, .int .i64 z1), (10, bp b8 0), (9, bp b7 0), (7, bp b5 0), (5, bp b4 0), (4, bp b3 0), (2, bp b1 0)]) ⟨rfl, rfl, rfl, rfl, rfl, rfl, rfl, trivial⟩
       refine then_n ?_
       obtain rfl := sinj hm
       refine ⟨_, rfl, ?_⟩
       dsimp only
       exact ⟨v4, c4, g11, F.sub ⟨rfl, rfl, rfl, rfl, rfl, rfl, rfl, trivial⟩, (l10.trans l11), S, h6⟩
     ·refine wp_condF F rfl hc4 ?_
      refine wp_exit ?_
      refine then_e ?_
      refine then_e ?_
      refine inb_x ?_
      refine then_n ?_
      obtain rfl := sinj hm
      obtain rfl := hfin1 _ rfl
      clear hm
      have hm : (changeforgeref1_Commute.j2 x1 x5 : Option (Patch × Patch × Bool × Fault)) = some _ := hmo1
      replace S : St g10 [[(b8, .cells #[v3] 38 (0, 0))], [(b7, .cells #[v1] 38 (0, 0))], [(b5, .cells #[.int .i64 0, .int .i64 0] 24 (0, 0))], [(b4, .cells #[nilS] 38 (0, 0))], [(b3, .cells #[nilS] 38 (0, 0))], c3, c1] fr w := St.tail [[(b8, .cells #[v3] 38 (0, 0))], [(b7, .cells #[v1] 38 (0, 0))], [(b5, .cells #[.int .i64 0, .int .i64 0] 24 (0, 0))], [(b4, .cells #[nilS] 38 (0, 0))], [(b3, .cells #[nilS] 38 (0, 0))], c3, c1] _ (((((((S.frontC 7 rfl).frontC 7 rfl).frontC 6 rfl).frontC 6 rfl).frontC 6 rfl).frontC 6 rfl).frontC 6 rfl)
      exact ⟨x5, v3, c3, g10, F.sub ⟨rfl, rfl, rfl, rfl, rfl, trivial⟩, l10, S, h5, hm⟩
   ·clear F S hm; rintro a w ⟨x2, v2, c2, g3, F, l3, S, h2, hm⟩
    refine wp_seq ?_
    refine wp_seq ?_
    refine wp_region_lit ?_
    refine wl_ev (wn rfl) (ev_loadA tu38 rfl (cs := [v1]) ts38 rfl (box_ptr (cells := [v1]) 1 rfl 0 rfl (lb rfl))) F S rfl rfl ?_; clear F a; intro a F
    obtain ⟨g4, l4, S, h3⟩ : ∃ gz, Le g3 gz ∧ St gz [[(b8, .cells #[v2] 38 (0, 0))], [(b7, .cells #[v1] 38 (0, 0))], [(b5, .cells #[.int .i64 0, .int .i64 0] 24 (0, 0))], [(b4, .cells #[nilS] 38 (0, 0))], [(b3, .cells #[nilS] 38 (0, 0))], c2] fr w ∧ RepSl gz x1 v1 := ⟨_, Le.add _ _, S.freeze 6 rfl, OwnS.freeze (S.front 6 rfl) (h1.mono l3)⟩
    obtain ⟨y2, hy2, hm⟩ := bind_some hm
    refine wl_call (wn rfl) rfl (xs := [.tmp 144]) (vs := [.agg #[v1]]) (cap := []) F rfl rfl tc46 (changeforgeref1_PatchFault_ok (g := g4) (fr := (fl [[(b8, .cells #[v2] 38 (0, 0))], [(b7, .cells #[v1] 38 (0, 0))], [(b5, .cells #[.int .i64 0, .int .i64 0] 24 (0, 0))], [(b4, .cells #[nilS] 38 (0, 0))], [(b3, .cells #[nilS] 38 (0, 0))], c2] fr)) (w := w) ({ Hunks := x1 } : Patch) v1 h3 S hy2) rfl rfl ?_; clear F a S
    rintro _ a w ⟨g5, l5, S, rfl⟩ F; replace S : St g5 [[(b8, .cells #[v2] 38 (0, 0))], [(b7, .cells #[v1] 38 (0, 0))], [(b5, .cells #[.int .i64 0, .int .i64 0] 24 (0, 0))], [(b4, .cells #[nilS] 38 (0, 0))], [(b3, .cells #[nilS] 38 (0, 0))], c2] fr w := S
    refine wl_ev (wn rfl) (ev_field1 tu24 tf24_0 tu3 rfl (cs := [.int .i64 y2.Code, .int .i64 y2.Index]) rfl rfl) F S rfl rfl ?_; clear F a; intro a F
    refine wl_ev (wn rfl) (ev_int rfl rfl (bo_neq _ _ _ _)) F S rfl rfl ?_; clear F a; intro a F
    refine wl_ev (wn rfl) (ev_move rfl) F S rfl rfl ?_; clear F a; intro a F
    obtain ⟨g6, l6, S, h4⟩ : ∃ gz, Le g5 gz ∧ St gz [[(b8, .cells #[v2] 38 (0, 0))], [(b7, .cells #[v1] 38 (0, 0))], [(b5, .cells #[.int .i64 0, .int .i64 0] 24 (0, 0))], [(b4, .cells #[nilS] 38 (0, 0))], [(b3, .cells #[nilS] 38 (0, 0))]] fr w ∧ RepSl gz x2 v2 := ⟨_, Le.add _ _, S.freeze 5 rfl, OwnS.freeze (S.front 5 rfl) (h2.mono (l4.trans l5))⟩
    obtain ⟨x3, hx1, hm⟩ := bind_some hm
    refine wl_cut 5 (fun a w => ∃ g7, Fr 160 a [(153, .bool x3), (10, bp b8 0), (9, bp b7 0), (7, bp b5 0), (5, bp b4 0), (4, bp b3 0)] ∧ Le g6 g7 ∧ St g7 [[(b8, .cells #[v2] 38 (0, 0))], [(b7, .cells #[v1] 38 (0, 0))], [(b5, .cells #[.int .i64 0, .int .i64 0] 24 (0, 0))], [(b4, .cells #[nilS] 38 (0, 0))], [(b3, .cells #[nilS] 38 (0, 0))]] fr w) ?_ ?_
    ·clear hm; obtain ⟨hc2, hm⟩ | ⟨hc2, hm⟩ := ite_or hx1
     ·refine wl_skip rfl rfl rfl rfl (ne_ft hc2) F rfl rfl ?_; clear F a; intro a F
      refine wl_skip rfl rfl rfl rfl (ne_ft hc2) F rfl rfl ?_; clear F a; intro a F
      refine wl_skip rfl rfl rfl rfl (ne_ft hc2) F rfl rfl ?_; clear F a; intro a F
      refine wl_skip rfl rfl rfl rfl (ne_ft hc2) F rfl rfl ?_; clear F a; intro a F
      refine wl_ev (wn rfl) (ev_pickT rfl hc2 rfl) F S rfl rfl ?_; clear F a; intro a F
      obtain rfl := sinj hm
      refine wpList_nil (then_n ?_); exact ⟨g6, F.sub ⟨rfl, rfl, rfl, rfl, rfl, rfl, trivial⟩, (Le.refl _), S⟩
     ·refine wl_ev (wg F rfl rfl rfl rfl hc2) (ev_loadA tu38 rfl (cs := [v2]) ts38 rfl (box_ptr (cells := [v2]) 0 rfl 0 rfl (lb rfl))) F S rfl rfl ?_; clear F a; intro a F
      obtain ⟨y3, hy3, hm⟩ := bind_some hm
      refine wl_call (wg F rfl rfl rfl rfl hc2) rfl (xs := [.tmp 149]) (vs := [.agg #[v2]]) (cap := []) F rfl rfl tc46 (changeforgeref1_PatchFault_ok (g := g6) (fr := (fl [[(b8, .cells #[v2] 38 (0, 0))], [(b7, .cells #[v1] 38 (0, 0))], [(b5, .cells #[.int .i64 0, .int .i64 0] 24 (0, 0))], [(b4, .cells #[nilS] 38 (0, 0))], [(b3, .cells #[nilS] 38 (0, 0))]] fr)) (w := w) ({ Hunks := x2 } : Patch) v2 h4 S hy3) rfl rfl ?_; clear F a S
      rintro _ a w ⟨g8, l8, S, rfl⟩ F; replace S : St g8 [[(b8, .cells #[v2] 38 (0, 0))], [(b7, .cells #[v1] 38 (0, 0))], [(b5, .cells #[.int .i64 0, .int .i64 0] 24 (0, 0))], [(b4, .cells #[nilS] 38 (0, 0))], [(b3, .cells #[nilS] 38 (0, 0))]] fr w := S
      refine wl_ev (wg F rfl rfl rfl rfl hc2) (ev_field1 tu24 tf24_0 tu3 rfl (cs := [.int .i64 y3.Code, .int .i64 y3.Index]) rfl rfl) F S rfl rfl ?_; clear F a; intro a F
      refine wl_ev (wg F rfl rfl rfl rfl hc2) (ev_int rfl rfl (bo_neq _ _ _ _)) F S rfl rfl ?_; clear F a; intro a F
      refine wl_ev (wn rfl) (ev_pickF rfl hc2 rfl) F S rfl rfl ?_; clear F a; intro a F
      obtain rfl := sinj hm
      refine wpList_nil (then_n ?_); exact ⟨g8, F.sub ⟨rfl, rfl, rfl, rfl, rfl, rfl, trivial⟩, l8, S⟩
    clear F S; rintro a w ⟨g7, F, l7, S⟩
    refine wpList_nil ?_
    refine then_n ?_
    obtain ⟨hc3, hm⟩ | ⟨hc3, hm⟩ := ite_or hm
    ·refine wp_condT F rfl hc3 ?_
     refine wp_seq ?_
     refine wp_region_lit ?_
     refine wl_ev (wn rfl) (ev_build (parts := []) (vs := []) rfl (fun w => tb38_  w)) F S rfl rfl ?_; clear F a; intro a F
     refine wl_ev (wn rfl) (ev_build (parts := []) (vs := []) rfl (fun w => tb38_  w)) F S rfl rfl ?_; clear F a; intro a F
     obtain ⟨y4, hy4, hm⟩ := bind_some hm
     refine wl_call (wn rfl) rfl (xs := [.const (.int .i64 10), .const (.int .i64 (-1))]) (vs := [.int .i64 10, .int .i64 (-1)]) (cap := []) F rfl rfl tc26 (changeforgeref1_At_ok (g := g7) (fr := (fl [[(b8, .cells #[v2] 38 (0, 0))], [(b7, .cells #[v1] 38 (0, 0))], [(b5, .cells #[.int .i64 0, .int .i64 0] 24 (0, 0))], [(b4, .cells #[nilS] 38 (0, 0))], [(b3, .cells #[nilS] 38 (0, 0))]] fr)) (w := w) 10 (-1) S hy4) rfl rfl ?_; clear F a S
     rintro _ a w ⟨g9, l9, S, rfl⟩ F; replace S : St g9 [[(b8, .cells #[v2] 38 (0, 0))], [(b7, .cells #[v1] 38 (0, 0))], [(b5, .cells #[.int .i64 0, .int .i64 0] 24 (0, 0))], [(b4, .cells #[nilS] 38 (0, 0))], [(b3, .cells #[nilS] 38 (0, 0))]] fr w := S
     refine wl_storeC (wn rfl) rfl F S rfl rfl (vs := [nilS]) rfl ts38 (one_cons rfl one_nil) (k := 4) rfl (lb rfl) (c' := #[nilS]) rfl rfl ?_; clear S; intro w S
     replace S : St g9 [[(b8, .cells #[v2] 38 (0, 0))], [(b7, .cells #[v1] 38 (0, 0))], [(b5, .cells #[.int .i64 0, .int .i64 0] 24 (0, 0))], [(b4, .cells #[nilS] 38 (0, 0))], [(b3, .cells #[nilS] 38 (0, 0))]] fr w := S
     refine wl_storeC (wn rfl) rfl F S rfl rfl (vs := [nilS]) rfl ts38 (one_cons rfl one_nil) (k := 3) rfl (lb rfl) (c' := #[nilS]) rfl rfl ?_; clear S; intro w S
     replace S : St g9 [[(b8, .cells #[v2] 38 (0, 0))], [(b7, .cells #[v1] 38 (0, 0))], [(b5, .cells #[.int .i64 0, .int .i64 0] 24 (0, 0))], [(b4, .cells #[nilS] 38 (0, 0))], [(b3, .cells #[nilS] 38 (0, 0))]] fr w := S
     refine wl_ev (wn rfl) (ev_assign rfl) F S rfl rfl ?_; clear F a; intro a F
     refine wl_storeC (wn rfl) rfl F S rfl rfl (vs := [.int .i64 y4.Code, .int .i64 y4.Index]) rfl ts24 (one_cons rfl (one_cons rfl one_nil)) (k := 2) rfl (lb rfl) (c' := #[.int .i64 y4.Code, .int .i64 y4.Index]) rfl rfl ?_; clear S; intro w S
     replace S : St g9 [[(b8, .cells #[v2] 38 (0, 0))], [(b7, .cells #[v1] 38 (0, 0))], [(b5, .cells #[.int .i64 y4.Code, .int .i64 y4.Index] 24 (0, 0))], [(b4, .cells #[nilS] 38 (0, 0))], [(b3, .cells #[nilS] 38 (0, 0))]] fr w := S
     refine wpList_nil ?_
     replace F := F.sub (e' := [(6, .bool false), (7, bp b5 0), (5, bp b4 0), (4, bp b3 0)]) ⟨rfl, rfl, rfl, rfl, trivial⟩
     refine then_n ?_
     refine wp_ret ?_
     refine then_r ?_
     obtain rfl := sinj hm
     refine post_r (fn := Try.f47) (rs := [.cell 4 38, .cell 5 38, .tmp 6, .cell 7 24]) [.agg #[nilS], .agg #[nilS], .bool false, .agg #[.int .i64 y4.Code, .int .i64 y4.Index]] F rfl (ar_cons (resA rfl tu38 rfl ts38 (box_ptr (cells := [nilS]) 4 rfl 0 rfl (lb rfl) w S)) (ar_cons (resA rfl tu38 rfl ts38 (box_ptr (cells := [nilS]) 3 rfl 0 rfl (lb rfl) w S)) (ar_cons (resT rfl) (ar_cons (resA rfl tu24 rfl ts24 (box_ptr (cells := [.int .i64 y4.Code, .int .i64 y4.Index]) 2 rfl 0 rfl (lb rfl) w S)) ar_nil)))) ?_
     replace S : St g9 [] fr w := St.tail [] _ S
     exact ⟨_, rfl, g9, (nilS), (nilS), (((((((l1.trans l2).trans l3).trans l4).trans l5).trans l6).trans l7).trans l9), S, (RepSl.nil _), (RepSl.nil _), rfl⟩
    ·refine wp_condF F rfl hc3 ?_
     refine wp_skip ?_
     refine then_n ?_
     refine wp_seq ?_
     refine wp_drawL ⟨5, [[157], [158], [159], [], [], [6], []], [[], [], [], [11], [10], [], [9]], [[8], [7], [], [], [], [], []], [[9], [10], [], [4], [5], [], [7]], [[], [], [], [0], [1], [], [2]], [7, 5, 4], [0, 1, 2, 3, 4, 5, 6, 7, 8]⟩
      [([157], fun us g c => us = [.agg #[v1]]),
       ([158], fun us g c => us = [.agg #[v2]]),
       ([159], fun us g c => us = [.agg #[.int .i64 0, .int .i64 0]]),
       ([], fun us g c => us = [] ∧ c = [(b3, .cells #[v1] 38 (0, 0))]),
       ([], fun us g c => us = [] ∧ c = [(b4, .cells #[v2] 38 (0, 0))]),
       ([6], fun us g c => us = [.bool true]),
       ([], fun us g c => us = [] ∧ c = [(b5, .cells #[.int .i64 0, .int .i64 0] 24 (0, 0))])]
      mo (by kernel_rfl) rfl rfl ⟨fun _ _ _ _ _ h => h, fun _ _ _ _ _ h => h, fun _ _ _ _ _ h => h, fun _ _ _ _ _ h => h, fun _ _ _ _ _ h => h, fun _ _ _ _ _ h => h, fun _ _ _ _ _ h => h, trivial⟩ F S ⟨?_, ?_, ?_, ?_, ?_, ?_, ?_, trivial⟩ ?_
     ·intro a w gd6 c fr hsz hdf hK ld6 hN hI S
      have F : Fr 160 a [(9, bp b7 0)] := Fr.of hsz hdf ⟨hK 9 (by decide) _ rfl, trivial⟩
      replace S : St gd6 [c 8] fr w := S.of_eq (flat2 _ _ _ _)
      have q8 : c 8 = [(b7, .cells #[v1] 38 (0, 0))] := hI 1 _ rfl
      rw [q8] at S
      refine wl_ev (wn rfl) (ev_loadA tu38 rfl (cs := [v1]) ts38 rfl (box_ptr (cells := [v1]) 0 rfl 0 rfl (lb rfl))) F S rfl rfl ?_; clear F; intro a F
      refine wpList_nil ⟨rfl, F.sz, F.df, _, [], (Le.refl _), ?_, (lst1 (F.get 157 _ rfl))⟩
      refine St0.of_eq ?_ (flat3 c [] [8] fr).symm
      show St0 _ (fl ([] ++ [c 8]) fr) _
      rw [q8]
      exact S
     ·intro a w gd6 c fr hsz hdf hK ld6 hN hI S
      have F : Fr 160 a [(10, bp b8 0)] := Fr.of hsz hdf ⟨hK 10 (by decide) _ rfl, trivial⟩
      replace S : St gd6 [c 7] fr w := S.of_eq (flat2 _ _ _ _)
      have q7 : c 7 = [(b8, .cells #[v2] 38 (0, 0))] := hI 0 _ rfl
      rw [q7] at S
      refine wl_ev (wn rfl) (ev_loadA tu38 rfl (cs := [v2]) ts38 rfl (box_ptr (cells := [v2]) 0 rfl 0 rfl (lb rfl))) F S rfl rfl ?_; clear F; intro a F
      refine wpList_nil ⟨rfl, F.sz, F.df, _, [], (Le.refl _), ?_, (lst1 (F.get 158 _ rfl))⟩
      refine St0.of_eq ?_ (flat3 c [] [7] fr).symm
      show St0 _ (fl ([] ++ [c 7]) fr) _
      rw [q7]
      exact S
     ·intro a w gd6 c fr hsz hdf hK ld6 hN hI S
      have F : Fr 160 a [] := Fr.of hsz hdf trivial
      replace S : St gd6 [] fr w := S.of_eq (flat2 _ _ _ _)
      refine wl_ev (wn rfl) (ev_build (parts := []) (vs := []) rfl (fun w => tb24_  w)) F S rfl rfl ?_; clear F; intro a F
      refine wpList_nil ⟨rfl, F.sz, F.df, _, [], (Le.refl _), ?_, (lst1 (F.get 159 _ rfl))⟩
      refine St0.of_eq ?_ (flat3 c [] [] fr).symm
      show St0 _ (fl ([] ++ []) fr) _
      exact S
     ·intro a w gd6 c fr hsz hdf hK ld6 hN hI S
      have e0 := hN 0 (by decide)
      have e157x : val a 157 = .agg #[v1] := nth e0 0
      have F : Fr 160 a [(4, bp b3 0), (157, .agg #[v1])] := Fr.of hsz hdf ⟨hK 4 (by decide) _ rfl, e157x, trivial⟩
      replace S : St gd6 [c 11] fr w := S.of_eq (flat2 _ _ _ _)
      have q11 : c 11 = [(b3, .cells #[nilS] 38 (0, 0))] := hI 4 _ rfl
      rw [q11] at S
      refine wl_storeC (wn rfl) rfl F S rfl rfl (vs := [v1]) rfl ts38 (one_cons h3.one one_nil) (k := 0) rfl (lb rfl) (c' := #[v1]) rfl rfl ?_; clear S; intro w S
      replace S : St gd6 [[(b3, .cells #[v1] 38 (0, 0))]] fr w := S
      refine wpList_nil ⟨rfl, F.sz, F.df, _, [(b3, .cells #[v1] 38 (0, 0))], (Le.refl _), ?_, ⟨rfl, rfl⟩⟩
      refine St0.of_eq ?_ (flat3s c ([(b3, .cells #[v1] 38 (0, 0))]) [] fr).symm
      show St0 _ (fl ([[(b3, .cells #[v1] 38 (0, 0))]] ++ []) fr) _
      exact S
     ·intro a w gd6 c fr hsz hdf hK ld6 hN hI S
      have e1 := hN 1 (by decide)
      have e158x : val a 158 = .agg #[v2] := nth e1 0
      have F : Fr 160 a [(5, bp b4 0), (158, .agg #[v2])] := Fr.of hsz hdf ⟨hK 5 (by decide) _ rfl, e158x, trivial⟩
      replace S : St gd6 [c 10] fr w := S.of_eq (flat2 _ _ _ _)
      have q10 : c 10 = [(b4, .cells #[nilS] 38 (0, 0))] := hI 3 _ rfl
      rw [q10] at S
      refine wl_storeC (wn rfl) rfl F S rfl rfl (vs := [v2]) rfl ts38 (one_cons h4.one one_nil) (k := 0) rfl (lb rfl) (c' := #[v2]) rfl rfl ?_; clear S; intro w S
      replace S : St gd6 [[(b4, .cells #[v2] 38 (0, 0))]] fr w := S
      refine wpList_nil ⟨rfl, F.sz, F.df, _, [(b4, .cells #[v2] 38 (0, 0))], (Le.refl _), ?_, ⟨rfl, rfl⟩⟩
      refine St0.of_eq ?_ (flat3s c ([(b4, .cells #[v2] 38 (0, 0))]) [] fr).symm
      show St0 _ (fl ([[(b4, .cells #[v2] 38 (0, 0))]] ++ []) fr) _
      exact S
     ·intro a w gd6 c fr hsz hdf hK ld6 hN hI S
      have F : Fr 160 a [] := Fr.of hsz hdf trivial
      replace S : St gd6 [] fr w := S.of_eq (flat2 _ _ _ _)
      refine wl_ev (wn rfl) (ev_assign rfl) F S rfl rfl ?_; clear F; intro a F
      refine wpList_nil ⟨rfl, F.sz, F.df, _, [], (Le.refl _), ?_, (lst1 (F.get 6 _ rfl))⟩
      refine St0.of_eq ?_ (flat3 c [] [] fr).symm
      show St0 _ (fl ([] ++ []) fr) _
      exact S
     ·intro a w gd6 c fr hsz hdf hK ld6 hN hI S
      have e2 := hN 2 (by decide)
      have e159x : val a 159 = .agg #[.int .i64 0, .int .i64 0] := nth e2 0
      have F : Fr 160 a [(7, bp b5 0), (159, .agg #[.int .i64 0, .int .i64 0])] := Fr.of hsz hdf ⟨hK 7 (by decide) _ rfl, e159x, trivial⟩
      replace S : St gd6 [c 9] fr w := S.of_eq (flat2 _ _ _ _)
      have q9 : c 9 = [(b5, .cells #[.int .i64 0, .int .i64 0] 24 (0, 0))] := hI 2 _ rfl
      rw [q9] at S
      refine wl_storeC (wn rfl) rfl F S rfl rfl (vs := [.int .i64 0, .int .i64 0]) rfl ts24 (one_cons rfl (one_cons rfl one_nil)) (k := 0) rfl (lb rfl) (c' := #[.int .i64 0, .int .i64 0]) rfl rfl ?_; clear S; intro w S
      replace S : St gd6 [[(b5, .cells #[.int .i64 0, .int .i64 0] 24 (0, 0))]] fr w := S
      refine wpList_nil ⟨rfl, F.sz, F.df, _, [(b5, .cells #[.int .i64 0, .int .i64 0] 24 (0, 0))], (Le.refl _), ?_, ⟨rfl, rfl⟩⟩
      refine St0.of_eq ?_ (flat3s c ([(b5, .cells #[.int .i64 0, .int .i64 0] 24 (0, 0))]) [] fr).symm
      show St0 _ (fl ([[(b5, .cells #[.int .i64 0, .int .i64 0] 24 (0, 0))]] ++ []) fr) _
      exact S
     clear F S; intro a w gd6 c hsz hdf hK ld6 hI S hN
     obtain ⟨e3, q3⟩ := hN 3 (by decide)
     obtain ⟨e4, q4⟩ := hN 4 (by decide)
     have e5 := hN 5 (by decide)
     have e6x : val a 6 = .bool true := nth e5 0
     obtain ⟨e6, q6⟩ := hN 6 (by decide)
     have F : Fr 160 a [(7, bp b5 0), (5, bp b4 0), (4, bp b3 0), (6, .bool true)] := Fr.of hsz hdf ⟨hK 7 (by decide) _ rfl, hK 5 (by decide) _ rfl, hK 4 (by decide) _ rfl, e6x, trivial⟩
     replace S : St gd6 [c 0, c 1, c 2, c 3, c 4, c 5, c 6, c 7, c 8] fr w := S.of_eq (flat_fl _ _ _)
     rw [q3] at S
     rw [q4] at S
     rw [q6] at S
     have q7 : c 7 = [(b8, .cells #[v2] 38 (0, 0))] := hI 0 _ rfl
     rw [q7] at S
     have q8 : c 8 = [(b7, .cells #[v1] 38 (0, 0))] := hI 1 _ rfl
     rw [q8] at S
     replace S : St gd6 [[(b3, .cells #[v1] 38 (0, 0))], [(b4, .cells #[v2] 38 (0, 0))], [(b5, .cells #[.int .i64 0, .int .i64 0] 24 (0, 0))]] fr w := St.tail [[(b3, .cells #[v1] 38 (0, 0))], [(b4, .cells #[v2] 38 (0, 0))], [(b5, .cells #[.int .i64 0, .int .i64 0] 24 (0, 0))]] _ (((S.frontC 6 rfl).frontC 5 rfl).frontC 5 rfl)
     clear hK hI hN hsz hdf e3 e4 e5 e6 e6x
     refine then_n ?_
     refine wp_ret ?_
     obtain rfl := sinj hm
     refine post_r (fn := Try.f47) (rs := [.cell 4 38, .cell 5 38, .tmp 6, .cell 7 24]) [.agg #[v1], .agg #[v2], .bool true, .agg #[.int .i64 0, .int .i64 0]] F rfl (ar_cons (resA rfl tu38 rfl ts38 (box_ptr (cells := [v1]) 0 rfl 0 rfl (lb rfl) w S)) (ar_cons (resA rfl tu38 rfl ts38 (box_ptr (cells := [v2]) 1 rfl 0 rfl (lb rfl) w S)) (ar_cons (resT rfl) (ar_cons (resA rfl tu24 rfl ts24 (box_ptr (cells := [.int .i64 0, .int .i64 0]) 2 rfl 0 rfl (lb rfl) w S)) ar_nil)))) ?_
     replace S : St gd6 [] fr w := St.tail [] _ S
     exact ⟨_, rfl, gd6, v1, v2, (((((((l1.trans l2).trans l3).trans l4).trans l5).trans l6).trans l7).trans ld6), S, (h3.mono (((l5.trans l6).trans l7).trans ld6)), (h4.mono (l7.trans ld6)), rfl⟩
end Go.Dc
