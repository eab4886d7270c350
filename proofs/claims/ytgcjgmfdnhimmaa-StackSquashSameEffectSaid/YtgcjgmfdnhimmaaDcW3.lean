/- Walks: each function comes to what its model says. -/
import Derived.Test.YtgcjgmfdnhimmaaDcTab
import Derived.Test.YtgcjgmfdnhimmaaDcM
import Derived.Test.YtgcjgmfdnhimmaaDcW1
import Derived.Test.YtgcjgmfdnhimmaaDcW2
namespace Go.Dc
open Go Go.Proofs
set_option maxRecDepth 100000
set_option maxHeartbeats 4000000
set_option linter.unusedVariables false
theorem commute_Commute_ok {g : Gh} {fr : Hl} {w : World} {r : Patch × Patch × Bool × Fault} (p_ : Patch) (vp_1 : Value) (hp_1 : RepSl g p_.Hunks vp_1) (q_ : Patch) (vq_1 : Value) (hq_1 : RepSl g q_.Hunks vq_1) (S : St g [] fr w) (hm : commute_Commute p_ q_ = some r) :
  Calls Try.prog 18 [.agg #[vp_1], .agg #[vq_1]].toArray w (fun en w' => ∃ v, en = .returned v ∧ ∃ (g' : Gh) (v1 v2 : Value), Le g g' ∧ St g' [] fr w' ∧ RepSl g' r.1.Hunks v1 ∧ RepSl g' r.2.1.Hunks v2 ∧ .tuple #[.agg #[v1], .agg #[v2], .bool r.2.2.1, .agg #[.int .i64 r.2.2.2.Code, .int .i64 r.2.2.2.Index]] = v) := by
 unfold commute_Commute at hm
 refine calls_enter (fn := Try.f18) Try.func18 rfl Try.ntmps18 (lb rfl) ?_
 intro a F
 replace F : Fr 62 a [(0, .agg #[vp_1]), (1, .agg #[vq_1])] := F
 refine wp_seq ?_
 refine wp_region_lit ?_
 refine wl_boxC (wn rfl) rfl rfl rfl F S rfl rfl ?_; clear F a S; rintro b1 a w F S
 refine wl_boxC (wn rfl) rfl rfl rfl F S rfl rfl ?_; clear F a S; rintro b2 a w F S
 refine wl_alloc (wn rfl) rfl tz38 (cs := [nilS]) rfl F S rfl rfl ?_; clear F a S; rintro b3 a w F S
 refine wl_alloc (wn rfl) rfl tz38 (cs := [nilS]) rfl F S rfl rfl ?_; clear F a S; rintro b4 a w F S
 refine wl_ev (wn rfl) (ev_assign rfl) F S rfl rfl ?_; clear F a; intro a F
 refine wl_alloc (wn rfl) rfl tz24 (cs := [.int .i64 0, .int .i64 0]) rfl F S rfl rfl ?_; clear F a S; rintro b5 a w F S
 refine wpList_nil ?_
 replace F := F.sub (e' := [(7, bp b5 0), (5, bp b4 0), (4, bp b3 0), (3, bp b2 0), (2, bp b1 0)]) ⟨rfl, rfl, rfl, rfl, rfl, trivial⟩
 refine then_n ?_
 refine wp_seq ?_
 refine wp_region_lit ?_
 refine wl_alloc (wn rfl) rfl tz38 (cs := [nilS]) rfl F S rfl rfl ?_; clear F a S; rintro b6 a w F S
 refine wpList_nil ?_
 refine then_n ?_
 refine wp_seq ?_
 refine wp_seq ?_
 refine wp_region_lit ?_
 refine wl_ev (wn rfl) (ev_loadA tu38 rfl (cs := [vp_1]) ts38 rfl (box_ptr (cells := [vp_1]) 5 rfl 0 rfl (lb rfl))) F S rfl rfl ?_; clear F a; intro a F
 refine wl_ev (wn rfl) (ev_loadA tu38 rfl (cs := [vq_1]) ts38 rfl (box_ptr (cells := [vq_1]) 4 rfl 0 rfl (lb rfl))) F S rfl rfl ?_; clear F a; intro a F
 obtain ⟨y1, hy1, hm⟩ := bind_some hm
 refine wl_call (wn rfl) rfl (xs := [.tmp 14, .tmp 15]) (vs := [.agg #[vp_1], .agg #[vq_1]]) (cap := []) F rfl rfl tc31 (commute_both_ok (g := g) (fr := (fl [[(b6, .cells #[nilS] 38 (0, 0))], [(b5, .cells #[.int .i64 0, .int .i64 0] 24 (0, 0))], [(b4, .cells #[nilS] 38 (0, 0))], [(b3, .cells #[nilS] 38 (0, 0))], [(b2, .cells #[vq_1] 38 (0, 0))], [(b1, .cells #[vp_1] 38 (0, 0))]] fr)) (w := w) p_ vp_1 hp_1 q_ vq_1 hq_1 S hy1) rfl rfl ?_; clear F a S
 rintro _ a w ⟨g1, l1, S, rfl⟩ F; replace S : St g1 [[(b6, .cells #[nilS] 38 (0, 0))], [(b5, .cells #[.int .i64 0, .int .i64 0] 24 (0, 0))], [(b4, .cells #[nilS] 38 (0, 0))], [(b3, .cells #[nilS] 38 (0, 0))], [(b2, .cells #[vq_1] 38 (0, 0))], [(b1, .cells #[vp_1] 38 (0, 0))]] fr w := S
 refine wl_alloc (wn rfl) rfl tz24 (cs := [.int .i64 0, .int .i64 0]) rfl F S rfl rfl ?_; clear F a S; rintro b7 a w F S
 refine wl_storeC (wn rfl) rfl F S rfl rfl (vs := [.int .i64 y1.Code, .int .i64 y1.Index]) rfl ts24 (one_cons rfl (one_cons rfl one_nil)) (k := 0) rfl (lb rfl) (c' := #[.int .i64 y1.Code, .int .i64 y1.Index]) rfl rfl ?_; clear S; intro w S
 replace S : St g1 [[(b7, .cells #[.int .i64 y1.Code, .int .i64 y1.Index] 24 (0, 0))], [(b6, .cells #[nilS] 38 (0, 0))], [(b5, .cells #[.int .i64 0, .int .i64 0] 24 (0, 0))], [(b4, .cells #[nilS] 38 (0, 0))], [(b3, .cells #[nilS] 38 (0, 0))], [(b2, .cells #[vq_1] 38 (0, 0))], [(b1, .cells #[vp_1] 38 (0, 0))]] fr w := S
 refine wpList_nil ?_
 replace F := F.sub (e' := [(9, bp b7 0), (8, bp b6 0), (7, bp b5 0), (5, bp b4 0), (4, bp b3 0), (3, bp b2 0), (2, bp b1 0)]) ⟨rfl, rfl, rfl, rfl, rfl, rfl, rfl, trivial⟩
 refine then_n ?_
 refine wp_seq ?_
 refine wp_region_lit ?_
 refine wl_ev (wn rfl) (ev_loadA tu24 rfl (cs := [.int .i64 y1.Code, .int .i64 y1.Index]) ts24 rfl (box_ptr (cells := [.int .i64 y1.Code, .int .i64 y1.Index]) 0 rfl 0 rfl (lb rfl))) F S rfl rfl ?_; clear F a; intro a F
 refine wl_ev (wn rfl) (ev_build (parts := []) (vs := []) rfl (fun w => tb24_  w)) F S rfl rfl ?_; clear F a; intro a F
 refine wl_ev (wn rfl) (ev_neS tu24 tqa24 tqb24 tqc24 (xs := [.int .i64 y1.Code, .int .i64 y1.Index]) (ys := [.int .i64 0, .int .i64 0]) rfl rfl ⟨_, _, rfl, by decide, ⟨_, _, rfl, rfl, leaf_int tu3⟩, ⟨_, _, rfl, by decide, ⟨_, _, rfl, rfl, leaf_int tu3⟩, rfl⟩⟩) F S rfl rfl ?_; clear F a; intro a F
 refine wpList_nil ?_
 replace F := F.sub (e' := [(19, .bool (!(decide (y1.Code = 0) && decide (y1.Index = 0)))), (9, bp b7 0), (8, bp b6 0), (7, bp b5 0), (5, bp b4 0), (4, bp b3 0), (3, bp b2 0), (2, bp b1 0)]) ⟨rfl, rfl, rfl, rfl, rfl, rfl, rfl, rfl, trivial⟩
 refine then_n ?_
 obtain ⟨hc1, hm⟩ | ⟨hc1, hm⟩ := ite_or hm
 ·refine wp_condT F rfl hc1 ?_
  refine wp_seq ?_
  refine wp_drawL ⟨7, [[20], [21], [22], [], [], [6], []], [[], [], [], [11], [10], [], [9]], [[8], [8], [7], [], [], [], []], [[8], [8], [9], [4], [5], [], [7]], [[], [], [], [0], [1], [], [2]], [7, 5, 4], [0, 1, 2, 3, 4, 5, 6, 7, 8, 12, 13]⟩
   [([20], fun us g c => us = [.agg #[nilS]]),
    ([21], fun us g c => us = [.agg #[nilS]]),
    ([22], fun us g c => us = [.agg #[.int .i64 y1.Code, .int .i64 y1.Index]]),
    ([], fun us g c => us = [] ∧ c = [(b3, .cells #[nilS] 38 (0, 0))]),
    ([], fun us g c => us = [] ∧ c = [(b4, .cells #[nilS] 38 (0, 0))]),
    ([6], fun us g c => us = [.bool false]),
    ([], fun us g c => us = [] ∧ c = [(b5, .cells #[.int .i64 y1.Code, .int .i64 y1.Index] 24 (0, 0))])]
   mo (by kernel_rfl) rfl rfl ⟨fun _ _ _ _ _ h => h, fun _ _ _ _ _ h => h, fun _ _ _ _ _ h => h, fun _ _ _ _ _ h => h, fun _ _ _ _ _ h => h, fun _ _ _ _ _ h => h, fun _ _ _ _ _ h => h, trivial⟩ F S ⟨?_, ?_, ?_, ?_, ?_, ?_, ?_, trivial⟩ ?_
  ·intro a w gd1 c fr hsz hdf hK ld1 hN hI S
   have F : Fr 62 a [(8, bp b6 0)] := Fr.of hsz hdf ⟨hK 8 (by decide) _ rfl, trivial⟩
   replace S : St gd1 [c 8] fr w := S.of_eq (flat2 _ _ _ _)
   have q8 : c 8 = [(b6, .cells #[nilS] 38 (0, 0))] := hI 1 _ rfl
   rw [q8] at S
   refine wl_ev (wn rfl) (ev_loadA tu38 rfl (cs := [nilS]) ts38 rfl (box_ptr (cells := [nilS]) 0 rfl 0 rfl (lb rfl))) F S rfl rfl ?_; clear F; intro a F
   refine wpList_nil ⟨rfl, F.sz, F.df, _, [], (Le.refl _), ?_, (lst1 (F.get 20 _ rfl))⟩
   refine St0.of_eq ?_ (flat3 c [] [8] fr).symm
   show St0 _ (fl ([] ++ [c 8]) fr) _
   rw [q8]
   exact S
  ·intro a w gd1 c fr hsz hdf hK ld1 hN hI S
   have F : Fr 62 a [(8, bp b6 0)] := Fr.of hsz hdf ⟨hK 8 (by decide) _ rfl, trivial⟩
   replace S : St gd1 [c 8] fr w := S.of_eq (flat2 _ _ _ _)
   have q8 : c 8 = [(b6, .cells #[nilS] 38 (0, 0))] := hI 1 _ rfl
   rw [q8] at S
   refine wl_ev (wn rfl) (ev_loadA tu38 rfl (cs := [nilS]) ts38 rfl (box_ptr (cells := [nilS]) 0 rfl 0 rfl (lb rfl))) F S rfl rfl ?_; clear F; intro a F
   refine wpList_nil ⟨rfl, F.sz, F.df, _, [], (Le.refl _), ?_, (lst1 (F.get 21 _ rfl))⟩
   refine St0.of_eq ?_ (flat3 c [] [8] fr).symm
   show St0 _ (fl ([] ++ [c 8]) fr) _
   rw [q8]
   exact S
  ·intro a w gd1 c fr hsz hdf hK ld1 hN hI S
   have F : Fr 62 a [(9, bp b7 0)] := Fr.of hsz hdf ⟨hK 9 (by decide) _ rfl, trivial⟩
   replace S : St gd1 [c 7] fr w := S.of_eq (flat2 _ _ _ _)
   have q7 : c 7 = [(b7, .cells #[.int .i64 y1.Code, .int .i64 y1.Index] 24 (0, 0))] := hI 0 _ rfl
   rw [q7] at S
   refine wl_ev (wn rfl) (ev_loadA tu24 rfl (cs := [.int .i64 y1.Code, .int .i64 y1.Index]) ts24 rfl (box_ptr (cells := [.int .i64 y1.Code, .int .i64 y1.Index]) 0 rfl 0 rfl (lb rfl))) F S rfl rfl ?_; clear F; intro a F
   refine wpList_nil ⟨rfl, F.sz, F.df, _, [], (Le.refl _), ?_, (lst1 (F.get 22 _ rfl))⟩
   refine St0.of_eq ?_ (flat3 c [] [7] fr).symm
   show St0 _ (fl ([] ++ [c 7]) fr) _
   rw [q7]
   exact S
  ·intro a w gd1 c fr hsz hdf hK ld1 hN hI S
   have e0 := hN 0 (by decide)
   have e20x : val a 20 = .agg #[nilS] := nth e0 0
   have F : Fr 62 a [(4, bp b3 0), (20, .agg #[nilS])] := Fr.of hsz hdf ⟨hK 4 (by decide) _ rfl, e20x, trivial⟩
   replace S : St gd1 [c 11] fr w := S.of_eq (flat2 _ _ _ _)
   have q11 : c 11 = [(b3, .cells #[nilS] 38 (0, 0))] := hI 4 _ rfl
   rw [q11] at S
   refine wl_storeC (wn rfl) rfl F S rfl rfl (vs := [nilS]) rfl ts38 (one_cons rfl one_nil) (k := 0) rfl (lb rfl) (c' := #[nilS]) rfl rfl ?_; clear S; intro w S
   replace S : St gd1 [[(b3, .cells #[nilS] 38 (0, 0))]] fr w := S
   refine wpList_nil ⟨rfl, F.sz, F.df, _, [(b3, .cells #[nilS] 38 (0, 0))], (Le.refl _), ?_, ⟨rfl, rfl⟩⟩
   refine St0.of_eq ?_ (flat3s c ([(b3, .cells #[nilS] 38 (0, 0))]) [] fr).symm
   show St0 _ (fl ([[(b3, .cells #[nilS] 38 (0, 0))]] ++ []) fr) _
   exact S
  ·intro a w gd1 c fr hsz hdf hK ld1 hN hI S
   have e1 := hN 1 (by decide)
   have e21x : val a 21 = .agg #[nilS] := nth e1 0
   have F : Fr 62 a [(5, bp b4 0), (21, .agg #[nilS])] := Fr.of hsz hdf ⟨hK 5 (by decide) _ rfl, e21x, trivial⟩
   replace S : St gd1 [c 10] fr w := S.of_eq (flat2 _ _ _ _)
   have q10 : c 10 = [(b4, .cells #[nilS] 38 (0, 0))] := hI 3 _ rfl
   rw [q10] at S
   refine wl_storeC (wn rfl) rfl F S rfl rfl (vs := [nilS]) rfl ts38 (one_cons rfl one_nil) (k := 0) rfl (lb rfl) (c' := #[nilS]) rfl rfl ?_; clear S; intro w S
   replace S : St gd1 [[(b4, .cells #[nilS] 38 (0, 0))]] fr w := S
   refine wpList_nil ⟨rfl, F.sz, F.df, _, [(b4, .cells #[nilS] 38 (0, 0))], (Le.refl _), ?_, ⟨rfl, rfl⟩⟩
   refine St0.of_eq ?_ (flat3s c ([(b4, .cells #[nilS] 38 (0, 0))]) [] fr).symm
   show St0 _ (fl ([[(b4, .cells #[nilS] 38 (0, 0))]] ++ []) fr) _
   exact S
  ·intro a w gd1 c fr hsz hdf hK ld1 hN hI S
   have F : Fr 62 a [] := Fr.of hsz hdf trivial
   replace S : St gd1 [] fr w := S.of_eq (flat2 _ _ _ _)
   refine wl_ev (wn rfl) (ev_assign rfl) F S rfl rfl ?_; clear F; intro a F
   refine wpList_nil ⟨rfl, F.sz, F.df, _, [], (Le.refl _), ?_, (lst1 (F.get 6 _ rfl))⟩
   refine St0.of_eq ?_ (flat3 c [] [] fr).symm
   show St0 _ (fl ([] ++ []) fr) _
   exact S
  ·intro a w gd1 c fr hsz hdf hK ld1 hN hI S
   have e2 := hN 2 (by decide)
   have e22x : val a 22 = .agg #[.int .i64 y1.Code, .int .i64 y1.Index] := nth e2 0
   have F : Fr 62 a [(7, bp b5 0), (22, .agg #[.int .i64 y1.Code, .int .i64 y1.Index])] := Fr.of hsz hdf ⟨hK 7 (by decide) _ rfl, e22x, trivial⟩
   replace S : St gd1 [c 9] fr w := S.of_eq (flat2 _ _ _ _)
   have q9 : c 9 = [(b5, .cells #[.int .i64 0, .int .i64 0] 24 (0, 0))] := hI 2 _ rfl
   rw [q9] at S
   refine wl_storeC (wn rfl) rfl F S rfl rfl (vs := [.int .i64 y1.Code, .int .i64 y1.Index]) rfl ts24 (one_cons rfl (one_cons rfl one_nil)) (k := 0) rfl (lb rfl) (c' := #[.int .i64 y1.Code, .int .i64 y1.Index]) rfl rfl ?_; clear S; intro w S
   replace S : St gd1 [[(b5, .cells #[.int .i64 y1.Code, .int .i64 y1.Index] 24 (0, 0))]] fr w := S
   refine wpList_nil ⟨rfl, F.sz, F.df, _, [(b5, .cells #[.int .i64 y1.Code, .int .i64 y1.Index] 24 (0, 0))], (Le.refl _), ?_, ⟨rfl, rfl⟩⟩
   refine St0.of_eq ?_ (flat3s c ([(b5, .cells #[.int .i64 y1.Code, .int .i64 y1.Index] 24 (0, 0))]) [] fr).symm
   show St0 _ (fl ([[(b5, .cells #[.int .i64 y1.Code, .int .i64 y1.Index] 24 (0, 0))]] ++ []) fr) _
   exact S
  clear F S; intro a w gd1 c hsz hdf hK ld1 hI S hN
  obtain ⟨e3, q3⟩ := hN 3 (by decide)
  obtain ⟨e4, q4⟩ := hN 4 (by decide)
  have e5 := hN 5 (by decide)
  have e6x : val a 6 = .bool false := nth e5 0
  obtain ⟨e6, q6⟩ := hN 6 (by decide)
  have F : Fr 62 a [(7, bp b5 0), (5, bp b4 0), (4, bp b3 0), (6, .bool false)] := Fr.of hsz hdf ⟨hK 7 (by decide) _ rfl, hK 5 (by decide) _ rfl, hK 4 (by decide) _ rfl, e6x, trivial⟩
  replace S : St gd1 [c 0, c 1, c 2, c 3, c 4, c 5, c 6, c 7, c 8, c 12, c 13] fr w := S.of_eq (flat_fl _ _ _)
  rw [q3] at S
  rw [q4] at S
  rw [q6] at S
  have q7 : c 7 = [(b7, .cells #[.int .i64 y1.Code, .int .i64 y1.Index] 24 (0, 0))] := hI 0 _ rfl
  rw [q7] at S
  have q8 : c 8 = [(b6, .cells #[nilS] 38 (0, 0))] := hI 1 _ rfl
  rw [q8] at S
  have q12 : c 12 = [(b2, .cells #[vq_1] 38 (0, 0))] := hI 5 _ rfl
  rw [q12] at S
  have q13 : c 13 = [(b1, .cells #[vp_1] 38 (0, 0))] := hI 6 _ rfl
  rw [q13] at S
  replace S : St gd1 [[(b3, .cells #[nilS] 38 (0, 0))], [(b4, .cells #[nilS] 38 (0, 0))], [(b5, .cells #[.int .i64 y1.Code, .int .i64 y1.Index] 24 (0, 0))]] fr w := St.tail [[(b3, .cells #[nilS] 38 (0, 0))], [(b4, .cells #[nilS] 38 (0, 0))], [(b5, .cells #[.int .i64 y1.Code, .int .i64 y1.Index] 24 (0, 0))]] _ (((S.frontC 6 rfl).frontC 5 rfl).frontC 5 rfl)
  clear hK hI hN hsz hdf e3 e4 e5 e6 e6x
  refine then_n ?_
  refine wp_ret ?_
  refine then_r ?_
  obtain rfl := sinj hm
  refine post_r (fn := Try.f18) (rs := [.cell 4 38, .cell 5 38, .tmp 6, .cell 7 24]) [.agg #[nilS], .agg #[nilS], .bool false, .agg #[.int .i64 y1.Code, .int .i64 y1.Index]] F rfl (ar_cons (resA rfl tu38 rfl ts38 (box_ptr (cells := [nilS]) 0 rfl 0 rfl (lb rfl) w S)) (ar_cons (resA rfl tu38 rfl ts38 (box_ptr (cells := [nilS]) 1 rfl 0 rfl (lb rfl) w S)) (ar_cons (resT rfl) (ar_cons (resA rfl tu24 rfl ts24 (box_ptr (cells := [.int .i64 y1.Code, .int .i64 y1.Index]) 2 rfl 0 rfl (lb rfl) w S)) ar_nil)))) ?_
  replace S : St gd1 [] fr w := St.tail [] _ S
  exact ⟨_, rfl, gd1, (nilS), (nilS), (l1.trans ld1), S, (RepSl.nil _), (RepSl.nil _), rfl⟩
 ·refine wp_condF F rfl hc1 ?_
  refine wp_skip ?_
  refine then_n ?_
  refine wp_seq ?_
  refine wp_region_lit ?_
  refine wl_ev (wn rfl) (ev_loadA tu38 rfl (cs := [vp_1]) ts38 rfl (box_ptr (cells := [vp_1]) 6 rfl 0 rfl (lb rfl))) F S rfl rfl ?_; clear F a; intro a F
  obtain ⟨y2, hy2, hm⟩ := bind_some hm
  refine wl_call (wn rfl) rfl (xs := [.tmp 23]) (vs := [.agg #[vp_1]]) (cap := []) F rfl rfl tc32 (commute_newRanges_ok (g := g1) (fr := (fl [[(b7, .cells #[.int .i64 y1.Code, .int .i64 y1.Index] 24 (0, 0))], [(b6, .cells #[nilS] 38 (0, 0))], [(b5, .cells #[.int .i64 0, .int .i64 0] 24 (0, 0))], [(b4, .cells #[nilS] 38 (0, 0))], [(b3, .cells #[nilS] 38 (0, 0))], [(b2, .cells #[vq_1] 38 (0, 0))], [(b1, .cells #[vp_1] 38 (0, 0))]] fr)) (w := w) p_ vp_1 (hp_1.mono l1) S hy2) rfl rfl ?_; clear F a S
  rintro _ a w ⟨g2, v1, c1, l2, S, h1, rfl⟩ F; replace S : St g2 [c1, [(b7, .cells #[.int .i64 y1.Code, .int .i64 y1.Index] 24 (0, 0))], [(b6, .cells #[nilS] 38 (0, 0))], [(b5, .cells #[.int .i64 0, .int .i64 0] 24 (0, 0))], [(b4, .cells #[nilS] 38 (0, 0))], [(b3, .cells #[nilS] 38 (0, 0))], [(b2, .cells #[vq_1] 38 (0, 0))], [(b1, .cells #[vp_1] 38 (0, 0))]] fr w := S
  refine wl_ev (wn rfl) (ev_assign rfl) F S rfl rfl ?_; clear F a; intro a F
  refine wpList_nil ?_
  replace F := F.sub (e' := [(10, v1), (8, bp b6 0), (7, bp b5 0), (5, bp b4 0), (4, bp b3 0), (3, bp b2 0), (2, bp b1 0)]) ⟨rfl, rfl, rfl, rfl, rfl, rfl, rfl, trivial⟩
  refine then_n ?_
  refine wp_seq ?_
  refine wp_seq ?_
  refine wp_region_lit ?_
  refine wl_ev (wn rfl) (ev_move rfl) F S rfl rfl ?_; clear F a; intro a F
  refine wl_ev (wn rfl) (ev_loadA tu38 rfl (cs := [vq_1]) ts38 rfl (box_ptr (cells := [vq_1]) 6 rfl 0 rfl (lb rfl))) F S rfl rfl ?_; clear F a; intro a F
  obtain ⟨y3, hy3, hm⟩ := bind_some hm
  refine wl_call (wn rfl) rfl (xs := [.tmp 26]) (vs := [.agg #[vq_1]]) (cap := []) F rfl rfl tc34 (commute_OldRanges_ok (g := g2) (fr := (fl [c1, [(b7, .cells #[.int .i64 y1.Code, .int .i64 y1.Index] 24 (0, 0))], [(b6, .cells #[nilS] 38 (0, 0))], [(b5, .cells #[.int .i64 0, .int .i64 0] 24 (0, 0))], [(b4, .cells #[nilS] 38 (0, 0))], [(b3, .cells #[nilS] 38 (0, 0))], [(b2, .cells #[vq_1] 38 (0, 0))], [(b1, .cells #[vp_1] 38 (0, 0))]] fr)) (w := w) q_ vq_1 (hq_1.mono (l1.trans l2)) S hy3) rfl rfl ?_; clear F a S
  rintro _ a w ⟨g3, v2, c2, l3, S, h2, rfl⟩ F; replace S : St g3 [c2, c1, [(b7, .cells #[.int .i64 y1.Code, .int .i64 y1.Index] 24 (0, 0))], [(b6, .cells #[nilS] 38 (0, 0))], [(b5, .cells #[.int .i64 0, .int .i64 0] 24 (0, 0))], [(b4, .cells #[nilS] 38 (0, 0))], [(b3, .cells #[nilS] 38 (0, 0))], [(b2, .cells #[vq_1] 38 (0, 0))], [(b1, .cells #[vp_1] 38 (0, 0))]] fr w := S
  obtain ⟨g4, l4, S, h3⟩ : ∃ gz, Le g3 gz ∧ St gz [c2, [(b7, .cells #[.int .i64 y1.Code, .int .i64 y1.Index] 24 (0, 0))], [(b6, .cells #[nilS] 38 (0, 0))], [(b5, .cells #[.int .i64 0, .int .i64 0] 24 (0, 0))], [(b4, .cells #[nilS] 38 (0, 0))], [(b3, .cells #[nilS] 38 (0, 0))], [(b2, .cells #[vq_1] 38 (0, 0))], [(b1, .cells #[vp_1] 38 (0, 0))]] fr w ∧ RepSl gz y2 v1 := ⟨_, Le.add _ _, S.freeze 1 rfl, OwnS.freeze (S.front 1 rfl) (h1.mono l3)⟩
  obtain ⟨g5, l5, S, h4⟩ : ∃ gz, Le g4 gz ∧ St gz [[(b7, .cells #[.int .i64 y1.Code, .int .i64 y1.Index] 24 (0, 0))], [(b6, .cells #[nilS] 38 (0, 0))], [(b5, .cells #[.int .i64 0, .int .i64 0] 24 (0, 0))], [(b4, .cells #[nilS] 38 (0, 0))], [(b3, .cells #[nilS] 38 (0, 0))], [(b2, .cells #[vq_1] 38 (0, 0))], [(b1, .cells #[vp_1] 38 (0, 0))]] fr w ∧ RepSl gz y3 v2 := ⟨_, Le.add _ _, S.freeze 0 rfl, OwnS.freeze (S.front 0 rfl) (h2.mono l4)⟩
  obtain ⟨y4, hy4, hm⟩ := bind_some hm
  refine wl_call (wn rfl) rfl (xs := [.tmp 25, .tmp 27]) (vs := [v1, v2]) (cap := []) F rfl rfl tc33 (commute_meet_ok (g := g5) (fr := (fl [[(b7, .cells #[.int .i64 y1.Code, .int .i64 y1.Index] 24 (0, 0))], [(b6, .cells #[nilS] 38 (0, 0))], [(b5, .cells #[.int .i64 0, .int .i64 0] 24 (0, 0))], [(b4, .cells #[nilS] 38 (0, 0))], [(b3, .cells #[nilS] 38 (0, 0))], [(b2, .cells #[vq_1] 38 (0, 0))], [(b1, .cells #[vp_1] 38 (0, 0))]] fr)) (w := w) y2 v1 (h3.mono l5) y3 v2 h4 S hy4) rfl rfl ?_; clear F a S
  rintro _ a w ⟨g6, l6, S, rfl⟩ F; replace S : St g6 [[(b7, .cells #[.int .i64 y1.Code, .int .i64 y1.Index] 24 (0, 0))], [(b6, .cells #[nilS] 38 (0, 0))], [(b5, .cells #[.int .i64 0, .int .i64 0] 24 (0, 0))], [(b4, .cells #[nilS] 38 (0, 0))], [(b3, .cells #[nilS] 38 (0, 0))], [(b2, .cells #[vq_1] 38 (0, 0))], [(b1, .cells #[vp_1] 38 (0, 0))]] fr w := S
  refine wpList_nil ?_
  replace F := F.sub (e' := [(28, .bool y4), (10, v1), (8, bp b6 0), (7, bp b5 0), (5, bp b4 0), (4, bp b3 0), (3, bp b2 0), (2, bp b1 0)]) ⟨rfl, rfl, rfl, rfl, rfl, rfl, rfl, rfl, trivial⟩
  refine then_n ?_
  obtain ⟨hc2, hm⟩ | ⟨hc2, hm⟩ := ite_or hm
  ·refine wp_condT F rfl hc2 ?_
   refine wp_seq ?_
   refine wp_drawL ⟨7, [[29], [30], [31], [], [], [6], []], [[], [], [], [11], [10], [], [9]], [[8], [8], [], [], [], [], []], [[8], [8], [], [4], [5], [], [7]], [[], [], [], [0], [1], [], [2]], [7, 5, 4], [0, 1, 2, 3, 4, 5, 6, 7, 8, 12, 13]⟩
    [([29], fun us g c => us = [.agg #[nilS]]),
     ([30], fun us g c => us = [.agg #[nilS]]),
     ([31], fun us g c => us = [.agg #[.int .i64 0, .int .i64 0]]),
     ([], fun us g c => us = [] ∧ c = [(b3, .cells #[nilS] 38 (0, 0))]),
     ([], fun us g c => us = [] ∧ c = [(b4, .cells #[nilS] 38 (0, 0))]),
     ([6], fun us g c => us = [.bool false]),
     ([], fun us g c => us = [] ∧ c = [(b5, .cells #[.int .i64 0, .int .i64 0] 24 (0, 0))])]
    mo (by kernel_rfl) rfl rfl ⟨fun _ _ _ _ _ h => h, fun _ _ _ _ _ h => h, fun _ _ _ _ _ h => h, fun _ _ _ _ _ h => h, fun _ _ _ _ _ h => h, fun _ _ _ _ _ h => h, fun _ _ _ _ _ h => h, trivial⟩ F S ⟨?_, ?_, ?_, ?_, ?_, ?_, ?_, trivial⟩ ?_
   ·intro a w gd6 c fr hsz hdf hK ld6 hN hI S
    have F : Fr 62 a [(8, bp b6 0)] := Fr.of hsz hdf ⟨hK 8 (by decide) _ rfl, trivial⟩
    replace S : St gd6 [c 8] fr w := S.of_eq (flat2 _ _ _ _)
    have q8 : c 8 = [(b6, .cells #[nilS] 38 (0, 0))] := hI 1 _ rfl
    rw [q8] at S
    refine wl_ev (wn rfl) (ev_loadA tu38 rfl (cs := [nilS]) ts38 rfl (box_ptr (cells := [nilS]) 0 rfl 0 rfl (lb rfl))) F S rfl rfl ?_; clear F; intro a F
    refine wpList_nil ⟨rfl, F.sz, F.df, _, [], (Le.refl _), ?_, (lst1 (F.get 29 _ rfl))⟩
    refine St0.of_eq ?_ (flat3 c [] [8] fr).symm
    show St0 _ (fl ([] ++ [c 8]) fr) _
    rw [q8]
    exact S
   ·intro a w gd6 c fr hsz hdf hK ld6 hN hI S
    have F : Fr 62 a [(8, bp b6 0)] := Fr.of hsz hdf ⟨hK 8 (by decide) _ rfl, trivial⟩
    replace S : St gd6 [c 8] fr w := S.of_eq (flat2 _ _ _ _)
    have q8 : c 8 = [(b6, .cells #[nilS] 38 (0, 0))] := hI 1 _ rfl
    rw [q8] at S
    refine wl_ev (wn rfl) (ev_loadA tu38 rfl (cs := [nilS]) ts38 rfl (box_ptr (cells := [nilS]) 0 rfl 0 rfl (lb rfl))) F S rfl rfl ?_; clear F; intro a F
    refine wpList_nil ⟨rfl, F.sz, F.df, _, [], (Le.refl _), ?_, (lst1 (F.get 30 _ rfl))⟩
    refine St0.of_eq ?_ (flat3 c [] [8] fr).symm
    show St0 _ (fl ([] ++ [c 8]) fr) _
    rw [q8]
    exact S
   ·intro a w gd6 c fr hsz hdf hK ld6 hN hI S
    have F : Fr 62 a [] := Fr.of hsz hdf trivial
    replace S : St gd6 [] fr w := S.of_eq (flat2 _ _ _ _)
    refine wl_ev (wn rfl) (ev_build (parts := []) (vs := []) rfl (fun w => tb24_  w)) F S rfl rfl ?_; clear F; intro a F
    refine wpList_nil ⟨rfl, F.sz, F.df, _, [], (Le.refl _), ?_, (lst1 (F.get 31 _ rfl))⟩
    refine St0.of_eq ?_ (flat3 c [] [] fr).symm
    show St0 _ (fl ([] ++ []) fr) _
    exact S
   ·intro a w gd6 c fr hsz hdf hK ld6 hN hI S
    have e0 := hN 0 (by decide)
    have e29x : val a 29 = .agg #[nilS] := nth e0 0
    have F : Fr 62 a [(4, bp b3 0), (29, .agg #[nilS])] := Fr.of hsz hdf ⟨hK 4 (by decide) _ rfl, e29x, trivial⟩
    replace S : St gd6 [c 11] fr w := S.of_eq (flat2 _ _ _ _)
    have q11 : c 11 = [(b3, .cells #[nilS] 38 (0, 0))] := hI 4 _ rfl
    rw [q11] at S
    refine wl_storeC (wn rfl) rfl F S rfl rfl (vs := [nilS]) rfl ts38 (one_cons rfl one_nil) (k := 0) rfl (lb rfl) (c' := #[nilS]) rfl rfl ?_; clear S; intro w S
    replace S : St gd6 [[(b3, .cells #[nilS] 38 (0, 0))]] fr w := S
    refine wpList_nil ⟨rfl, F.sz, F.df, _, [(b3, .cells #[nilS] 38 (0, 0))], (Le.refl _), ?_, ⟨rfl, rfl⟩⟩
    refine St0.of_eq ?_ (flat3s c ([(b3, .cells #[nilS] 38 (0, 0))]) [] fr).symm
    show St0 _ (fl ([[(b3, .cells #[nilS] 38 (0, 0))]] ++ []) fr) _
    exact S
   ·intro a w gd6 c fr hsz hdf hK ld6 hN hI S
    have e1 := hN 1 (by decide)
    have e30x : val a 30 = .agg #[nilS] := nth e1 0
    have F : Fr 62 a [(5, bp b4 0), (30, .agg #[nilS])] := Fr.of hsz hdf ⟨hK 5 (by decide) _ rfl, e30x, trivial⟩
    replace S : St gd6 [c 10] fr w := S.of_eq (flat2 _ _ _ _)
    have q10 : c 10 = [(b4, .cells #[nilS] 38 (0, 0))] := hI 3 _ rfl
    rw [q10] at S
    refine wl_storeC (wn rfl) rfl F S rfl rfl (vs := [nilS]) rfl ts38 (one_cons rfl one_nil) (k := 0) rfl (lb rfl) (c' := #[nilS]) rfl rfl ?_; clear S; intro w S
    replace S : St gd6 [[(b4, .cells #[nilS] 38 (0, 0))]] fr w := S
    refine wpList_nil ⟨rfl, F.sz, F.df, _, [(b4, .cells #[nilS] 38 (0, 0))], (Le.refl _), ?_, ⟨rfl, rfl⟩⟩
    refine St0.of_eq ?_ (flat3s c ([(b4, .cells #[nilS] 38 (0, 0))]) [] fr).symm
    show St0 _ (fl ([[(b4, .cells #[nilS] 38 (0, 0))]] ++ []) fr) _
    exact S
   ·intro a w gd6 c fr hsz hdf hK ld6 hN hI S
    have F : Fr 62 a [] := Fr.of hsz hdf trivial
    replace S : St gd6 [] fr w := S.of_eq (flat2 _ _ _ _)
    refine wl_ev (wn rfl) (ev_assign rfl) F S rfl rfl ?_; clear F; intro a F
    refine wpList_nil ⟨rfl, F.sz, F.df, _, [], (Le.refl _), ?_, (lst1 (F.get 6 _ rfl))⟩
    refine St0.of_eq ?_ (flat3 c [] [] fr).symm
    show St0 _ (fl ([] ++ []) fr) _
    exact S
   ·intro a w gd6 c fr hsz hdf hK ld6 hN hI S
    have e2 := hN 2 (by decide)
    have e31x : val a 31 = .agg #[.int .i64 0, .int .i64 0] := nth e2 0
    have F : Fr 62 a [(7, bp b5 0), (31, .agg #[.int .i64 0, .int .i64 0])] := Fr.of hsz hdf ⟨hK 7 (by decide) _ rfl, e31x, trivial⟩
    replace S : St gd6 [c 9] fr w := S.of_eq (flat2 _ _ _ _)
    have q9 : c 9 = [(b5, .cells #[.int .i64 0, .int .i64 0] 24 (0, 0))] := hI 2 _ rfl
    rw [q9] at S
    refine wl_storeC (wn rfl) rfl F S rfl rfl (vs := [.int .i64 0, .int .i64 0]) rfl ts24 (one_cons rfl (one_cons rfl one_nil)) (k := 0) rfl (lb rfl) (c' := #[.int .i64 0, .int .i64 0]) rfl rfl ?_; clear S; intro w S
    replace S : St gd6 [[(b5, .cells #[.int .i64 0, .int .i64 0] 24 (0, 0))]] fr w := S
    refine wpList_nil ⟨rfl, F.sz, F.df, _, [(b5, .cells #[.int .i64 0, .int .i64 0] 24 (0, 0))], (Le.refl _), ?_, ⟨rfl, rfl⟩⟩
    refine St0.of_eq ?_ (flat3s c ([(b5, .cells #[.int .i64 0, .int .i64 0] 24 (0, 0))]) [] fr).symm
    show St0 _ (fl ([[(b5, .cells #[.int .i64 0, .int .i64 0] 24 (0, 0))]] ++ []) fr) _
    exact S
   clear F S; intro a w gd6 c hsz hdf hK ld6 hI S hN
   obtain ⟨e3, q3⟩ := hN 3 (by decide)
   obtain ⟨e4, q4⟩ := hN 4 (by decide)
   have e5 := hN 5 (by decide)
   have e6x : val a 6 = .bool false := nth e5 0
   obtain ⟨e6, q6⟩ := hN 6 (by decide)
   have F : Fr 62 a [(7, bp b5 0), (5, bp b4 0), (4, bp b3 0), (6, .bool false)] := Fr.of hsz hdf ⟨hK 7 (by decide) _ rfl, hK 5 (by decide) _ rfl, hK 4 (by decide) _ rfl, e6x, trivial⟩
   replace S : St gd6 [c 0, c 1, c 2, c 3, c 4, c 5, c 6, c 7, c 8, c 12, c 13] fr w := S.of_eq (flat_fl _ _ _)
   rw [q3] at S
   rw [q4] at S
   rw [q6] at S
   have q7 : c 7 = [(b7, .cells #[.int .i64 y1.Code, .int .i64 y1.Index] 24 (0, 0))] := hI 0 _ rfl
   rw [q7] at S
   have q8 : c 8 = [(b6, .cells #[nilS] 38 (0, 0))] := hI 1 _ rfl
   rw [q8] at S
   have q12 : c 12 = [(b2, .cells #[vq_1] 38 (0, 0))] := hI 5 _ rfl
   rw [q12] at S
   have q13 : c 13 = [(b1, .cells #[vp_1] 38 (0, 0))] := hI 6 _ rfl
   rw [q13] at S
   replace S : St gd6 [[(b3, .cells #[nilS] 38 (0, 0))], [(b4, .cells #[nilS] 38 (0, 0))], [(b5, .cells #[.int .i64 0, .int .i64 0] 24 (0, 0))]] fr w := St.tail [[(b3, .cells #[nilS] 38 (0, 0))], [(b4, .cells #[nilS] 38 (0, 0))], [(b5, .cells #[.int .i64 0, .int .i64 0] 24 (0, 0))]] _ (((S.frontC 6 rfl).frontC 5 rfl).frontC 5 rfl)
   clear hK hI hN hsz hdf e3 e4 e5 e6 e6x
   refine then_n ?_
   refine wp_ret ?_
   refine then_r ?_
   obtain rfl := sinj hm
   refine post_r (fn := Try.f18) (rs := [.cell 4 38, .cell 5 38, .tmp 6, .cell 7 24]) [.agg #[nilS], .agg #[nilS], .bool false, .agg #[.int .i64 0, .int .i64 0]] F rfl (ar_cons (resA rfl tu38 rfl ts38 (box_ptr (cells := [nilS]) 0 rfl 0 rfl (lb rfl) w S)) (ar_cons (resA rfl tu38 rfl ts38 (box_ptr (cells := [nilS]) 1 rfl 0 rfl (lb rfl) w S)) (ar_cons (resT rfl) (ar_cons (resA rfl tu24 rfl ts24 (box_ptr (cells := [.int .i64 0, .int .i64 0]) 2 rfl 0 rfl (lb rfl) w S)) ar_nil)))) ?_
   replace S : St gd6 [] fr w := St.tail [] _ S
   exact ⟨_, rfl, gd6, (nilS), (nilS), ((((((l1.trans l2).trans l3).trans l4).trans l5).trans l6).trans ld6), S, (RepSl.nil _), (RepSl.nil _), rfl⟩
  ·refine wp_condF F rfl hc2 ?_
   refine wp_skip ?_
   refine then_n ?_
   refine wp_seq ?_
   refine wp_region_lit ?_
   refine wl_ev (wn rfl) (ev_loadA tu38 rfl (cs := [vq_1]) ts38 rfl (box_ptr (cells := [vq_1]) 5 rfl 0 rfl (lb rfl))) F S rfl rfl ?_; clear F a; intro a F
   refine wl_ev (wn rfl) (ev_move rfl) F S rfl rfl ?_; clear F a; intro a F
   obtain ⟨y5, hy5, hm⟩ := bind_some hm
   refine wl_call (wn rfl) rfl (xs := [.tmp 33, .tmp 34, .const (.int .i64 (-1))]) (vs := [.agg #[vq_1], v1, .int .i64 (-1)]) (cap := []) F rfl rfl tc36 (commute_shift_ok (g := g6) (fr := (fl [[(b7, .cells #[.int .i64 y1.Code, .int .i64 y1.Index] 24 (0, 0))], [(b6, .cells #[nilS] 38 (0, 0))], [(b5, .cells #[.int .i64 0, .int .i64 0] 24 (0, 0))], [(b4, .cells #[nilS] 38 (0, 0))], [(b3, .cells #[nilS] 38 (0, 0))], [(b2, .cells #[vq_1] 38 (0, 0))], [(b1, .cells #[vp_1] 38 (0, 0))]] fr)) (w := w) q_ vq_1 (hq_1.mono (((((l1.trans l2).trans l3).trans l4).trans l5).trans l6)) y2 v1 (h3.mono (l5.trans l6)) (-1) S hy5) rfl rfl ?_; clear F a S
   rintro _ a w ⟨g7, v3, c3, l7, S, h5, rfl⟩ F; replace S : St g7 [c3, [(b7, .cells #[.int .i64 y1.Code, .int .i64 y1.Index] 24 (0, 0))], [(b6, .cells #[nilS] 38 (0, 0))], [(b5, .cells #[.int .i64 0, .int .i64 0] 24 (0, 0))], [(b4, .cells #[nilS] 38 (0, 0))], [(b3, .cells #[nilS] 38 (0, 0))], [(b2, .cells #[vq_1] 38 (0, 0))], [(b1, .cells #[vp_1] 38 (0, 0))]] fr w := S
   obtain ⟨g8, l8, S, h6⟩ : ∃ gz, Le g7 gz ∧ St gz [[(b7, .cells #[.int .i64 y1.Code, .int .i64 y1.Index] 24 (0, 0))], [(b6, .cells #[nilS] 38 (0, 0))], [(b5, .cells #[.int .i64 0, .int .i64 0] 24 (0, 0))], [(b4, .cells #[nilS] 38 (0, 0))], [(b3, .cells #[nilS] 38 (0, 0))], [(b2, .cells #[vq_1] 38 (0, 0))], [(b1, .cells #[vp_1] 38 (0, 0))]] fr w ∧ RepSl gz y5.Hunks v3 := ⟨_, Le.add _ _, S.freeze 0 rfl, OwnS.freeze (S.front 0 rfl) h5⟩
   obtain ⟨y6, hy6, hm⟩ := bind_some hm
   refine wl_call (wn rfl) rfl (xs := [.tmp 35]) (vs := [.agg #[v3]]) (cap := []) F rfl rfl tc35 (textpatch_Made_ok (g := g8) (fr := (fl [[(b7, .cells #[.int .i64 y1.Code, .int .i64 y1.Index] 24 (0, 0))], [(b6, .cells #[nilS] 38 (0, 0))], [(b5, .cells #[.int .i64 0, .int .i64 0] 24 (0, 0))], [(b4, .cells #[nilS] 38 (0, 0))], [(b3, .cells #[nilS] 38 (0, 0))], [(b2, .cells #[vq_1] 38 (0, 0))], [(b1, .cells #[vp_1] 38 (0, 0))]] fr)) (w := w) y5 v3 h6 S hy6) rfl rfl ?_; clear F a S
   rintro _ a w ⟨g9, v4, l9, S, h7, rfl⟩ F; replace S : St g9 [[(b7, .cells #[.int .i64 y1.Code, .int .i64 y1.Index] 24 (0, 0))], [(b6, .cells #[nilS] 38 (0, 0))], [(b5, .cells #[.int .i64 0, .int .i64 0] 24 (0, 0))], [(b4, .cells #[nilS] 38 (0, 0))], [(b3, .cells #[nilS] 38 (0, 0))], [(b2, .cells #[vq_1] 38 (0, 0))], [(b1, .cells #[vp_1] 38 (0, 0))]] fr w := S
   refine wl_ev (wn rfl) (ev_move rfl) F S rfl rfl ?_; clear F a; intro a F
   refine wl_ev (wn rfl) (ev_extract (vs := [.agg #[v4], .agg #[.int .i64 y6.2.Code, .int .i64 y6.2.Index]]) rfl rfl) F S rfl rfl ?_; clear F a; intro a F
   refine wl_ev (wn rfl) (ev_extract (vs := [.agg #[v4], .agg #[.int .i64 y6.2.Code, .int .i64 y6.2.Index]]) rfl rfl) F S rfl rfl ?_; clear F a; intro a F
   refine wl_alloc (wn rfl) rfl tz38 (cs := [nilS]) rfl F S rfl rfl ?_; clear F a S; rintro b8 a w F S
   refine wl_alloc (wn rfl) rfl tz24 (cs := [.int .i64 0, .int .i64 0]) rfl F S rfl rfl ?_; clear F a S; rintro b9 a w F S
   refine wl_storeC (wn rfl) rfl F S rfl rfl (vs := [v4]) rfl ts38 (one_cons h7.one one_nil) (k := 1) rfl (lb rfl) (c' := #[v4]) rfl rfl ?_; clear S; intro w S
   replace S : St g9 [[(b9, .cells #[.int .i64 0, .int .i64 0] 24 (0, 0))], [(b8, .cells #[v4] 38 (0, 0))], [(b7, .cells #[.int .i64 y1.Code, .int .i64 y1.Index] 24 (0, 0))], [(b6, .cells #[nilS] 38 (0, 0))], [(b5, .cells #[.int .i64 0, .int .i64 0] 24 (0, 0))], [(b4, .cells #[nilS] 38 (0, 0))], [(b3, .cells #[nilS] 38 (0, 0))], [(b2, .cells #[vq_1] 38 (0, 0))], [(b1, .cells #[vp_1] 38 (0, 0))]] fr w := S
   refine wl_storeC (wn rfl) rfl F S rfl rfl (vs := [.int .i64 y6.2.Code, .int .i64 y6.2.Index]) rfl ts24 (one_cons rfl (one_cons rfl one_nil)) (k := 0) rfl (lb rfl) (c' := #[.int .i64 y6.2.Code, .int .i64 y6.2.Index]) rfl rfl ?_; clear S; intro w S
   replace S : St g9 [[(b9, .cells #[.int .i64 y6.2.Code, .int .i64 y6.2.Index] 24 (0, 0))], [(b8, .cells #[v4] 38 (0, 0))], [(b7, .cells #[.int .i64 y1.Code, .int .i64 y1.Index] 24 (0, 0))], [(b6, .cells #[nilS] 38 (0, 0))], [(b5, .cells #[.int .i64 0, .int .i64 0] 24 (0, 0))], [(b4, .cells #[nilS] 38 (0, 0))], [(b3, .cells #[nilS] 38 (0, 0))], [(b2, .cells #[vq_1] 38 (0, 0))], [(b1, .cells #[vp_1] 38 (0, 0))]] fr w := S
   refine wpList_nil ?_
   replace F := F.sub (e' := [(12, bp b9 0), (11, bp b8 0), (8, bp b6 0), (7, bp b5 0), (5, bp b4 0), (4, bp b3 0), (2, bp b1 0)]) ⟨rfl, rfl, rfl, rfl, rfl, rfl, rfl, trivial⟩
   refine then_n ?_
   refine wp_seq ?_
   refine wp_seq ?_
   refine wp_region_lit ?_
   refine wl_ev (wn rfl) (ev_loadA tu24 rfl (cs := [.int .i64 y6.2.Code, .int .i64 y6.2.Index]) ts24 rfl (box_ptr (cells := [.int .i64 y6.2.Code, .int .i64 y6.2.Index]) 0 rfl 0 rfl (lb rfl))) F S rfl rfl ?_; clear F a; intro a F
   refine wl_ev (wn rfl) (ev_build (parts := []) (vs := []) rfl (fun w => tb24_  w)) F S rfl rfl ?_; clear F a; intro a F
   refine wl_ev (wn rfl) (ev_neS tu24 tqa24 tqb24 tqc24 (xs := [.int .i64 y6.2.Code, .int .i64 y6.2.Index]) (ys := [.int .i64 0, .int .i64 0]) rfl rfl ⟨_, _, rfl, by decide, ⟨_, _, rfl, rfl, leaf_int tu3⟩, ⟨_, _, rfl, by decide, ⟨_, _, rfl, rfl, leaf_int tu3⟩, rfl⟩⟩) F S rfl rfl ?_; clear F a; intro a F
   refine wpList_nil ?_
   replace F := F.sub (e' := [(41, .bool (!(decide (y6.2.Code = 0) && decide (y6.2.Index = 0)))), (12, bp b9 0), (11, bp b8 0), (8, bp b6 0), (7, bp b5 0), (5, bp b4 0), (4, bp b3 0), (2, bp b1 0)]) ⟨rfl, rfl, rfl, rfl, rfl, rfl, rfl, rfl, trivial⟩
   refine then_n ?_
   obtain ⟨hc3, hm⟩ | ⟨hc3, hm⟩ := ite_or hm
   ·refine wp_condT F rfl hc3 ?_
    refine wp_seq ?_
    refine wp_drawL ⟨9, [[42], [43], [44], [], [], [6], []], [[], [], [], [13], [12], [], [11]], [[10], [10], [7], [], [], [], []], [[8], [8], [12], [4], [5], [], [7]], [[], [], [], [0], [1], [], [2]], [7, 5, 4], [0, 1, 2, 3, 4, 5, 6, 7, 8, 9, 10, 14, 15]⟩
     [([42], fun us g c => us = [.agg #[nilS]]),
      ([43], fun us g c => us = [.agg #[nilS]]),
      ([44], fun us g c => us = [.agg #[.int .i64 y6.2.Code, .int .i64 y6.2.Index]]),
      ([], fun us g c => us = [] ∧ c = [(b3, .cells #[nilS] 38 (0, 0))]),
      ([], fun us g c => us = [] ∧ c = [(b4, .cells #[nilS] 38 (0, 0))]),
      ([6], fun us g c => us = [.bool false]),
      ([], fun us g c => us = [] ∧ c = [(b5, .cells #[.int .i64 y6.2.Code, .int .i64 y6.2.Index] 24 (0, 0))])]
     mo (by kernel_rfl) rfl rfl ⟨fun _ _ _ _ _ h => h, fun _ _ _ _ _ h => h, fun _ _ _ _ _ h => h, fun _ _ _ _ _ h => h, fun _ _ _ _ _ h => h, fun _ _ _ _ _ h => h, fun _ _ _ _ _ h => h, trivial⟩ F S ⟨?_, ?_, ?_, ?_, ?_, ?_, ?_, trivial⟩ ?_
    ·intro a w gd11 c fr hsz hdf hK ld11 hN hI S
     have F : Fr 62 a [(8, bp b6 0)] := Fr.of hsz hdf ⟨hK 8 (by decide) _ rfl, trivial⟩
     replace S : St gd11 [c 10] fr w := S.of_eq (flat2 _ _ _ _)
     have q10 : c 10 = [(b6, .cells #[nilS] 38 (0, 0))] := hI 3 _ rfl
     rw [q10] at S
     refine wl_ev (wn rfl) (ev_loadA tu38 rfl (cs := [nilS]) ts38 rfl (box_ptr (cells := [nilS]) 0 rfl 0 rfl (lb rfl))) F S rfl rfl ?_; clear F; intro a F
     refine wpList_nil ⟨rfl, F.sz, F.df, _, [], (Le.refl _), ?_, (lst1 (F.get 42 _ rfl))⟩
     refine St0.of_eq ?_ (flat3 c [] [10] fr).symm
     show St0 _ (fl ([] ++ [c 10]) fr) _
     rw [q10]
     exact S
    ·intro a w gd11 c fr hsz hdf hK ld11 hN hI S
     have F : Fr 62 a [(8, bp b6 0)] := Fr.of hsz hdf ⟨hK 8 (by decide) _ rfl, trivial⟩
     replace S : St gd11 [c 10] fr w := S.of_eq (flat2 _ _ _ _)
     have q10 : c 10 = [(b6, .cells #[nilS] 38 (0, 0))] := hI 3 _ rfl
     rw [q10] at S
     refine wl_ev (wn rfl) (ev_loadA tu38 rfl (cs := [nilS]) ts38 rfl (box_ptr (cells := [nilS]) 0 rfl 0 rfl (lb rfl))) F S rfl rfl ?_; clear F; intro a F
     refine wpList_nil ⟨rfl, F.sz, F.df, _, [], (Le.refl _), ?_, (lst1 (F.get 43 _ rfl))⟩
     refine St0.of_eq ?_ (flat3 c [] [10] fr).symm
     show St0 _ (fl ([] ++ [c 10]) fr) _
     rw [q10]
     exact S
    ·intro a w gd11 c fr hsz hdf hK ld11 hN hI S
     have F : Fr 62 a [(12, bp b9 0)] := Fr.of hsz hdf ⟨hK 12 (by decide) _ rfl, trivial⟩
     replace S : St gd11 [c 7] fr w := S.of_eq (flat2 _ _ _ _)
     have q7 : c 7 = [(b9, .cells #[.int .i64 y6.2.Code, .int .i64 y6.2.Index] 24 (0, 0))] := hI 0 _ rfl
     rw [q7] at S
     refine wl_ev (wn rfl) (ev_loadA tu24 rfl (cs := [.int .i64 y6.2.Code, .int .i64 y6.2.Index]) ts24 rfl (box_ptr (cells := [.int .i64 y6.2.Code, .int .i64 y6.2.Index]) 0 rfl 0 rfl (lb rfl))) F S rfl rfl ?_; clear F; intro a F
     refine wpList_nil ⟨rfl, F.sz, F.df, _, [], (Le.refl _), ?_, (lst1 (F.get 44 _ rfl))⟩
     refine St0.of_eq ?_ (flat3 c [] [7] fr).symm
     show St0 _ (fl ([] ++ [c 7]) fr) _
     rw [q7]
     exact S
    ·intro a w gd11 c fr hsz hdf hK ld11 hN hI S
     have e0 := hN 0 (by decide)
     have e42x : val a 42 = .agg #[nilS] := nth e0 0
     have F : Fr 62 a [(4, bp b3 0), (42, .agg #[nilS])] := Fr.of hsz hdf ⟨hK 4 (by decide) _ rfl, e42x, trivial⟩
     replace S : St gd11 [c 13] fr w := S.of_eq (flat2 _ _ _ _)
     have q13 : c 13 = [(b3, .cells #[nilS] 38 (0, 0))] := hI 6 _ rfl
     rw [q13] at S
     refine wl_storeC (wn rfl) rfl F S rfl rfl (vs := [nilS]) rfl ts38 (one_cons rfl one_nil) (k := 0) rfl (lb rfl) (c' := #[nilS]) rfl rfl ?_; clear S; intro w S
     replace S : St gd11 [[(b3, .cells #[nilS] 38 (0, 0))]] fr w := S
     refine wpList_nil ⟨rfl, F.sz, F.df, _, [(b3, .cells #[nilS] 38 (0, 0))], (Le.refl _), ?_, ⟨rfl, rfl⟩⟩
     refine St0.of_eq ?_ (flat3s c ([(b3, .cells #[nilS] 38 (0, 0))]) [] fr).symm
     show St0 _ (fl ([[(b3, .cells #[nilS] 38 (0, 0))]] ++ []) fr) _
     exact S
    ·intro a w gd11 c fr hsz hdf hK ld11 hN hI S
     have e1 := hN 1 (by decide)
     have e43x : val a 43 = .agg #[nilS] := nth e1 0
     have F : Fr 62 a [(5, bp b4 0), (43, .agg #[nilS])] := Fr.of hsz hdf ⟨hK 5 (by decide) _ rfl, e43x, trivial⟩
     replace S : St gd11 [c 12] fr w := S.of_eq (flat2 _ _ _ _)
     have q12 : c 12 = [(b4, .cells #[nilS] 38 (0, 0))] := hI 5 _ rfl
     rw [q12] at S
     refine wl_storeC (wn rfl) rfl F S rfl rfl (vs := [nilS]) rfl ts38 (one_cons rfl one_nil) (k := 0) rfl (lb rfl) (c' := #[nilS]) rfl rfl ?_; clear S; intro w S
     replace S : St gd11 [[(b4, .cells #[nilS] 38 (0, 0))]] fr w := S
     refine wpList_nil ⟨rfl, F.sz, F.df, _, [(b4, .cells #[nilS] 38 (0, 0))], (Le.refl _), ?_, ⟨rfl, rfl⟩⟩
     refine St0.of_eq ?_ (flat3s c ([(b4, .cells #[nilS] 38 (0, 0))]) [] fr).symm
     show St0 _ (fl ([[(b4, .cells #[nilS] 38 (0, 0))]] ++ []) fr) _
     exact S
    ·intro a w gd11 c fr hsz hdf hK ld11 hN hI S
     have F : Fr 62 a [] := Fr.of hsz hdf trivial
     replace S : St gd11 [] fr w := S.of_eq (flat2 _ _ _ _)
     refine wl_ev (wn rfl) (ev_assign rfl) F S rfl rfl ?_; clear F; intro a F
     refine wpList_nil ⟨rfl, F.sz, F.df, _, [], (Le.refl _), ?_, (lst1 (F.get 6 _ rfl))⟩
     refine St0.of_eq ?_ (flat3 c [] [] fr).symm
     show St0 _ (fl ([] ++ []) fr) _
     exact S
    ·intro a w gd11 c fr hsz hdf hK ld11 hN hI S
     have e2 := hN 2 (by decide)
     have e44x : val a 44 = .agg #[.int .i64 y6.2.Code, .int .i64 y6.2.Index] := nth e2 0
     have F : Fr 62 a [(7, bp b5 0), (44, .agg #[.int .i64 y6.2.Code, .int .i64 y6.2.Index])] := Fr.of hsz hdf ⟨hK 7 (by decide) _ rfl, e44x, trivial⟩
     replace S : St gd11 [c 11] fr w := S.of_eq (flat2 _ _ _ _)
     have q11 : c 11 = [(b5, .cells #[.int .i64 0, .int .i64 0] 24 (0, 0))] := hI 4 _ rfl
     rw [q11] at S
     refine wl_storeC (wn rfl) rfl F S rfl rfl (vs := [.int .i64 y6.2.Code, .int .i64 y6.2.Index]) rfl ts24 (one_cons rfl (one_cons rfl one_nil)) (k := 0) rfl (lb rfl) (c' := #[.int .i64 y6.2.Code, .int .i64 y6.2.Index]) rfl rfl ?_; clear S; intro w S
     replace S : St gd11 [[(b5, .cells #[.int .i64 y6.2.Code, .int .i64 y6.2.Index] 24 (0, 0))]] fr w := S
     refine wpList_nil ⟨rfl, F.sz, F.df, _, [(b5, .cells #[.int .i64 y6.2.Code, .int .i64 y6.2.Index] 24 (0, 0))], (Le.refl _), ?_, ⟨rfl, rfl⟩⟩
     refine St0.of_eq ?_ (flat3s c ([(b5, .cells #[.int .i64 y6.2.Code, .int .i64 y6.2.Index] 24 (0, 0))]) [] fr).symm
     show St0 _ (fl ([[(b5, .cells #[.int .i64 y6.2.Code, .int .i64 y6.2.Index] 24 (0, 0))]] ++ []) fr) _
     exact S
    clear F S; intro a w gd11 c hsz hdf hK ld11 hI S hN
    obtain ⟨e3, q3⟩ := hN 3 (by decide)
    obtain ⟨e4, q4⟩ := hN 4 (by decide)
    have e5 := hN 5 (by decide)
    have e6x : val a 6 = .bool false := nth e5 0
    obtain ⟨e6, q6⟩ := hN 6 (by decide)
    have F : Fr 62 a [(7, bp b5 0), (5, bp b4 0), (4, bp b3 0), (6, .bool false)] := Fr.of hsz hdf ⟨hK 7 (by decide) _ rfl, hK 5 (by decide) _ rfl, hK 4 (by decide) _ rfl, e6x, trivial⟩
    replace S : St gd11 [c 0, c 1, c 2, c 3, c 4, c 5, c 6, c 7, c 8, c 9, c 10, c 14, c 15] fr w := S.of_eq (flat_fl _ _ _)
    rw [q3] at S
    rw [q4] at S
    rw [q6] at S
    have q7 : c 7 = [(b9, .cells #[.int .i64 y6.2.Code, .int .i64 y6.2.Index] 24 (0, 0))] := hI 0 _ rfl
    rw [q7] at S
    have q8 : c 8 = [(b8, .cells #[v4] 38 (0, 0))] := hI 1 _ rfl
    rw [q8] at S
    have q9 : c 9 = [(b7, .cells #[.int .i64 y1.Code, .int .i64 y1.Index] 24 (0, 0))] := hI 2 _ rfl
    rw [q9] at S
    have q10 : c 10 = [(b6, .cells #[nilS] 38 (0, 0))] := hI 3 _ rfl
    rw [q10] at S
    have q14 : c 14 = [(b2, .cells #[vq_1] 38 (0, 0))] := hI 7 _ rfl
    rw [q14] at S
    have q15 : c 15 = [(b1, .cells #[vp_1] 38 (0, 0))] := hI 8 _ rfl
    rw [q15] at S
    replace S : St gd11 [[(b3, .cells #[nilS] 38 (0, 0))], [(b4, .cells #[nilS] 38 (0, 0))], [(b5, .cells #[.int .i64 y6.2.Code, .int .i64 y6.2.Index] 24 (0, 0))]] fr w := St.tail [[(b3, .cells #[nilS] 38 (0, 0))], [(b4, .cells #[nilS] 38 (0, 0))], [(b5, .cells #[.int .i64 y6.2.Code, .int .i64 y6.2.Index] 24 (0, 0))]] _ (((S.frontC 6 rfl).frontC 5 rfl).frontC 5 rfl)
    clear hK hI hN hsz hdf e3 e4 e5 e6 e6x
    refine then_n ?_
    refine wp_ret ?_
    refine then_r ?_
    obtain rfl := sinj hm
    refine post_r (fn := Try.f18) (rs := [.cell 4 38, .cell 5 38, .tmp 6, .cell 7 24]) [.agg #[nilS], .agg #[nilS], .bool false, .agg #[.int .i64 y6.2.Code, .int .i64 y6.2.Index]] F rfl (ar_cons (resA rfl tu38 rfl ts38 (box_ptr (cells := [nilS]) 0 rfl 0 rfl (lb rfl) w S)) (ar_cons (resA rfl tu38 rfl ts38 (box_ptr (cells := [nilS]) 1 rfl 0 rfl (lb rfl) w S)) (ar_cons (resT rfl) (ar_cons (resA rfl tu24 rfl ts24 (box_ptr (cells := [.int .i64 y6.2.Code, .int .i64 y6.2.Index]) 2 rfl 0 rfl (lb rfl) w S)) ar_nil)))) ?_
    replace S : St gd11 [] fr w := St.tail [] _ S
    exact ⟨_, rfl, gd11, (nilS), (nilS), (((((((((l1.trans l2).trans l3).trans l4).trans l5).trans l6).trans l7).trans l8).trans l9).trans ld11), S, (RepSl.nil _), (RepSl.nil _), rfl⟩
   ·refine wp_condF F rfl hc3 ?_
    refine wp_skip ?_
    refine then_n ?_
    refine wp_seq ?_
    obtain ⟨y7, hy7, hm⟩ := bind_some hm
    obtain ⟨y8, hy8, hm⟩ := bind_some hm
    obtain ⟨y9, hy9, hm⟩ := bind_some hm
    refine wp_drawL ⟨9, [[46], [47], [48], [49], [50], [45, 50], [51, 50], [52], [13], [50, 13], []], [[], [], [], [2], [3], [], [], [], [], [8], [11]], [[19], [12], [], [], [], [], [], [], [], [], []], [[2], [11], [], [], [], [], [], [], [], [], [12]], [[], [], [1], [0, 2], [3], [4], [4, 5], [4, 5], [], [4, 6, 8], [7]], [12, 11, 8, 7, 5, 4], [0, 1, 4, 5, 6, 7, 9, 10, 12, 13, 14, 15, 16, 17, 18, 19]⟩
     [([46], fun us g c => us = [.agg #[vp_1]]),
      ([47], fun us g c => us = [.agg #[v4]]),
      ([48], fun us g c => ∃ v5 : Value, us = [v5] ∧ OwnS g y7 v5 c),
      ([49], fun us g c => ∃ v6 : Value, us = [.agg #[v6]] ∧ OwnS g y8.Hunks v6 c),
      ([50], fun us g c => ∃ v7 : Value, us = [.tuple #[.agg #[v7], .agg #[.int .i64 y9.2.Code, .int .i64 y9.2.Index]]] ∧ RepSl g y9.1.Hunks v7),
      ([45, 50], fun us g c => ∃ v7 : Value, us = [.tuple #[.agg #[v7], .agg #[.int .i64 y9.2.Code, .int .i64 y9.2.Index]], .tuple #[.agg #[v7], .agg #[.int .i64 y9.2.Code, .int .i64 y9.2.Index]]]),
      ([51, 50], fun us g c => ∃ v7 : Value, us = [.agg #[v7], .tuple #[.agg #[v7], .agg #[.int .i64 y9.2.Code, .int .i64 y9.2.Index]]]),
      ([52], fun us g c => us = [.agg #[.int .i64 y9.2.Code, .int .i64 y9.2.Index]]),
      ([13], fun us g c => ∃ b10 : Nat, us = [bp b10 0] ∧ c = [(b10, .cells #[nilS] 38 (0, 0))]),
      ([50, 13], fun us g c => ∃ v7 : Value, ∃ b10 : Nat, us = [.tuple #[.agg #[v7], .agg #[.int .i64 y9.2.Code, .int .i64 y9.2.Index]], bp b10 0] ∧ c = [(b10, .cells #[v7] 38 (0, 0))]),
      ([], fun us g c => us = [] ∧ c = [(b9, .cells #[.int .i64 y9.2.Code, .int .i64 y9.2.Index] 24 (0, 0))])]
     mo (by kernel_rfl) rfl rfl ⟨fun _ _ _ _ _ h => h, fun _ _ _ _ _ h => h, fun _ _ _ _ l ⟨x0, e0, h0⟩ => ⟨x0, e0, h0.mono l⟩, fun _ _ _ _ l ⟨x0, e0, h0⟩ => ⟨x0, e0, h0.mono l⟩, fun _ _ _ _ l ⟨x0, e0, h0⟩ => ⟨x0, e0, h0.mono l⟩, fun _ _ _ _ _ h => h, fun _ _ _ _ _ h => h, fun _ _ _ _ _ h => h, fun _ _ _ _ _ h => h, fun _ _ _ _ _ h => h, fun _ _ _ _ _ h => h, trivial⟩ F S ⟨?_, ?_, ?_, ?_, ?_, ?_, ?_, ?_, ?_, ?_, ?_, trivial⟩ ?_
    ·intro a w gd16 c fr hsz hdf hK ld16 hN hI S
     have F : Fr 62 a [(2, bp b1 0)] := Fr.of hsz hdf ⟨hK 2 (by decide) _ rfl, trivial⟩
     replace S : St gd16 [c 19] fr w := S.of_eq (flat2 _ _ _ _)
     have q19 : c 19 = [(b1, .cells #[vp_1] 38 (0, 0))] := hI 8 _ rfl
     rw [q19] at S
     refine wl_ev (wn rfl) (ev_loadA tu38 rfl (cs := [vp_1]) ts38 rfl (box_ptr (cells := [vp_1]) 0 rfl 0 rfl (lb rfl))) F S rfl rfl ?_; clear F; intro a F
     refine wpList_nil ⟨rfl, F.sz, F.df, _, [], (Le.refl _), ?_, (lst1 (F.get 46 _ rfl))⟩
     refine St0.of_eq ?_ (flat3 c [] [19] fr).symm
     show St0 _ (fl ([] ++ [c 19]) fr) _
     rw [q19]
     exact S
    ·intro a w gd16 c fr hsz hdf hK ld16 hN hI S
     have F : Fr 62 a [(11, bp b8 0)] := Fr.of hsz hdf ⟨hK 11 (by decide) _ rfl, trivial⟩
     replace S : St gd16 [c 12] fr w := S.of_eq (flat2 _ _ _ _)
     have q12 : c 12 = [(b8, .cells #[v4] 38 (0, 0))] := hI 1 _ rfl
     rw [q12] at S
     refine wl_ev (wn rfl) (ev_loadA tu38 rfl (cs := [v4]) ts38 rfl (box_ptr (cells := [v4]) 0 rfl 0 rfl (lb rfl))) F S rfl rfl ?_; clear F; intro a F
     refine wpList_nil ⟨rfl, F.sz, F.df, _, [], (Le.refl _), ?_, (lst1 (F.get 47 _ rfl))⟩
     refine St0.of_eq ?_ (flat3 c [] [12] fr).symm
     show St0 _ (fl ([] ++ [c 12]) fr) _
     rw [q12]
     exact S
    ·intro a w gd16 c fr hsz hdf hK ld16 hN hI S
     have e1 := hN 1 (by decide)
     have e47x : val a 47 = .agg #[v4] := nth e1 0
     have F : Fr 62 a [(47, .agg #[v4])] := Fr.of hsz hdf ⟨e47x, trivial⟩
     replace S : St gd16 [] fr w := S.of_eq (flat2 _ _ _ _)
     refine wl_call (wn rfl) rfl (xs := [.tmp 47]) (vs := [.agg #[v4]]) (cap := []) F rfl rfl tc34 (commute_OldRanges_ok (g := gd16) (fr := fr) (w := w) y6.1 v4 (h7.mono ld16) S hy7) rfl rfl ?_; clear F S
     rintro _ a w ⟨g10, v5, c4, l10, S, h8, rfl⟩ F; replace S : St g10 [c4] fr w := S
     refine wpList_nil ⟨rfl, F.sz, F.df, _, c4, l10, ?_, ⟨v5, (lst1 (F.get 48 _ rfl)), h8⟩⟩
     refine St0.of_eq ?_ (flat3s c (c4) [] fr).symm
     show St0 _ (fl ([c4] ++ []) fr) _
     exact S
    ·intro a w gd16 c fr hsz hdf hK ld16 hN hI S
     have e0 := hN 0 (by decide)
     have e46x : val a 46 = .agg #[vp_1] := nth e0 0
     obtain ⟨v5, e2, lh1⟩ := hN 2 (by decide)
     have e48x : val a 48 = v5 := nth e2 0
     have F : Fr 62 a [(46, .agg #[vp_1]), (48, v5)] := Fr.of hsz hdf ⟨e46x, e48x, trivial⟩
     replace S : St gd16 [c 2] fr w := S.of_eq (flat2 _ _ _ _)
     obtain ⟨g11, l11, S, h9⟩ : ∃ gz, Le gd16 gz ∧ St gz [] fr w ∧ RepSl gz y7 v5 := ⟨_, Le.add _ _, S.freeze 0 rfl, OwnS.freeze (S.front 0 rfl) lh1⟩
     refine wl_call (wn rfl) rfl (xs := [.tmp 46, .tmp 48, .const (.int .i64 1)]) (vs := [.agg #[vp_1], v5, .int .i64 1]) (cap := []) F rfl rfl tc36 (commute_shift_ok (g := g11) (fr := fr) (w := w) p_ vp_1 (hp_1.mono ((((((((((l1.trans l2).trans l3).trans l4).trans l5).trans l6).trans l7).trans l8).trans l9).trans ld16).trans l11)) y7 v5 h9 1 S hy8) rfl rfl ?_; clear F S
     rintro _ a w ⟨g12, v6, c5, l12, S, h10, rfl⟩ F; replace S : St g12 [c5] fr w := S
     refine wpList_nil ⟨rfl, F.sz, F.df, _, c5, (l11.trans l12), ?_, ⟨v6, (lst1 (F.get 49 _ rfl)), h10⟩⟩
     refine St0.of_eq ?_ (flat3s c (c5) [] fr).symm
     show St0 _ (fl ([c5] ++ []) fr) _
     exact S
    ·intro a w gd16 c fr hsz hdf hK ld16 hN hI S
     obtain ⟨v6, e3, lh1⟩ := hN 3 (by decide)
     have e49x : val a 49 = .agg #[v6] := nth e3 0
     have F : Fr 62 a [(49, .agg #[v6])] := Fr.of hsz hdf ⟨e49x, trivial⟩
     replace S : St gd16 [c 3] fr w := S.of_eq (flat2 _ _ _ _)
     obtain ⟨g13, l13, S, h11⟩ : ∃ gz, Le gd16 gz ∧ St gz [] fr w ∧ RepSl gz y8.Hunks v6 := ⟨_, Le.add _ _, S.freeze 0 rfl, OwnS.freeze (S.front 0 rfl) lh1⟩
     refine wl_call (wn rfl) rfl (xs := [.tmp 49]) (vs := [.agg #[v6]]) (cap := []) F rfl rfl tc35 (textpatch_Made_ok (g := g13) (fr := fr) (w := w) y8 v6 h11 S hy9) rfl rfl ?_; clear F S
     rintro _ a w ⟨g14, v7, l14, S, h12, rfl⟩ F; replace S : St g14 [] fr w := S
     refine wpList_nil ⟨rfl, F.sz, F.df, _, [], (l13.trans l14), ?_, ⟨v7, (lst1 (F.get 50 _ rfl)), h12⟩⟩
     refine St0.of_eq ?_ (flat3 c [] [] fr).symm
     show St0 _ (fl ([] ++ []) fr) _
     exact S
    ·intro a w gd16 c fr hsz hdf hK ld16 hN hI S
     obtain ⟨v7, e4, lh1⟩ := hN 4 (by decide)
     have e50x : val a 50 = .tuple #[.agg #[v7], .agg #[.int .i64 y9.2.Code, .int .i64 y9.2.Index]] := nth e4 0
     have F : Fr 62 a [(50, .tuple #[.agg #[v7], .agg #[.int .i64 y9.2.Code, .int .i64 y9.2.Index]])] := Fr.of hsz hdf ⟨e50x, trivial⟩
     replace S : St gd16 [] fr w := S.of_eq (flat2 _ _ _ _)
     refine wl_ev (wn rfl) (ev_move rfl) F S rfl rfl ?_; clear F; intro a F
     refine wpList_nil ⟨rfl, F.sz, F.df, _, [], (Le.refl _), ?_, ⟨v7, (lst2 (F.get 45 _ rfl) (F.get 50 _ rfl))⟩⟩
     refine St0.of_eq ?_ (flat3 c [] [] fr).symm
     show St0 _ (fl ([] ++ []) fr) _
     exact S
    ·intro a w gd16 c fr hsz hdf hK ld16 hN hI S
     obtain ⟨v7, e4, lh1⟩ := hN 4 (by decide)
     have e50x : val a 50 = .tuple #[.agg #[v7], .agg #[.int .i64 y9.2.Code, .int .i64 y9.2.Index]] := nth e4 0
     obtain ⟨dup1, e5⟩ := hN 5 (by decide)
     obtain rfl : v7 = dup1 := by have hq := e50x.symm.trans (nth e5 1); simp at hq; first | exact hq | exact hq.1 | exact hq.2 | exact hq.2.1 | exact hq.2.2
     have e45x : val a 45 = .tuple #[.agg #[v7], .agg #[.int .i64 y9.2.Code, .int .i64 y9.2.Index]] := nth e5 0
     have F : Fr 62 a [(50, .tuple #[.agg #[v7], .agg #[.int .i64 y9.2.Code, .int .i64 y9.2.Index]]), (45, .tuple #[.agg #[v7], .agg #[.int .i64 y9.2.Code, .int .i64 y9.2.Index]])] := Fr.of hsz hdf ⟨e50x, e45x, trivial⟩
     replace S : St gd16 [] fr w := S.of_eq (flat2 _ _ _ _)
     refine wl_ev (wn rfl) (ev_extract (vs := [.agg #[v7], .agg #[.int .i64 y9.2.Code, .int .i64 y9.2.Index]]) rfl rfl) F S rfl rfl ?_; clear F; intro a F
     refine wpList_nil ⟨rfl, F.sz, F.df, _, [], (Le.refl _), ?_, ⟨v7, (lst2 (F.get 51 _ rfl) (F.get 50 _ rfl))⟩⟩
     refine St0.of_eq ?_ (flat3 c [] [] fr).symm
     show St0 _ (fl ([] ++ []) fr) _
     exact S
    ·intro a w gd16 c fr hsz hdf hK ld16 hN hI S
     obtain ⟨v7, e4, lh1⟩ := hN 4 (by decide)
     have e50x : val a 50 = .tuple #[.agg #[v7], .agg #[.int .i64 y9.2.Code, .int .i64 y9.2.Index]] := nth e4 0
     obtain ⟨dup1, e5⟩ := hN 5 (by decide)
     obtain rfl : v7 = dup1 := by have hq := e50x.symm.trans (nth e5 1); simp at hq; first | exact hq | exact hq.1 | exact hq.2 | exact hq.2.1 | exact hq.2.2
     have e45x : val a 45 = .tuple #[.agg #[v7], .agg #[.int .i64 y9.2.Code, .int .i64 y9.2.Index]] := nth e5 0
     have F : Fr 62 a [(50, .tuple #[.agg #[v7], .agg #[.int .i64 y9.2.Code, .int .i64 y9.2.Index]]), (45, .tuple #[.agg #[v7], .agg #[.int .i64 y9.2.Code, .int .i64 y9.2.Index]])] := Fr.of hsz hdf ⟨e50x, e45x, trivial⟩
     replace S : St gd16 [] fr w := S.of_eq (flat2 _ _ _ _)
     refine wl_ev (wn rfl) (ev_extract (vs := [.agg #[v7], .agg #[.int .i64 y9.2.Code, .int .i64 y9.2.Index]]) rfl rfl) F S rfl rfl ?_; clear F; intro a F
     refine wpList_nil ⟨rfl, F.sz, F.df, _, [], (Le.refl _), ?_, (lst1 (F.get 52 _ rfl))⟩
     refine St0.of_eq ?_ (flat3 c [] [] fr).symm
     show St0 _ (fl ([] ++ []) fr) _
     exact S
    ·intro a w gd16 c fr hsz hdf hK ld16 hN hI S
     have F : Fr 62 a [] := Fr.of hsz hdf trivial
     replace S : St gd16 [] fr w := S.of_eq (flat2 _ _ _ _)
     refine wl_alloc (wn rfl) rfl tz38 (cs := [nilS]) rfl F S rfl rfl ?_; clear F S; rintro b10 a w F S
     refine wpList_nil ⟨rfl, F.sz, F.df, _, [(b10, .cells #[nilS] 38 (0, 0))], (Le.refl _), ?_, ⟨b10, (lst1 (F.get 13 _ rfl)), rfl⟩⟩
     refine St0.of_eq ?_ (flat3s c ([(b10, .cells #[nilS] 38 (0, 0))]) [] fr).symm
     show St0 _ (fl ([[(b10, .cells #[nilS] 38 (0, 0))]] ++ []) fr) _
     exact S
    ·intro a w gd16 c fr hsz hdf hK ld16 hN hI S
     obtain ⟨v7, e4, lh1⟩ := hN 4 (by decide)
     have e50x : val a 50 = .tuple #[.agg #[v7], .agg #[.int .i64 y9.2.Code, .int .i64 y9.2.Index]] := nth e4 0
     obtain ⟨dup1, e6⟩ := hN 6 (by decide)
     obtain rfl : v7 = dup1 := by have hq := e50x.symm.trans (nth e6 1); simp at hq; first | exact hq | exact hq.1 | exact hq.2 | exact hq.2.1 | exact hq.2.2
     have e51x : val a 51 = .agg #[v7] := nth e6 0
     obtain ⟨b10, e8, q8⟩ := hN 8 (by decide)
     have e13x : val a 13 = bp b10 0 := nth e8 0
     have F : Fr 62 a [(50, .tuple #[.agg #[v7], .agg #[.int .i64 y9.2.Code, .int .i64 y9.2.Index]]), (51, .agg #[v7]), (13, bp b10 0)] := Fr.of hsz hdf ⟨e50x, e51x, e13x, trivial⟩
     replace S : St gd16 [c 8] fr w := S.of_eq (flat2 _ _ _ _)
     rw [q8] at S
     refine wl_storeC (wn rfl) rfl F S rfl rfl (vs := [v7]) rfl ts38 (one_cons lh1.one one_nil) (k := 0) rfl (lb rfl) (c' := #[v7]) rfl rfl ?_; clear S; intro w S
     replace S : St gd16 [[(b10, .cells #[v7] 38 (0, 0))]] fr w := S
     refine wpList_nil ⟨rfl, F.sz, F.df, _, [(b10, .cells #[v7] 38 (0, 0))], (Le.refl _), ?_, ⟨v7, b10, (lst2 (F.get 50 _ rfl) (F.get 13 _ rfl)), rfl⟩⟩
     refine St0.of_eq ?_ (flat3s c ([(b10, .cells #[v7] 38 (0, 0))]) [] fr).symm
     show St0 _ (fl ([[(b10, .cells #[v7] 38 (0, 0))]] ++ []) fr) _
     exact S
    ·intro a w gd16 c fr hsz hdf hK ld16 hN hI S
     have e7 := hN 7 (by decide)
     have e52x : val a 52 = .agg #[.int .i64 y9.2.Code, .int .i64 y9.2.Index] := nth e7 0
     have F : Fr 62 a [(12, bp b9 0), (52, .agg #[.int .i64 y9.2.Code, .int .i64 y9.2.Index])] := Fr.of hsz hdf ⟨hK 12 (by decide) _ rfl, e52x, trivial⟩
     replace S : St gd16 [c 11] fr w := S.of_eq (flat2 _ _ _ _)
     have q11 : c 11 = [(b9, .cells #[.int .i64 y6.2.Code, .int .i64 y6.2.Index] 24 (0, 0))] := hI 0 _ rfl
     rw [q11] at S
     refine wl_storeC (wn rfl) rfl F S rfl rfl (vs := [.int .i64 y9.2.Code, .int .i64 y9.2.Index]) rfl ts24 (one_cons rfl (one_cons rfl one_nil)) (k := 0) rfl (lb rfl) (c' := #[.int .i64 y9.2.Code, .int .i64 y9.2.Index]) rfl rfl ?_; clear S; intro w S
     replace S : St gd16 [[(b9, .cells #[.int .i64 y9.2.Code, .int .i64 y9.2.Index] 24 (0, 0))]] fr w := S
     refine wpList_nil ⟨rfl, F.sz, F.df, _, [(b9, .cells #[.int .i64 y9.2.Code, .int .i64 y9.2.Index] 24 (0, 0))], (Le.refl _), ?_, ⟨rfl, rfl⟩⟩
     refine St0.of_eq ?_ (flat3s c ([(b9, .cells #[.int .i64 y9.2.Code, .int .i64 y9.2.Index] 24 (0, 0))]) [] fr).symm
     show St0 _ (fl ([[(b9, .cells #[.int .i64 y9.2.Code, .int .i64 y9.2.Index] 24 (0, 0))]] ++ []) fr) _
     exact S
    clear F S; intro a w gd16 c hsz hdf hK ld16 hI S hN
    obtain ⟨v7, e4, lh1⟩ := hN 4 (by decide)
    have e50x : val a 50 = .tuple #[.agg #[v7], .agg #[.int .i64 y9.2.Code, .int .i64 y9.2.Index]] := nth e4 0
    obtain ⟨b10, e8, q8⟩ := hN 8 (by decide)
    have e13x : val a 13 = bp b10 0 := nth e8 0
    obtain ⟨dup1, dup2, e9, q9⟩ := hN 9 (by decide)
    obtain rfl : v7 = dup1 := by have hq := e50x.symm.trans (nth e9 0); simp at hq; first | exact hq | exact hq.1 | exact hq.2 | exact hq.2.1 | exact hq.2.2
    obtain rfl : b10 = dup2 := by have hq := e13x.symm.trans (nth e9 1); simp at hq; first | exact hq | exact hq.1 | exact hq.2 | exact hq.2.1 | exact hq.2.2
    obtain ⟨e10, q10⟩ := hN 10 (by decide)
    have F : Fr 62 a [(12, bp b9 0), (11, bp b8 0), (8, bp b6 0), (7, bp b5 0), (5, bp b4 0), (4, bp b3 0), (13, bp b10 0)] := Fr.of hsz hdf ⟨hK 12 (by decide) _ rfl, hK 11 (by decide) _ rfl, hK 8 (by decide) _ rfl, hK 7 (by decide) _ rfl, hK 5 (by decide) _ rfl, hK 4 (by decide) _ rfl, e13x, trivial⟩
    replace S : St gd16 [c 0, c 1, c 4, c 5, c 6, c 7, c 9, c 10, c 12, c 13, c 14, c 15, c 16, c 17, c 18, c 19] fr w := S.of_eq (flat_fl _ _ _)
    rw [q9] at S
    rw [q10] at S
    have q12 : c 12 = [(b8, .cells #[v4] 38 (0, 0))] := hI 1 _ rfl
    rw [q12] at S
    have q13 : c 13 = [(b7, .cells #[.int .i64 y1.Code, .int .i64 y1.Index] 24 (0, 0))] := hI 2 _ rfl
    rw [q13] at S
    have q14 : c 14 = [(b6, .cells #[nilS] 38 (0, 0))] := hI 3 _ rfl
    rw [q14] at S
    have q15 : c 15 = [(b5, .cells #[.int .i64 0, .int .i64 0] 24 (0, 0))] := hI 4 _ rfl
    rw [q15] at S
    have q16 : c 16 = [(b4, .cells #[nilS] 38 (0, 0))] := hI 5 _ rfl
    rw [q16] at S
    have q17 : c 17 = [(b3, .cells #[nilS] 38 (0, 0))] := hI 6 _ rfl
    rw [q17] at S
    have q18 : c 18 = [(b2, .cells #[vq_1] 38 (0, 0))] := hI 7 _ rfl
    rw [q18] at S
    have q19 : c 19 = [(b1, .cells #[vp_1] 38 (0, 0))] := hI 8 _ rfl
    rw [q19] at S
    replace S : St gd16 [[(b10, .cells #[v7] 38 (0, 0))], [(b9, .cells #[.int .i64 y9.2.Code, .int .i64 y9.2.Index] 24 (0, 0))], [(b8, .cells #[v4] 38 (0, 0))], [(b6, .cells #[nilS] 38 (0, 0))], [(b5, .cells #[.int .i64 0, .int .i64 0] 24 (0, 0))], [(b4, .cells #[nilS] 38 (0, 0))], [(b3, .cells #[nilS] 38 (0, 0))]] fr w := St.tail [[(b10, .cells #[v7] 38 (0, 0))], [(b9, .cells #[.int .i64 y9.2.Code, .int .i64 y9.2.Index] 24 (0, 0))], [(b8, .cells #[v4] 38 (0, 0))], [(b6, .cells #[nilS] 38 (0, 0))], [(b5, .cells #[.int .i64 0, .int .i64 0] 24 (0, 0))], [(b4, .cells #[nilS] 38 (0, 0))], [(b3, .cells #[nilS] 38 (0, 0))]] _ (((((((S.frontC 13 rfl).frontC 13 rfl).frontC 13 rfl).frontC 13 rfl).frontC 12 rfl).frontC 12 rfl).frontC 12 rfl)
    clear hK hI hN hsz hdf e4 e8 e9 e10 e50x e13x
    refine then_n ?_
    refine wp_seq ?_
    refine wp_seq ?_
    refine wp_region_lit ?_
    refine wl_ev (wn rfl) (ev_loadA tu24 rfl (cs := [.int .i64 y9.2.Code, .int .i64 y9.2.Index]) ts24 rfl (box_ptr (cells := [.int .i64 y9.2.Code, .int .i64 y9.2.Index]) 1 rfl 0 rfl (lb rfl))) F S rfl rfl ?_; clear F a; intro a F
    refine wl_ev (wn rfl) (ev_build (parts := []) (vs := []) rfl (fun w => tb24_  w)) F S rfl rfl ?_; clear F a; intro a F
    refine wl_ev (wn rfl) (ev_neS tu24 tqa24 tqb24 tqc24 (xs := [.int .i64 y9.2.Code, .int .i64 y9.2.Index]) (ys := [.int .i64 0, .int .i64 0]) rfl rfl ⟨_, _, rfl, by decide, ⟨_, _, rfl, rfl, leaf_int tu3⟩, ⟨_, _, rfl, by decide, ⟨_, _, rfl, rfl, leaf_int tu3⟩, rfl⟩⟩) F S rfl rfl ?_; clear F a; intro a F
    refine wpList_nil ?_
    replace F := F.sub (e' := [(55, .bool (!(decide (y9.2.Code = 0) && decide (y9.2.Index = 0)))), (12, bp b9 0), (11, bp b8 0), (8, bp b6 0), (7, bp b5 0), (5, bp b4 0), (4, bp b3 0), (13, bp b10 0)]) ⟨rfl, rfl, rfl, rfl, rfl, rfl, rfl, rfl, trivial⟩
    refine then_n ?_
    obtain ⟨hc4, hm⟩ | ⟨hc4, hm⟩ := ite_or hm
    ·refine wp_condT F rfl hc4 ?_
     refine wp_seq ?_
     refine wp_drawL ⟨7, [[56], [57], [58], [], [], [6], []], [[], [], [], [13], [12], [], [11]], [[10], [10], [8], [], [], [], []], [[8], [8], [12], [4], [5], [], [7]], [[], [], [], [0], [1], [], [2]], [7, 5, 4], [0, 1, 2, 3, 4, 5, 6, 7, 8, 9, 10]⟩
      [([56], fun us g c => us = [.agg #[nilS]]),
       ([57], fun us g c => us = [.agg #[nilS]]),
       ([58], fun us g c => us = [.agg #[.int .i64 y9.2.Code, .int .i64 y9.2.Index]]),
       ([], fun us g c => us = [] ∧ c = [(b3, .cells #[nilS] 38 (0, 0))]),
       ([], fun us g c => us = [] ∧ c = [(b4, .cells #[nilS] 38 (0, 0))]),
       ([6], fun us g c => us = [.bool false]),
       ([], fun us g c => us = [] ∧ c = [(b5, .cells #[.int .i64 y9.2.Code, .int .i64 y9.2.Index] 24 (0, 0))])]
      mo (by kernel_rfl) rfl rfl ⟨fun _ _ _ _ _ h => h, fun _ _ _ _ _ h => h, fun _ _ _ _ _ h => h, fun _ _ _ _ _ h => h, fun _ _ _ _ _ h => h, fun _ _ _ _ _ h => h, fun _ _ _ _ _ h => h, trivial⟩ F S ⟨?_, ?_, ?_, ?_, ?_, ?_, ?_, trivial⟩ ?_
     ·intro a w gd21 c fr hsz hdf hK ld21 hN hI S
      have F : Fr 62 a [(8, bp b6 0)] := Fr.of hsz hdf ⟨hK 8 (by decide) _ rfl, trivial⟩
      replace S : St gd21 [c 10] fr w := S.of_eq (flat2 _ _ _ _)
      have q10 : c 10 = [(b6, .cells #[nilS] 38 (0, 0))] := hI 3 _ rfl
      rw [q10] at S
      refine wl_ev (wn rfl) (ev_loadA tu38 rfl (cs := [nilS]) ts38 rfl (box_ptr (cells := [nilS]) 0 rfl 0 rfl (lb rfl))) F S rfl rfl ?_; clear F; intro a F
      refine wpList_nil ⟨rfl, F.sz, F.df, _, [], (Le.refl _), ?_, (lst1 (F.get 56 _ rfl))⟩
      refine St0.of_eq ?_ (flat3 c [] [10] fr).symm
      show St0 _ (fl ([] ++ [c 10]) fr) _
      rw [q10]
      exact S
     ·intro a w gd21 c fr hsz hdf hK ld21 hN hI S
      have F : Fr 62 a [(8, bp b6 0)] := Fr.of hsz hdf ⟨hK 8 (by decide) _ rfl, trivial⟩
      replace S : St gd21 [c 10] fr w := S.of_eq (flat2 _ _ _ _)
      have q10 : c 10 = [(b6, .cells #[nilS] 38 (0, 0))] := hI 3 _ rfl
      rw [q10] at S
      refine wl_ev (wn rfl) (ev_loadA tu38 rfl (cs := [nilS]) ts38 rfl (box_ptr (cells := [nilS]) 0 rfl 0 rfl (lb rfl))) F S rfl rfl ?_; clear F; intro a F
      refine wpList_nil ⟨rfl, F.sz, F.df, _, [], (Le.refl _), ?_, (lst1 (F.get 57 _ rfl))⟩
      refine St0.of_eq ?_ (flat3 c [] [10] fr).symm
      show St0 _ (fl ([] ++ [c 10]) fr) _
      rw [q10]
      exact S
     ·intro a w gd21 c fr hsz hdf hK ld21 hN hI S
      have F : Fr 62 a [(12, bp b9 0)] := Fr.of hsz hdf ⟨hK 12 (by decide) _ rfl, trivial⟩
      replace S : St gd21 [c 8] fr w := S.of_eq (flat2 _ _ _ _)
      have q8 : c 8 = [(b9, .cells #[.int .i64 y9.2.Code, .int .i64 y9.2.Index] 24 (0, 0))] := hI 1 _ rfl
      rw [q8] at S
      refine wl_ev (wn rfl) (ev_loadA tu24 rfl (cs := [.int .i64 y9.2.Code, .int .i64 y9.2.Index]) ts24 rfl (box_ptr (cells := [.int .i64 y9.2.Code, .int .i64 y9.2.Index]) 0 rfl 0 rfl (lb rfl))) F S rfl rfl ?_; clear F; intro a F
      refine wpList_nil ⟨rfl, F.sz, F.df, _, [], (Le.refl _), ?_, (lst1 (F.get 58 _ rfl))⟩
      refine St0.of_eq ?_ (flat3 c [] [8] fr).symm
      show St0 _ (fl ([] ++ [c 8]) fr) _
      rw [q8]
      exact S
     ·intro a w gd21 c fr hsz hdf hK ld21 hN hI S
      have e0 := hN 0 (by decide)
      have e56x : val a 56 = .agg #[nilS] := nth e0 0
      have F : Fr 62 a [(4, bp b3 0), (56, .agg #[nilS])] := Fr.of hsz hdf ⟨hK 4 (by decide) _ rfl, e56x, trivial⟩
      replace S : St gd21 [c 13] fr w := S.of_eq (flat2 _ _ _ _)
      have q13 : c 13 = [(b3, .cells #[nilS] 38 (0, 0))] := hI 6 _ rfl
      rw [q13] at S
      refine wl_storeC (wn rfl) rfl F S rfl rfl (vs := [nilS]) rfl ts38 (one_cons rfl one_nil) (k := 0) rfl (lb rfl) (c' := #[nilS]) rfl rfl ?_; clear S; intro w S
      replace S : St gd21 [[(b3, .cells #[nilS] 38 (0, 0))]] fr w := S
      refine wpList_nil ⟨rfl, F.sz, F.df, _, [(b3, .cells #[nilS] 38 (0, 0))], (Le.refl _), ?_, ⟨rfl, rfl⟩⟩
      refine St0.of_eq ?_ (flat3s c ([(b3, .cells #[nilS] 38 (0, 0))]) [] fr).symm
      show St0 _ (fl ([[(b3, .cells #[nilS] 38 (0, 0))]] ++ []) fr) _
      exact S
     ·intro a w gd21 c fr hsz hdf hK ld21 hN hI S
      have e1 := hN 1 (by decide)
      have e57x : val a 57 = .agg #[nilS] := nth e1 0
      have F : Fr 62 a [(5, bp b4 0), (57, .agg #[nilS])] := Fr.of hsz hdf ⟨hK 5 (by decide) _ rfl, e57x, trivial⟩
      replace S : St gd21 [c 12] fr w := S.of_eq (flat2 _ _ _ _)
      have q12 : c 12 = [(b4, .cells #[nilS] 38 (0, 0))] := hI 5 _ rfl
      rw [q12] at S
      refine wl_storeC (wn rfl) rfl F S rfl rfl (vs := [nilS]) rfl ts38 (one_cons rfl one_nil) (k := 0) rfl (lb rfl) (c' := #[nilS]) rfl rfl ?_; clear S; intro w S
      replace S : St gd21 [[(b4, .cells #[nilS] 38 (0, 0))]] fr w := S
      refine wpList_nil ⟨rfl, F.sz, F.df, _, [(b4, .cells #[nilS] 38 (0, 0))], (Le.refl _), ?_, ⟨rfl, rfl⟩⟩
      refine St0.of_eq ?_ (flat3s c ([(b4, .cells #[nilS] 38 (0, 0))]) [] fr).symm
      show St0 _ (fl ([[(b4, .cells #[nilS] 38 (0, 0))]] ++ []) fr) _
      exact S
     ·intro a w gd21 c fr hsz hdf hK ld21 hN hI S
      have F : Fr 62 a [] := Fr.of hsz hdf trivial
      replace S : St gd21 [] fr w := S.of_eq (flat2 _ _ _ _)
      refine wl_ev (wn rfl) (ev_assign rfl) F S rfl rfl ?_; clear F; intro a F
      refine wpList_nil ⟨rfl, F.sz, F.df, _, [], (Le.refl _), ?_, (lst1 (F.get 6 _ rfl))⟩
      refine St0.of_eq ?_ (flat3 c [] [] fr).symm
      show St0 _ (fl ([] ++ []) fr) _
      exact S
     ·intro a w gd21 c fr hsz hdf hK ld21 hN hI S
      have e2 := hN 2 (by decide)
      have e58x : val a 58 = .agg #[.int .i64 y9.2.Code, .int .i64 y9.2.Index] := nth e2 0
      have F : Fr 62 a [(7, bp b5 0), (58, .agg #[.int .i64 y9.2.Code, .int .i64 y9.2.Index])] := Fr.of hsz hdf ⟨hK 7 (by decide) _ rfl, e58x, trivial⟩
      replace S : St gd21 [c 11] fr w := S.of_eq (flat2 _ _ _ _)
      have q11 : c 11 = [(b5, .cells #[.int .i64 0, .int .i64 0] 24 (0, 0))] := hI 4 _ rfl
      rw [q11] at S
      refine wl_storeC (wn rfl) rfl F S rfl rfl (vs := [.int .i64 y9.2.Code, .int .i64 y9.2.Index]) rfl ts24 (one_cons rfl (one_cons rfl one_nil)) (k := 0) rfl (lb rfl) (c' := #[.int .i64 y9.2.Code, .int .i64 y9.2.Index]) rfl rfl ?_; clear S; intro w S
      replace S : St gd21 [[(b5, .cells #[.int .i64 y9.2.Code, .int .i64 y9.2.Index] 24 (0, 0))]] fr w := S
      refine wpList_nil ⟨rfl, F.sz, F.df, _, [(b5, .cells #[.int .i64 y9.2.Code, .int .i64 y9.2.Index] 24 (0, 0))], (Le.refl _), ?_, ⟨rfl, rfl⟩⟩
      refine St0.of_eq ?_ (flat3s c ([(b5, .cells #[.int .i64 y9.2.Code, .int .i64 y9.2.Index] 24 (0, 0))]) [] fr).symm
      show St0 _ (fl ([[(b5, .cells #[.int .i64 y9.2.Code, .int .i64 y9.2.Index] 24 (0, 0))]] ++ []) fr) _
      exact S
     clear F S; intro a w gd21 c hsz hdf hK ld21 hI S hN
     obtain ⟨e3, q3⟩ := hN 3 (by decide)
     obtain ⟨e4, q4⟩ := hN 4 (by decide)
     have e5 := hN 5 (by decide)
     have e6x : val a 6 = .bool false := nth e5 0
     obtain ⟨e6, q6⟩ := hN 6 (by decide)
     have F : Fr 62 a [(7, bp b5 0), (5, bp b4 0), (4, bp b3 0), (6, .bool false)] := Fr.of hsz hdf ⟨hK 7 (by decide) _ rfl, hK 5 (by decide) _ rfl, hK 4 (by decide) _ rfl, e6x, trivial⟩
     replace S : St gd21 [c 0, c 1, c 2, c 3, c 4, c 5, c 6, c 7, c 8, c 9, c 10] fr w := S.of_eq (flat_fl _ _ _)
     rw [q3] at S
     rw [q4] at S
     rw [q6] at S
     have q7 : c 7 = [(b10, .cells #[v7] 38 (0, 0))] := hI 0 _ rfl
     rw [q7] at S
     have q8 : c 8 = [(b9, .cells #[.int .i64 y9.2.Code, .int .i64 y9.2.Index] 24 (0, 0))] := hI 1 _ rfl
     rw [q8] at S
     have q9 : c 9 = [(b8, .cells #[v4] 38 (0, 0))] := hI 2 _ rfl
     rw [q9] at S
     have q10 : c 10 = [(b6, .cells #[nilS] 38 (0, 0))] := hI 3 _ rfl
     rw [q10] at S
     replace S : St gd21 [[(b3, .cells #[nilS] 38 (0, 0))], [(b4, .cells #[nilS] 38 (0, 0))], [(b5, .cells #[.int .i64 y9.2.Code, .int .i64 y9.2.Index] 24 (0, 0))]] fr w := St.tail [[(b3, .cells #[nilS] 38 (0, 0))], [(b4, .cells #[nilS] 38 (0, 0))], [(b5, .cells #[.int .i64 y9.2.Code, .int .i64 y9.2.Index] 24 (0, 0))]] _ (((S.frontC 6 rfl).frontC 5 rfl).frontC 5 rfl)
     clear hK hI hN hsz hdf e3 e4 e5 e6 e6x
     refine then_n ?_
     refine wp_ret ?_
     refine then_r ?_
     obtain rfl := sinj hm
     refine post_r (fn := Try.f18) (rs := [.cell 4 38, .cell 5 38, .tmp 6, .cell 7 24]) [.agg #[nilS], .agg #[nilS], .bool false, .agg #[.int .i64 y9.2.Code, .int .i64 y9.2.Index]] F rfl (ar_cons (resA rfl tu38 rfl ts38 (box_ptr (cells := [nilS]) 0 rfl 0 rfl (lb rfl) w S)) (ar_cons (resA rfl tu38 rfl ts38 (box_ptr (cells := [nilS]) 1 rfl 0 rfl (lb rfl) w S)) (ar_cons (resT rfl) (ar_cons (resA rfl tu24 rfl ts24 (box_ptr (cells := [.int .i64 y9.2.Code, .int .i64 y9.2.Index]) 2 rfl 0 rfl (lb rfl) w S)) ar_nil)))) ?_
     replace S : St gd21 [] fr w := St.tail [] _ S
     exact ⟨_, rfl, gd21, (nilS), (nilS), ((((((((((l1.trans l2).trans l3).trans l4).trans l5).trans l6).trans l7).trans l8).trans l9).trans ld16).trans ld21), S, (RepSl.nil _), (RepSl.nil _), rfl⟩
    ·refine wp_condF F rfl hc4 ?_
     refine wp_skip ?_
     refine then_n ?_
     refine wp_seq ?_
     refine wp_drawL ⟨7, [[59], [60], [61], [], [], [6], []], [[], [], [], [13], [12], [], [11]], [[9], [7], [], [], [], [], []], [[11], [13], [], [4], [5], [], [7]], [[], [], [], [0], [1], [], [2]], [7, 5, 4], [0, 1, 2, 3, 4, 5, 6, 7, 8, 9, 10]⟩
      [([59], fun us g c => us = [.agg #[v4]]),
       ([60], fun us g c => us = [.agg #[v7]]),
       ([61], fun us g c => us = [.agg #[.int .i64 0, .int .i64 0]]),
       ([], fun us g c => us = [] ∧ c = [(b3, .cells #[v4] 38 (0, 0))]),
       ([], fun us g c => us = [] ∧ c = [(b4, .cells #[v7] 38 (0, 0))]),
       ([6], fun us g c => us = [.bool true]),
       ([], fun us g c => us = [] ∧ c = [(b5, .cells #[.int .i64 0, .int .i64 0] 24 (0, 0))])]
      mo (by kernel_rfl) rfl rfl ⟨fun _ _ _ _ _ h => h, fun _ _ _ _ _ h => h, fun _ _ _ _ _ h => h, fun _ _ _ _ _ h => h, fun _ _ _ _ _ h => h, fun _ _ _ _ _ h => h, fun _ _ _ _ _ h => h, trivial⟩ F S ⟨?_, ?_, ?_, ?_, ?_, ?_, ?_, trivial⟩ ?_
     ·intro a w gd26 c fr hsz hdf hK ld26 hN hI S
      have F : Fr 62 a [(11, bp b8 0)] := Fr.of hsz hdf ⟨hK 11 (by decide) _ rfl, trivial⟩
      replace S : St gd26 [c 9] fr w := S.of_eq (flat2 _ _ _ _)
      have q9 : c 9 = [(b8, .cells #[v4] 38 (0, 0))] := hI 2 _ rfl
      rw [q9] at S
      refine wl_ev (wn rfl) (ev_loadA tu38 rfl (cs := [v4]) ts38 rfl (box_ptr (cells := [v4]) 0 rfl 0 rfl (lb rfl))) F S rfl rfl ?_; clear F; intro a F
      refine wpList_nil ⟨rfl, F.sz, F.df, _, [], (Le.refl _), ?_, (lst1 (F.get 59 _ rfl))⟩
      refine St0.of_eq ?_ (flat3 c [] [9] fr).symm
      show St0 _ (fl ([] ++ [c 9]) fr) _
      rw [q9]
      exact S
     ·intro a w gd26 c fr hsz hdf hK ld26 hN hI S
      have F : Fr 62 a [(13, bp b10 0)] := Fr.of hsz hdf ⟨hK 13 (by decide) _ rfl, trivial⟩
      replace S : St gd26 [c 7] fr w := S.of_eq (flat2 _ _ _ _)
      have q7 : c 7 = [(b10, .cells #[v7] 38 (0, 0))] := hI 0 _ rfl
      rw [q7] at S
      refine wl_ev (wn rfl) (ev_loadA tu38 rfl (cs := [v7]) ts38 rfl (box_ptr (cells := [v7]) 0 rfl 0 rfl (lb rfl))) F S rfl rfl ?_; clear F; intro a F
      refine wpList_nil ⟨rfl, F.sz, F.df, _, [], (Le.refl _), ?_, (lst1 (F.get 60 _ rfl))⟩
      refine St0.of_eq ?_ (flat3 c [] [7] fr).symm
      show St0 _ (fl ([] ++ [c 7]) fr) _
      rw [q7]
      exact S
     ·intro a w gd26 c fr hsz hdf hK ld26 hN hI S
      have F : Fr 62 a [] := Fr.of hsz hdf trivial
      replace S : St gd26 [] fr w := S.of_eq (flat2 _ _ _ _)
      refine wl_ev (wn rfl) (ev_build (parts := []) (vs := []) rfl (fun w => tb24_  w)) F S rfl rfl ?_; clear F; intro a F
      refine wpList_nil ⟨rfl, F.sz, F.df, _, [], (Le.refl _), ?_, (lst1 (F.get 61 _ rfl))⟩
      refine St0.of_eq ?_ (flat3 c [] [] fr).symm
      show St0 _ (fl ([] ++ []) fr) _
      exact S
     ·intro a w gd26 c fr hsz hdf hK ld26 hN hI S
      have e0 := hN 0 (by decide)
      have e59x : val a 59 = .agg #[v4] := nth e0 0
      have F : Fr 62 a [(4, bp b3 0), (59, .agg #[v4])] := Fr.of hsz hdf ⟨hK 4 (by decide) _ rfl, e59x, trivial⟩
      replace S : St gd26 [c 13] fr w := S.of_eq (flat2 _ _ _ _)
      have q13 : c 13 = [(b3, .cells #[nilS] 38 (0, 0))] := hI 6 _ rfl
      rw [q13] at S
      refine wl_storeC (wn rfl) rfl F S rfl rfl (vs := [v4]) rfl ts38 (one_cons h7.one one_nil) (k := 0) rfl (lb rfl) (c' := #[v4]) rfl rfl ?_; clear S; intro w S
      replace S : St gd26 [[(b3, .cells #[v4] 38 (0, 0))]] fr w := S
      refine wpList_nil ⟨rfl, F.sz, F.df, _, [(b3, .cells #[v4] 38 (0, 0))], (Le.refl _), ?_, ⟨rfl, rfl⟩⟩
      refine St0.of_eq ?_ (flat3s c ([(b3, .cells #[v4] 38 (0, 0))]) [] fr).symm
      show St0 _ (fl ([[(b3, .cells #[v4] 38 (0, 0))]] ++ []) fr) _
      exact S
     ·intro a w gd26 c fr hsz hdf hK ld26 hN hI S
      have e1 := hN 1 (by decide)
      have e60x : val a 60 = .agg #[v7] := nth e1 0
      have F : Fr 62 a [(5, bp b4 0), (60, .agg #[v7])] := Fr.of hsz hdf ⟨hK 5 (by decide) _ rfl, e60x, trivial⟩
      replace S : St gd26 [c 12] fr w := S.of_eq (flat2 _ _ _ _)
      have q12 : c 12 = [(b4, .cells #[nilS] 38 (0, 0))] := hI 5 _ rfl
      rw [q12] at S
      refine wl_storeC (wn rfl) rfl F S rfl rfl (vs := [v7]) rfl ts38 (one_cons lh1.one one_nil) (k := 0) rfl (lb rfl) (c' := #[v7]) rfl rfl ?_; clear S; intro w S
      replace S : St gd26 [[(b4, .cells #[v7] 38 (0, 0))]] fr w := S
      refine wpList_nil ⟨rfl, F.sz, F.df, _, [(b4, .cells #[v7] 38 (0, 0))], (Le.refl _), ?_, ⟨rfl, rfl⟩⟩
      refine St0.of_eq ?_ (flat3s c ([(b4, .cells #[v7] 38 (0, 0))]) [] fr).symm
      show St0 _ (fl ([[(b4, .cells #[v7] 38 (0, 0))]] ++ []) fr) _
      exact S
     ·intro a w gd26 c fr hsz hdf hK ld26 hN hI S
      have F : Fr 62 a [] := Fr.of hsz hdf trivial
      replace S : St gd26 [] fr w := S.of_eq (flat2 _ _ _ _)
      refine wl_ev (wn rfl) (ev_assign rfl) F S rfl rfl ?_; clear F; intro a F
      refine wpList_nil ⟨rfl, F.sz, F.df, _, [], (Le.refl _), ?_, (lst1 (F.get 6 _ rfl))⟩
      refine St0.of_eq ?_ (flat3 c [] [] fr).symm
      show St0 _ (fl ([] ++ []) fr) _
      exact S
     ·intro a w gd26 c fr hsz hdf hK ld26 hN hI S
      have e2 := hN 2 (by decide)
      have e61x : val a 61 = .agg #[.int .i64 0, .int .i64 0] := nth e2 0
      have F : Fr 62 a [(7, bp b5 0), (61, .agg #[.int .i64 0, .int .i64 0])] := Fr.of hsz hdf ⟨hK 7 (by decide) _ rfl, e61x, trivial⟩
      replace S : St gd26 [c 11] fr w := S.of_eq (flat2 _ _ _ _)
      have q11 : c 11 = [(b5, .cells #[.int .i64 0, .int .i64 0] 24 (0, 0))] := hI 4 _ rfl
      rw [q11] at S
      refine wl_storeC (wn rfl) rfl F S rfl rfl (vs := [.int .i64 0, .int .i64 0]) rfl ts24 (one_cons rfl (one_cons rfl one_nil)) (k := 0) rfl (lb rfl) (c' := #[.int .i64 0, .int .i64 0]) rfl rfl ?_; clear S; intro w S
      replace S : St gd26 [[(b5, .cells #[.int .i64 0, .int .i64 0] 24 (0, 0))]] fr w := S
      refine wpList_nil ⟨rfl, F.sz, F.df, _, [(b5, .cells #[.int .i64 0, .int .i64 0] 24 (0, 0))], (Le.refl _), ?_, ⟨rfl, rfl⟩⟩
      refine St0.of_eq ?_ (flat3s c ([(b5, .cells #[.int .i64 0, .int .i64 0] 24 (0, 0))]) [] fr).symm
      show St0 _ (fl ([[(b5, .cells #[.int .i64 0, .int .i64 0] 24 (0, 0))]] ++ []) fr) _
      exact S
     clear F S; intro a w gd26 c hsz hdf hK ld26 hI S hN
     obtain ⟨e3, q3⟩ := hN 3 (by decide)
     obtain ⟨e4, q4⟩ := hN 4 (by decide)
     have e5 := hN 5 (by decide)
     have e6x : val a 6 = .bool true := nth e5 0
     obtain ⟨e6, q6⟩ := hN 6 (by decide)
     have F : Fr 62 a [(7, bp b5 0), (5, bp b4 0), (4, bp b3 0), (6, .bool true)] := Fr.of hsz hdf ⟨hK 7 (by decide) _ rfl, hK 5 (by decide) _ rfl, hK 4 (by decide) _ rfl, e6x, trivial⟩
     replace S : St gd26 [c 0, c 1, c 2, c 3, c 4, c 5, c 6, c 7, c 8, c 9, c 10] fr w := S.of_eq (flat_fl _ _ _)
     rw [q3] at S
     rw [q4] at S
     rw [q6] at S
     have q7 : c 7 = [(b10, .cells #[v7] 38 (0, 0))] := hI 0 _ rfl
     rw [q7] at S
     have q8 : c 8 = [(b9, .cells #[.int .i64 y9.2.Code, .int .i64 y9.2.Index] 24 (0, 0))] := hI 1 _ rfl
     rw [q8] at S
     have q9 : c 9 = [(b8, .cells #[v4] 38 (0, 0))] := hI 2 _ rfl
     rw [q9] at S
     have q10 : c 10 = [(b6, .cells #[nilS] 38 (0, 0))] := hI 3 _ rfl
     rw [q10] at S
     replace S : St gd26 [[(b3, .cells #[v4] 38 (0, 0))], [(b4, .cells #[v7] 38 (0, 0))], [(b5, .cells #[.int .i64 0, .int .i64 0] 24 (0, 0))]] fr w := St.tail [[(b3, .cells #[v4] 38 (0, 0))], [(b4, .cells #[v7] 38 (0, 0))], [(b5, .cells #[.int .i64 0, .int .i64 0] 24 (0, 0))]] _ (((S.frontC 6 rfl).frontC 5 rfl).frontC 5 rfl)
     clear hK hI hN hsz hdf e3 e4 e5 e6 e6x
     refine then_n ?_
     refine wp_ret ?_
     obtain rfl := sinj hm
     refine post_r (fn := Try.f18) (rs := [.cell 4 38, .cell 5 38, .tmp 6, .cell 7 24]) [.agg #[v4], .agg #[v7], .bool true, .agg #[.int .i64 0, .int .i64 0]] F rfl (ar_cons (resA rfl tu38 rfl ts38 (box_ptr (cells := [v4]) 0 rfl 0 rfl (lb rfl) w S)) (ar_cons (resA rfl tu38 rfl ts38 (box_ptr (cells := [v7]) 1 rfl 0 rfl (lb rfl) w S)) (ar_cons (resT rfl) (ar_cons (resA rfl tu24 rfl ts24 (box_ptr (cells := [.int .i64 0, .int .i64 0]) 2 rfl 0 rfl (lb rfl) w S)) ar_nil)))) ?_
     replace S : St gd26 [] fr w := St.tail [] _ S
     exact ⟨_, rfl, gd26, v4, v7, ((((((((((l1.trans l2).trans l3).trans l4).trans l5).trans l6).trans l7).trans l8).trans l9).trans ld16).trans ld26), S, (h7.mono (ld16.trans ld26)), (lh1.mono ld26), rfl⟩

theorem stack_clone_ok {g : Gh} {fr : Hl} {w : World} {r : (List Patch)} (patches : (List Patch)) (vpatches1 : Value) (hpatches1 : RepSl g patches vpatches1) (S : St g [] fr w) (hm : stack_clone patches = some r) :
  Calls Try.prog 43 [vpatches1].toArray w (fun en w' => ∃ v, en = .returned v ∧ ∃ (g' : Gh) (v1 : Value) (c1 : Hl), Le g g' ∧ St g' [c1] fr w' ∧ OwnS g' r v1 c1 ∧ v1 = v) := by
 unfold stack_clone at hm
 refine calls_enter (fn := Try.f43) Try.func43 rfl Try.ntmps43 (lb rfl) ?_
 intro a F
 replace F : Fr 19 a [(0, vpatches1)] := F
 refine wp_seq ?_
 refine wp_region_lit ?_
 refine wl_ev (wn rfl) (ev_assign rfl) F S rfl rfl ?_; clear F a; intro a F
 refine wpList_nil ?_
 replace F := F.sub (e' := [(0, vpatches1)]) ⟨rfl, trivial⟩
 refine then_n ?_
 refine wp_seq ?_
 refine wp_region_lit ?_
 refine wl_ev (wn rfl) (ev_assign rfl) F S rfl rfl ?_; clear F a; intro a F
 refine wpList_nil ?_
 refine then_n ?_
 refine wp_cut (fun a w => ∃ (x1 : List Patch) (v1 : Value) (c1 : Hl) (g1 : Gh), Fr 19 a [(3, v1)] ∧ Le g g1 ∧ St g1 [c1] fr w ∧ OwnS g1 x1 v1 c1 ∧ stack_clone.j1 x1 = some r) ?_ ?_
 ·refine wp_seq ?_
  refine wp_region_lit ?_
  refine wl_ev (wn rfl) (ev_move rfl) F S rfl rfl ?_; clear F a; intro a F
  refine wl_ev (wn rfl) (ev_lenSh hpatches1 rfl tu22) F S rfl rfl ?_; clear F a; intro a F
  refine wl_ev (wn rfl) (ev_move rfl) F S rfl rfl ?_; clear F a; intro a F
  refine wpList_nil ?_
  replace F := F.sub (e' := [(8, .int .i64 0), (7, .int .i64 (patches.length : Int)), (6, vpatches1), (3, nilS)]) ⟨rfl, rfl, rfl, rfl, trivial⟩
  refine then_n ?_
  refine wp_block ?_
  obtain ⟨r1, hr1, hm⟩ := bind_some hm
  have hmo1 := hm; clear hm
  refine wp_iter (σ := Int × (List Patch)) (ρ := (List Patch)) (m := fun s => stack_clone.l1 patches s.1 s.2) (I := fun s a w => match s with | (x2, x3) => ∃ (v2 : Value) (c2 : Hl) (g2 : Gh), Fr 19 a [(8, .int .i64 x2), (7, .int .i64 (patches.length : Int)), (6, vpatches1), (3, v2)] ∧ Le g g2 ∧ St g2 [c2] fr w ∧ OwnS g2 x3 v2 c2) hr1 ?_ ?_
  ·dsimp only
   replace S : St g [[]] fr w := S
   exact ⟨(nilS), [], g, F.sub ⟨rfl, rfl, rfl, rfl, trivial⟩, (Le.refl _), S, (OwnS.nil _)⟩
  ·clear F S; rintro ⟨x2, x3⟩ a w x4 ⟨v2, c2, g2, F, l2, S, h2⟩ hx1 hfin1
   have hm : stack_clone.l1 patches x2 x3 = some x4 := hx1; clear hx1
   unfold stack_clone.l1 at hm
   refine wp_seq ?_
   refine wp_region_lit ?_
   refine wl_ev (wn rfl) (ev_int rfl rfl (bo_lss _ _ _ _)) F S rfl rfl ?_; clear F a; intro a F
   refine wpList_nil ?_
   refine then_n ?_
   refine wp_seq ?_
   obtain ⟨hc1, hm⟩ | ⟨hc1, hm⟩ := ite_or hm
   ·refine wp_condT F rfl hc1 ?_
    refine wp_skip ?_
    refine then_n ?_
    refine wp_seq ?_
    refine wp_block ?_
    refine wp_seq ?_
    refine wp_region_lit ?_
    obtain ⟨y1, hy1, hm⟩ := bind_some hm
    obtain ⟨cs1, hr2, hp1⟩ := elemS (hpatches1.mono l2) hy1
    obtain ⟨v3, rfl, h3⟩ := rep_Patch hr2
    refine wl_ev (wn rfl) (ev_idxS (hpatches1.mono l2) hy1 tu22 ts38 rfl rfl) F S rfl rfl ?_; clear F a; intro a F
    refine wl_ev (wn rfl) (ev_loadA tu38 rfl (cs := [v3]) ts38 rfl (ptr_mono (cks := [c2]) (fr := fr) hp1 (Le.refl _))) F S rfl rfl ?_; clear F a; intro a F
    refine wl_alloc (wn rfl) rfl tz38 (cs := [nilS]) rfl F S rfl rfl ?_; clear F a S; rintro b1 a w F S
    refine wl_storeC (wn rfl) rfl F S rfl rfl (vs := [v3]) rfl ts38 (one_cons h3.one one_nil) (k := 0) rfl (lb rfl) (c' := #[v3]) rfl rfl ?_; clear S; intro w S
    replace S : St g2 [[(b1, .cells #[v3] 38 (0, 0))], c2] fr w := S
    refine wpList_nil ?_
    replace F := F.sub (e' := [(5, bp b1 0), (8, .int .i64 x2), (7, .int .i64 (patches.length : Int)), (6, vpatches1), (3, v2)]) ⟨rfl, rfl, rfl, rfl, rfl, trivial⟩
    refine then_n ?_
    refine wp_region_lit ?_
    refine wl_ev (wn rfl) (ev_move rfl) F S rfl rfl ?_; clear F a; intro a F
    refine wl_ev (wn rfl) (ev_loadA tu38 rfl (cs := [v3]) ts38 rfl (box_ptr (cells := [v3]) 0 rfl 0 rfl (lb rfl))) F S rfl rfl ?_; clear F a; intro a F
    obtain ⟨y2, hy2, hm⟩ := bind_some hm
    refine wl_call (wn rfl) rfl (xs := [.tmp 13]) (vs := [.agg #[v3]]) (cap := []) F rfl rfl tc52 (textpatch_Copy_ok (g := g2) (fr := (fl [[(b1, .cells #[v3] 38 (0, 0))], c2] fr)) (w := w) y1 v3 h3 S hy2) rfl rfl ?_; clear F a S
    rintro _ a w ⟨g3, v4, c3, l3, S, h4, rfl⟩ F; replace S : St g3 [c3, [(b1, .cells #[v3] 38 (0, 0))], c2] fr w := S
    obtain ⟨g4, l4, S, h5⟩ : ∃ gz, Le g3 gz ∧ St gz [[(b1, .cells #[v3] 38 (0, 0))], c2] fr w ∧ RepSl gz y2.Hunks v4 := ⟨_, Le.add _ _, S.freeze 0 rfl, OwnS.freeze (S.front 0 rfl) h4⟩
    refine wl_lit (l := ([y2] : List Patch)) (vs := [.agg #[v4]]) (parts := [(0, .tmp 14)]) (wn rfl) rfl rfl rfl tu22 te38 (sz_cons rfl sz_nil) rfl (Cat.cons (rep_Patch_mk (x := y2) h5) (Cat.nil _)) (coa_cons rfl coa_nil) rfl F S rfl rfl ?_; clear F a S
    rintro v5 c4 a w h6 F S
    obtain ⟨cs2, hk1, hr3⟩ := OwnS.reads h6
    obtain ⟨y3, hy3, hm⟩ := bind_some hm
    refine wl_append (wn rfl) rfl tu22 tu22 te38 (by decide) (by decide) F S rfl rfl (k := 2) rfl (h2.mono (l3.trans l4)) hk1 rfl (hr3 _ _ _ 0 rfl S) hy3 rfl rfl ?_; clear F a S
    rintro v6 c5 a w h7 S F; replace S : St g4 [c4, [(b1, .cells #[v3] 38 (0, 0))], c5] fr w := S
    refine wl_ev (wn rfl) (ev_assign rfl) F S rfl rfl ?_; clear F a; intro a F
    refine wpList_nil ?_
    replace F := F.sub (e' := [(3, v6), (8, .int .i64 x2), (7, .int .i64 (patches.length : Int)), (6, vpatches1)]) ⟨rfl, rfl, rfl, rfl, trivial⟩
    refine inb_n ?_
    refine then_n ?_
    refine wp_region_lit ?_
    obtain ⟨z1, hz1, hm⟩ := bind_some hm
    refine wl_ev (wn rfl) (ev_int rfl rfl (bo_add hz1)) F S rfl rfl ?_; clear F a; intro a F
    refine wl_ev (wn rfl) (ev_move rfl) F S rfl rfl ?_; clear F a; intro a F
    refine wpList_nil ?_
    replace F := F.sub (e' := [(8, .int .i64 z1), (3, v6), (7, .int .i64 (patches.length : Int)), (6, vpatches1)]) ⟨rfl, rfl, rfl, rfl, trivial⟩
    refine then_n ?_
    obtain rfl := sinj hm
    refine ⟨_, rfl, ?_⟩
    dsimp only
    replace S : St g4 [c5] fr w := St.tail [c5] _ (S.frontC 2 rfl)
    exact ⟨v6, c5, g4, F.sub ⟨rfl, rfl, rfl, rfl, trivial⟩, ((l2.trans l3).trans l4), S, h7⟩
   ·refine wp_condF F rfl hc1 ?_
    refine wp_exit ?_
    refine then_e ?_
    refine then_e ?_
    refine inb_x ?_
    refine then_n ?_
    obtain rfl := sinj hm
    obtain rfl := hfin1 _ rfl
    clear hm
    have hm : (stack_clone.j1 x3 : Option (List Patch)) = some _ := hmo1
    exact ⟨x3, v2, c2, g2, F.sub ⟨rfl, trivial⟩, l2, S, h2, hm⟩
 ·clear F S hm; rintro a w ⟨x1, v1, c1, g1, F, l1, S, h1, hm⟩
  refine wp_seq ?_
  refine wp_region_lit ?_
  refine wl_ev (wn rfl) (ev_move rfl) F S rfl rfl ?_; clear F a; intro a F
  refine wl_ev (wn rfl) (ev_assign rfl) F S rfl rfl ?_; clear F a; intro a F
  refine wpList_nil ?_
  replace F := F.sub (e' := [(2, v1)]) ⟨rfl, trivial⟩
  refine then_n ?_
  refine wp_ret ?_
  obtain rfl := sinj hm
  refine post_r (fn := Try.f43) (rs := [.tmp 2]) [v1] F rfl (ar_cons (resT rfl) ar_nil) ?_
  exact ⟨_, rfl, g1, v1, c1, l1, S, h1, rfl⟩
end Go.Dc
