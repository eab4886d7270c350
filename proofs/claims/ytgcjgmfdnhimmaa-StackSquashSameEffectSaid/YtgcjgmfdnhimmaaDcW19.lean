/- Walks: each function comes to what its model says. -/
import Derived.Test.YtgcjgmfdnhimmaaDcTab
import Derived.Test.YtgcjgmfdnhimmaaDcM
import Derived.Test.YtgcjgmfdnhimmaaDcW1
import Derived.Test.YtgcjgmfdnhimmaaDcW17
import Derived.Test.YtgcjgmfdnhimmaaDcW18
import Derived.Test.YtgcjgmfdnhimmaaDcW2
import Derived.Test.YtgcjgmfdnhimmaaDcW3
namespace Go.Dc
open Go Go.Proofs
set_option maxRecDepth 100000
set_option maxHeartbeats 4000000
set_option linter.unusedVariables false
theorem textpatch_Compose_ok {g : Gh} {fr : Hl} {w : World} {r : Patch × Fault} (p_ : Patch) (vp_1 : Value) (hp_1 : RepSl g p_.Hunks vp_1) (q_ : Patch) (vq_1 : Value) (hq_1 : RepSl g q_.Hunks vq_1) (S : St g [] fr w) (hm : textpatch_Compose p_ q_ = some r) :
  Calls Try.prog 42 [.agg #[vp_1], .agg #[vq_1]].toArray w (fun en w' => ∃ v, en = .returned v ∧ ∃ (g' : Gh) (v1 : Value), Le g g' ∧ St g' [] fr w' ∧ RepSl g' r.1.Hunks v1 ∧ .tuple #[.agg #[v1], .agg #[.int .i64 r.2.Code, .int .i64 r.2.Index]] = v) := by
 unfold textpatch_Compose at hm
 refine calls_enter (fn := Try.f42) Try.func42 rfl Try.ntmps42 (lb rfl) ?_
 intro a F
 replace F : Fr 73 a [(0, .agg #[vp_1]), (1, .agg #[vq_1])] := F
 refine wp_seq ?_
 refine wp_region_lit ?_
 refine wl_boxC (wn rfl) rfl rfl rfl F S rfl rfl ?_; clear F a S; rintro b1 a w F S
 refine wl_boxC (wn rfl) rfl rfl rfl F S rfl rfl ?_; clear F a S; rintro b2 a w F S
 refine wl_alloc (wn rfl) rfl tz38 (cs := [nilS]) rfl F S rfl rfl ?_; clear F a S; rintro b3 a w F S
 refine wl_alloc (wn rfl) rfl tz24 (cs := [.int .i64 0, .int .i64 0]) rfl F S rfl rfl ?_; clear F a S; rintro b4 a w F S
 refine wpList_nil ?_
 replace F := F.sub (e' := [(5, bp b4 0), (4, bp b3 0), (3, bp b2 0), (2, bp b1 0)]) ⟨rfl, rfl, rfl, rfl, trivial⟩
 refine then_n ?_
 refine wp_seq ?_
 refine wp_seq ?_
 refine wp_region_lit ?_
 refine wl_ev (wn rfl) (ev_loadA tu38 rfl (cs := [vp_1]) ts38 rfl (box_ptr (cells := [vp_1]) 3 rfl 0 rfl (lb rfl))) F S rfl rfl ?_; clear F a; intro a F
 obtain ⟨y1, hy1, hm⟩ := bind_some hm
 refine wl_call (wn rfl) rfl (xs := [.tmp 14]) (vs := [.agg #[vp_1]]) (cap := []) F rfl rfl tc37 (textpatch_Validate_ok (g := g) (fr := (fl [[(b4, .cells #[.int .i64 0, .int .i64 0] 24 (0, 0))], [(b3, .cells #[nilS] 38 (0, 0))], [(b2, .cells #[vq_1] 38 (0, 0))], [(b1, .cells #[vp_1] 38 (0, 0))]] fr)) (w := w) p_ vp_1 hp_1 S hy1) rfl rfl ?_; clear F a S
 rintro _ a w ⟨g1, l1, S, rfl⟩ F; replace S : St g1 [[(b4, .cells #[.int .i64 0, .int .i64 0] 24 (0, 0))], [(b3, .cells #[nilS] 38 (0, 0))], [(b2, .cells #[vq_1] 38 (0, 0))], [(b1, .cells #[vp_1] 38 (0, 0))]] fr w := S
 refine wl_alloc (wn rfl) rfl tz24 (cs := [.int .i64 0, .int .i64 0]) rfl F S rfl rfl ?_; clear F a S; rintro b5 a w F S
 refine wl_storeC (wn rfl) rfl F S rfl rfl (vs := [.int .i64 y1.Code, .int .i64 y1.Index]) rfl ts24 (one_cons rfl (one_cons rfl one_nil)) (k := 0) rfl (lb rfl) (c' := #[.int .i64 y1.Code, .int .i64 y1.Index]) rfl rfl ?_; clear S; intro w S
 replace S : St g1 [[(b5, .cells #[.int .i64 y1.Code, .int .i64 y1.Index] 24 (0, 0))], [(b4, .cells #[.int .i64 0, .int .i64 0] 24 (0, 0))], [(b3, .cells #[nilS] 38 (0, 0))], [(b2, .cells #[vq_1] 38 (0, 0))], [(b1, .cells #[vp_1] 38 (0, 0))]] fr w := S
 refine wpList_nil ?_
 replace F := F.sub (e' := [(6, bp b5 0), (5, bp b4 0), (4, bp b3 0), (3, bp b2 0), (2, bp b1 0)]) ⟨rfl, rfl, rfl, rfl, rfl, trivial⟩
 refine then_n ?_
 refine wp_seq ?_
 refine wp_region_lit ?_
 refine wl_ev (wn rfl) (ev_loadA tu24 rfl (cs := [.int .i64 y1.Code, .int .i64 y1.Index]) ts24 rfl (box_ptr (cells := [.int .i64 y1.Code, .int .i64 y1.Index]) 0 rfl 0 rfl (lb rfl))) F S rfl rfl ?_; clear F a; intro a F
 refine wl_ev (wn rfl) (ev_build (parts := []) (vs := []) rfl (fun w => tb24_  w)) F S rfl rfl ?_; clear F a; intro a F
 refine wl_ev (wn rfl) (ev_neS tu24 tqa24 tqb24 tqc24 (xs := [.int .i64 y1.Code, .int .i64 y1.Index]) (ys := [.int .i64 0, .int .i64 0]) rfl rfl ⟨_, _, rfl, by decide, ⟨_, _, rfl, rfl, leaf_int tu3⟩, ⟨_, _, rfl, by decide, ⟨_, _, rfl, rfl, leaf_int tu3⟩, rfl⟩⟩) F S rfl rfl ?_; clear F a; intro a F
 refine wpList_nil ?_
 replace F := F.sub (e' := [(18, .bool (!(decide (y1.Code = 0) && decide (y1.Index = 0)))), (6, bp b5 0), (5, bp b4 0), (4, bp b3 0), (3, bp b2 0), (2, bp b1 0)]) ⟨rfl, rfl, rfl, rfl, rfl, rfl, trivial⟩
 refine then_n ?_
 obtain ⟨hc1, hm⟩ | ⟨hc1, hm⟩ := ite_or hm
 ·refine wp_condT F rfl hc1 ?_
  refine wp_seq ?_
  refine wp_drawL ⟨5, [[19], [20], [], []], [[], [], [6], [5]], [[], [4], [], []], [[], [6], [4], [5]], [[], [], [0], [1]], [5, 4], [0, 1, 2, 3, 4, 7, 8]⟩
   [([19], fun us g c => us = [.agg #[nilS]]),
    ([20], fun us g c => us = [.agg #[.int .i64 y1.Code, .int .i64 y1.Index]]),
    ([], fun us g c => us = [] ∧ c = [(b3, .cells #[nilS] 38 (0, 0))]),
    ([], fun us g c => us = [] ∧ c = [(b4, .cells #[.int .i64 y1.Code, .int .i64 y1.Index] 24 (0, 0))])]
   mo (by kernel_rfl) rfl rfl ⟨fun _ _ _ _ _ h => h, fun _ _ _ _ _ h => h, fun _ _ _ _ _ h => h, fun _ _ _ _ _ h => h, trivial⟩ F S ⟨?_, ?_, ?_, ?_, trivial⟩ ?_
  ·intro a w gd1 c fr hsz hdf hK ld1 hN hI S
   have F : Fr 73 a [] := Fr.of hsz hdf trivial
   replace S : St gd1 [] fr w := S.of_eq (flat2 _ _ _ _)
   refine wl_ev (wn rfl) (ev_build (parts := []) (vs := []) rfl (fun w => tb38_  w)) F S rfl rfl ?_; clear F; intro a F
   refine wpList_nil ⟨rfl, F.sz, F.df, _, [], (Le.refl _), ?_, (lst1 (F.get 19 _ rfl))⟩
   refine St0.of_eq ?_ (flat3 c [] [] fr).symm
   show St0 _ (fl ([] ++ []) fr) _
   exact S
  ·intro a w gd1 c fr hsz hdf hK ld1 hN hI S
   have F : Fr 73 a [(6, bp b5 0)] := Fr.of hsz hdf ⟨hK 6 (by decide) _ rfl, trivial⟩
   replace S : St gd1 [c 4] fr w := S.of_eq (flat2 _ _ _ _)
   have q4 : c 4 = [(b5, .cells #[.int .i64 y1.Code, .int .i64 y1.Index] 24 (0, 0))] := hI 0 _ rfl
   rw [q4] at S
   refine wl_ev (wn rfl) (ev_loadA tu24 rfl (cs := [.int .i64 y1.Code, .int .i64 y1.Index]) ts24 rfl (box_ptr (cells := [.int .i64 y1.Code, .int .i64 y1.Index]) 0 rfl 0 rfl (lb rfl))) F S rfl rfl ?_; clear F; intro a F
   refine wpList_nil ⟨rfl, F.sz, F.df, _, [], (Le.refl _), ?_, (lst1 (F.get 20 _ rfl))⟩
   refine St0.of_eq ?_ (flat3 c [] [4] fr).symm
   show St0 _ (fl ([] ++ [c 4]) fr) _
   rw [q4]
   exact S
  ·intro a w gd1 c fr hsz hdf hK ld1 hN hI S
   have e0 := hN 0 (by decide)
   have e19x : val a 19 = .agg #[nilS] := nth e0 0
   have F : Fr 73 a [(4, bp b3 0), (19, .agg #[nilS])] := Fr.of hsz hdf ⟨hK 4 (by decide) _ rfl, e19x, trivial⟩
   replace S : St gd1 [c 6] fr w := S.of_eq (flat2 _ _ _ _)
   have q6 : c 6 = [(b3, .cells #[nilS] 38 (0, 0))] := hI 2 _ rfl
   rw [q6] at S
   refine wl_storeC (wn rfl) rfl F S rfl rfl (vs := [nilS]) rfl ts38 (one_cons rfl one_nil) (k := 0) rfl (lb rfl) (c' := #[nilS]) rfl rfl ?_; clear S; intro w S
   replace S : St gd1 [[(b3, .cells #[nilS] 38 (0, 0))]] fr w := S
   refine wpList_nil ⟨rfl, F.sz, F.df, _, [(b3, .cells #[nilS] 38 (0, 0))], (Le.refl _), ?_, ⟨rfl, rfl⟩⟩
   refine St0.of_eq ?_ (flat3s c ([(b3, .cells #[nilS] 38 (0, 0))]) [] fr).symm
   show St0 _ (fl ([[(b3, .cells #[nilS] 38 (0, 0))]] ++ []) fr) _
   exact S
  ·intro a w gd1 c fr hsz hdf hK ld1 hN hI S
   have e1 := hN 1 (by decide)
   have e20x : val a 20 = .agg #[.int .i64 y1.Code, .int .i64 y1.Index] := nth e1 0
   have F : Fr 73 a [(5, bp b4 0), (20, .agg #[.int .i64 y1.Code, .int .i64 y1.Index])] := Fr.of hsz hdf ⟨hK 5 (by decide) _ rfl, e20x, trivial⟩
   replace S : St gd1 [c 5] fr w := S.of_eq (flat2 _ _ _ _)
   have q5 : c 5 = [(b4, .cells #[.int .i64 0, .int .i64 0] 24 (0, 0))] := hI 1 _ rfl
   rw [q5] at S
   refine wl_storeC (wn rfl) rfl F S rfl rfl (vs := [.int .i64 y1.Code, .int .i64 y1.Index]) rfl ts24 (one_cons rfl (one_cons rfl one_nil)) (k := 0) rfl (lb rfl) (c' := #[.int .i64 y1.Code, .int .i64 y1.Index]) rfl rfl ?_; clear S; intro w S
   replace S : St gd1 [[(b4, .cells #[.int .i64 y1.Code, .int .i64 y1.Index] 24 (0, 0))]] fr w := S
   refine wpList_nil ⟨rfl, F.sz, F.df, _, [(b4, .cells #[.int .i64 y1.Code, .int .i64 y1.Index] 24 (0, 0))], (Le.refl _), ?_, ⟨rfl, rfl⟩⟩
   refine St0.of_eq ?_ (flat3s c ([(b4, .cells #[.int .i64 y1.Code, .int .i64 y1.Index] 24 (0, 0))]) [] fr).symm
   show St0 _ (fl ([[(b4, .cells #[.int .i64 y1.Code, .int .i64 y1.Index] 24 (0, 0))]] ++ []) fr) _
   exact S
  clear F S; intro a w gd1 c hsz hdf hK ld1 hI S hN
  obtain ⟨e2, q2⟩ := hN 2 (by decide)
  obtain ⟨e3, q3⟩ := hN 3 (by decide)
  have F : Fr 73 a [(5, bp b4 0), (4, bp b3 0)] := Fr.of hsz hdf ⟨hK 5 (by decide) _ rfl, hK 4 (by decide) _ rfl, trivial⟩
  replace S : St gd1 [c 0, c 1, c 2, c 3, c 4, c 7, c 8] fr w := S.of_eq (flat_fl _ _ _)
  rw [q2] at S
  rw [q3] at S
  have q4 : c 4 = [(b5, .cells #[.int .i64 y1.Code, .int .i64 y1.Index] 24 (0, 0))] := hI 0 _ rfl
  rw [q4] at S
  have q7 : c 7 = [(b2, .cells #[vq_1] 38 (0, 0))] := hI 3 _ rfl
  rw [q7] at S
  have q8 : c 8 = [(b1, .cells #[vp_1] 38 (0, 0))] := hI 4 _ rfl
  rw [q8] at S
  replace S : St gd1 [[(b3, .cells #[nilS] 38 (0, 0))], [(b4, .cells #[.int .i64 y1.Code, .int .i64 y1.Index] 24 (0, 0))]] fr w := St.tail [[(b3, .cells #[nilS] 38 (0, 0))], [(b4, .cells #[.int .i64 y1.Code, .int .i64 y1.Index] 24 (0, 0))]] _ ((S.frontC 3 rfl).frontC 3 rfl)
  clear hK hI hN hsz hdf e2 e3 
  refine then_n ?_
  refine wp_ret ?_
  refine then_r ?_
  obtain rfl := sinj hm
  refine post_r (fn := Try.f42) (rs := [.cell 4 38, .cell 5 24]) [.agg #[nilS], .agg #[.int .i64 y1.Code, .int .i64 y1.Index]] F rfl (ar_cons (resA rfl tu38 rfl ts38 (box_ptr (cells := [nilS]) 0 rfl 0 rfl (lb rfl) w S)) (ar_cons (resA rfl tu24 rfl ts24 (box_ptr (cells := [.int .i64 y1.Code, .int .i64 y1.Index]) 1 rfl 0 rfl (lb rfl) w S)) ar_nil)) ?_
  replace S : St gd1 [] fr w := St.tail [] _ S
  exact ⟨_, rfl, gd1, (nilS), (l1.trans ld1), S, (RepSl.nil _), rfl⟩
 ·refine wp_condF F rfl hc1 ?_
  refine wp_skip ?_
  refine then_n ?_
  refine wp_seq ?_
  refine wp_seq ?_
  refine wp_region_lit ?_
  refine wl_ev (wn rfl) (ev_loadA tu38 rfl (cs := [vq_1]) ts38 rfl (box_ptr (cells := [vq_1]) 3 rfl 0 rfl (lb rfl))) F S rfl rfl ?_; clear F a; intro a F
  obtain ⟨y2, hy2, hm⟩ := bind_some hm
  refine wl_call (wn rfl) rfl (xs := [.tmp 21, .const (.int .i64 (-2))]) (vs := [.agg #[vq_1], .int .i64 (-2)]) (cap := []) F rfl rfl tc45 (textpatch_Second_ok (g := g1) (fr := (fl [[(b5, .cells #[.int .i64 y1.Code, .int .i64 y1.Index] 24 (0, 0))], [(b4, .cells #[.int .i64 0, .int .i64 0] 24 (0, 0))], [(b3, .cells #[nilS] 38 (0, 0))], [(b2, .cells #[vq_1] 38 (0, 0))], [(b1, .cells #[vp_1] 38 (0, 0))]] fr)) (w := w) q_ vq_1 (hq_1.mono l1) (-2) S hy2) rfl rfl ?_; clear F a S
  rintro _ a w ⟨g2, l2, S, rfl⟩ F; replace S : St g2 [[(b5, .cells #[.int .i64 y1.Code, .int .i64 y1.Index] 24 (0, 0))], [(b4, .cells #[.int .i64 0, .int .i64 0] 24 (0, 0))], [(b3, .cells #[nilS] 38 (0, 0))], [(b2, .cells #[vq_1] 38 (0, 0))], [(b1, .cells #[vp_1] 38 (0, 0))]] fr w := S
  refine wl_alloc (wn rfl) rfl tz24 (cs := [.int .i64 0, .int .i64 0]) rfl F S rfl rfl ?_; clear F a S; rintro b6 a w F S
  refine wl_storeC (wn rfl) rfl F S rfl rfl (vs := [.int .i64 y2.Code, .int .i64 y2.Index]) rfl ts24 (one_cons rfl (one_cons rfl one_nil)) (k := 0) rfl (lb rfl) (c' := #[.int .i64 y2.Code, .int .i64 y2.Index]) rfl rfl ?_; clear S; intro w S
  replace S : St g2 [[(b6, .cells #[.int .i64 y2.Code, .int .i64 y2.Index] 24 (0, 0))], [(b5, .cells #[.int .i64 y1.Code, .int .i64 y1.Index] 24 (0, 0))], [(b4, .cells #[.int .i64 0, .int .i64 0] 24 (0, 0))], [(b3, .cells #[nilS] 38 (0, 0))], [(b2, .cells #[vq_1] 38 (0, 0))], [(b1, .cells #[vp_1] 38 (0, 0))]] fr w := S
  refine wpList_nil ?_
  replace F := F.sub (e' := [(7, bp b6 0), (5, bp b4 0), (4, bp b3 0), (3, bp b2 0), (2, bp b1 0)]) ⟨rfl, rfl, rfl, rfl, rfl, trivial⟩
  refine then_n ?_
  refine wp_seq ?_
  refine wp_region_lit ?_
  refine wl_ev (wn rfl) (ev_loadA tu24 rfl (cs := [.int .i64 y2.Code, .int .i64 y2.Index]) ts24 rfl (box_ptr (cells := [.int .i64 y2.Code, .int .i64 y2.Index]) 0 rfl 0 rfl (lb rfl))) F S rfl rfl ?_; clear F a; intro a F
  refine wl_ev (wn rfl) (ev_build (parts := []) (vs := []) rfl (fun w => tb24_  w)) F S rfl rfl ?_; clear F a; intro a F
  refine wl_ev (wn rfl) (ev_neS tu24 tqa24 tqb24 tqc24 (xs := [.int .i64 y2.Code, .int .i64 y2.Index]) (ys := [.int .i64 0, .int .i64 0]) rfl rfl ⟨_, _, rfl, by decide, ⟨_, _, rfl, rfl, leaf_int tu3⟩, ⟨_, _, rfl, by decide, ⟨_, _, rfl, rfl, leaf_int tu3⟩, rfl⟩⟩) F S rfl rfl ?_; clear F a; intro a F
  refine wpList_nil ?_
  replace F := F.sub (e' := [(25, .bool (!(decide (y2.Code = 0) && decide (y2.Index = 0)))), (7, bp b6 0), (5, bp b4 0), (4, bp b3 0), (3, bp b2 0), (2, bp b1 0)]) ⟨rfl, rfl, rfl, rfl, rfl, rfl, trivial⟩
  refine then_n ?_
  obtain ⟨hc2, hm⟩ | ⟨hc2, hm⟩ := ite_or hm
  ·refine wp_condT F rfl hc2 ?_
   refine wp_seq ?_
   refine wp_drawL ⟨6, [[26], [27], [], []], [[], [], [7], [6]], [[], [4], [], []], [[], [7], [4], [5]], [[], [], [0], [1]], [5, 4], [0, 1, 2, 3, 4, 5, 8, 9]⟩
    [([26], fun us g c => us = [.agg #[nilS]]),
     ([27], fun us g c => us = [.agg #[.int .i64 y2.Code, .int .i64 y2.Index]]),
     ([], fun us g c => us = [] ∧ c = [(b3, .cells #[nilS] 38 (0, 0))]),
     ([], fun us g c => us = [] ∧ c = [(b4, .cells #[.int .i64 y2.Code, .int .i64 y2.Index] 24 (0, 0))])]
    mo (by kernel_rfl) rfl rfl ⟨fun _ _ _ _ _ h => h, fun _ _ _ _ _ h => h, fun _ _ _ _ _ h => h, fun _ _ _ _ _ h => h, trivial⟩ F S ⟨?_, ?_, ?_, ?_, trivial⟩ ?_
   ·intro a w gd6 c fr hsz hdf hK ld6 hN hI S
    have F : Fr 73 a [] := Fr.of hsz hdf trivial
    replace S : St gd6 [] fr w := S.of_eq (flat2 _ _ _ _)
    refine wl_ev (wn rfl) (ev_build (parts := []) (vs := []) rfl (fun w => tb38_  w)) F S rfl rfl ?_; clear F; intro a F
    refine wpList_nil ⟨rfl, F.sz, F.df, _, [], (Le.refl _), ?_, (lst1 (F.get 26 _ rfl))⟩
    refine St0.of_eq ?_ (flat3 c [] [] fr).symm
    show St0 _ (fl ([] ++ []) fr) _
    exact S
   ·intro a w gd6 c fr hsz hdf hK ld6 hN hI S
    have F : Fr 73 a [(7, bp b6 0)] := Fr.of hsz hdf ⟨hK 7 (by decide) _ rfl, trivial⟩
    replace S : St gd6 [c 4] fr w := S.of_eq (flat2 _ _ _ _)
    have q4 : c 4 = [(b6, .cells #[.int .i64 y2.Code, .int .i64 y2.Index] 24 (0, 0))] := hI 0 _ rfl
    rw [q4] at S
    refine wl_ev (wn rfl) (ev_loadA tu24 rfl (cs := [.int .i64 y2.Code, .int .i64 y2.Index]) ts24 rfl (box_ptr (cells := [.int .i64 y2.Code, .int .i64 y2.Index]) 0 rfl 0 rfl (lb rfl))) F S rfl rfl ?_; clear F; intro a F
    refine wpList_nil ⟨rfl, F.sz, F.df, _, [], (Le.refl _), ?_, (lst1 (F.get 27 _ rfl))⟩
    refine St0.of_eq ?_ (flat3 c [] [4] fr).symm
    show St0 _ (fl ([] ++ [c 4]) fr) _
    rw [q4]
    exact S
   ·intro a w gd6 c fr hsz hdf hK ld6 hN hI S
    have e0 := hN 0 (by decide)
    have e26x : val a 26 = .agg #[nilS] := nth e0 0
    have F : Fr 73 a [(4, bp b3 0), (26, .agg #[nilS])] := Fr.of hsz hdf ⟨hK 4 (by decide) _ rfl, e26x, trivial⟩
    replace S : St gd6 [c 7] fr w := S.of_eq (flat2 _ _ _ _)
    have q7 : c 7 = [(b3, .cells #[nilS] 38 (0, 0))] := hI 3 _ rfl
    rw [q7] at S
    refine wl_storeC (wn rfl) rfl F S rfl rfl (vs := [nilS]) rfl ts38 (one_cons rfl one_nil) (k := 0) rfl (lb rfl) (c' := #[nilS]) rfl rfl ?_; clear S; intro w S
    replace S : St gd6 [[(b3, .cells #[nilS] 38 (0, 0))]] fr w := S
    refine wpList_nil ⟨rfl, F.sz, F.df, _, [(b3, .cells #[nilS] 38 (0, 0))], (Le.refl _), ?_, ⟨rfl, rfl⟩⟩
    refine St0.of_eq ?_ (flat3s c ([(b3, .cells #[nilS] 38 (0, 0))]) [] fr).symm
    show St0 _ (fl ([[(b3, .cells #[nilS] 38 (0, 0))]] ++ []) fr) _
    exact S
   ·intro a w gd6 c fr hsz hdf hK ld6 hN hI S
    have e1 := hN 1 (by decide)
    have e27x : val a 27 = .agg #[.int .i64 y2.Code, .int .i64 y2.Index] := nth e1 0
    have F : Fr 73 a [(5, bp b4 0), (27, .agg #[.int .i64 y2.Code, .int .i64 y2.Index])] := Fr.of hsz hdf ⟨hK 5 (by decide) _ rfl, e27x, trivial⟩
    replace S : St gd6 [c 6] fr w := S.of_eq (flat2 _ _ _ _)
    have q6 : c 6 = [(b4, .cells #[.int .i64 0, .int .i64 0] 24 (0, 0))] := hI 2 _ rfl
    rw [q6] at S
    refine wl_storeC (wn rfl) rfl F S rfl rfl (vs := [.int .i64 y2.Code, .int .i64 y2.Index]) rfl ts24 (one_cons rfl (one_cons rfl one_nil)) (k := 0) rfl (lb rfl) (c' := #[.int .i64 y2.Code, .int .i64 y2.Index]) rfl rfl ?_; clear S; intro w S
    replace S : St gd6 [[(b4, .cells #[.int .i64 y2.Code, .int .i64 y2.Index] 24 (0, 0))]] fr w := S
    refine wpList_nil ⟨rfl, F.sz, F.df, _, [(b4, .cells #[.int .i64 y2.Code, .int .i64 y2.Index] 24 (0, 0))], (Le.refl _), ?_, ⟨rfl, rfl⟩⟩
    refine St0.of_eq ?_ (flat3s c ([(b4, .cells #[.int .i64 y2.Code, .int .i64 y2.Index] 24 (0, 0))]) [] fr).symm
    show St0 _ (fl ([[(b4, .cells #[.int .i64 y2.Code, .int .i64 y2.Index] 24 (0, 0))]] ++ []) fr) _
    exact S
   clear F S; intro a w gd6 c hsz hdf hK ld6 hI S hN
   obtain ⟨e2, q2⟩ := hN 2 (by decide)
   obtain ⟨e3, q3⟩ := hN 3 (by decide)
   have F : Fr 73 a [(5, bp b4 0), (4, bp b3 0)] := Fr.of hsz hdf ⟨hK 5 (by decide) _ rfl, hK 4 (by decide) _ rfl, trivial⟩
   replace S : St gd6 [c 0, c 1, c 2, c 3, c 4, c 5, c 8, c 9] fr w := S.of_eq (flat_fl _ _ _)
   rw [q2] at S
   rw [q3] at S
   have q4 : c 4 = [(b6, .cells #[.int .i64 y2.Code, .int .i64 y2.Index] 24 (0, 0))] := hI 0 _ rfl
   rw [q4] at S
   have q5 : c 5 = [(b5, .cells #[.int .i64 y1.Code, .int .i64 y1.Index] 24 (0, 0))] := hI 1 _ rfl
   rw [q5] at S
   have q8 : c 8 = [(b2, .cells #[vq_1] 38 (0, 0))] := hI 4 _ rfl
   rw [q8] at S
   have q9 : c 9 = [(b1, .cells #[vp_1] 38 (0, 0))] := hI 5 _ rfl
   rw [q9] at S
   replace S : St gd6 [[(b3, .cells #[nilS] 38 (0, 0))], [(b4, .cells #[.int .i64 y2.Code, .int .i64 y2.Index] 24 (0, 0))]] fr w := St.tail [[(b3, .cells #[nilS] 38 (0, 0))], [(b4, .cells #[.int .i64 y2.Code, .int .i64 y2.Index] 24 (0, 0))]] _ ((S.frontC 3 rfl).frontC 3 rfl)
   clear hK hI hN hsz hdf e2 e3 
   refine then_n ?_
   refine wp_ret ?_
   refine then_r ?_
   obtain rfl := sinj hm
   refine post_r (fn := Try.f42) (rs := [.cell 4 38, .cell 5 24]) [.agg #[nilS], .agg #[.int .i64 y2.Code, .int .i64 y2.Index]] F rfl (ar_cons (resA rfl tu38 rfl ts38 (box_ptr (cells := [nilS]) 0 rfl 0 rfl (lb rfl) w S)) (ar_cons (resA rfl tu24 rfl ts24 (box_ptr (cells := [.int .i64 y2.Code, .int .i64 y2.Index]) 1 rfl 0 rfl (lb rfl) w S)) ar_nil)) ?_
   replace S : St gd6 [] fr w := St.tail [] _ S
   exact ⟨_, rfl, gd6, (nilS), ((l1.trans l2).trans ld6), S, (RepSl.nil _), rfl⟩
  ·refine wp_condF F rfl hc2 ?_
   refine wp_skip ?_
   refine then_n ?_
   refine wp_seq ?_
   refine wp_region_lit ?_
   refine wl_ev (wn rfl) (ev_loadA tu38 rfl (cs := [vp_1]) ts38 rfl (box_ptr (cells := [vp_1]) 5 rfl 0 rfl (lb rfl))) F S rfl rfl ?_; clear F a; intro a F
   obtain ⟨y3, hy3, hm⟩ := bind_some hm
   refine wl_call (wn rfl) rfl (xs := [.tmp 28]) (vs := [.agg #[vp_1]]) (cap := []) F rfl rfl tc58 (textpatch_midway_ok (g := g2) (fr := (fl [[(b6, .cells #[.int .i64 y2.Code, .int .i64 y2.Index] 24 (0, 0))], [(b5, .cells #[.int .i64 y1.Code, .int .i64 y1.Index] 24 (0, 0))], [(b4, .cells #[.int .i64 0, .int .i64 0] 24 (0, 0))], [(b3, .cells #[nilS] 38 (0, 0))], [(b2, .cells #[vq_1] 38 (0, 0))], [(b1, .cells #[vp_1] 38 (0, 0))]] fr)) (w := w) p_ vp_1 (hp_1.mono (l1.trans l2)) S hy3) rfl rfl ?_; clear F a S
   rintro _ a w ⟨g3, v1, c1, l3, S, h1, rfl⟩ F; replace S : St g3 [c1, [(b6, .cells #[.int .i64 y2.Code, .int .i64 y2.Index] 24 (0, 0))], [(b5, .cells #[.int .i64 y1.Code, .int .i64 y1.Index] 24 (0, 0))], [(b4, .cells #[.int .i64 0, .int .i64 0] 24 (0, 0))], [(b3, .cells #[nilS] 38 (0, 0))], [(b2, .cells #[vq_1] 38 (0, 0))], [(b1, .cells #[vp_1] 38 (0, 0))]] fr w := S
   refine wl_ev (wn rfl) (ev_assign rfl) F S rfl rfl ?_; clear F a; intro a F
   refine wpList_nil ?_
   replace F := F.sub (e' := [(8, v1), (5, bp b4 0), (4, bp b3 0), (3, bp b2 0)]) ⟨rfl, rfl, rfl, rfl, trivial⟩
   refine then_n ?_
   refine wp_cut (fun a w => ∃ (g4 : Gh), Fr 73 a [(8, v1), (5, bp b4 0), (4, bp b3 0), (3, bp b2 0)] ∧ Le g3 g4 ∧ St g4 [c1, [(b4, .cells #[.int .i64 0, .int .i64 0] 24 (0, 0))], [(b3, .cells #[nilS] 38 (0, 0))], [(b2, .cells #[vq_1] 38 (0, 0))]] fr w ∧ textpatch_Compose.j1 q_ y3 = some r) ?_ ?_
   ·refine wp_seq ?_
    refine wp_region_lit ?_
    refine wl_ev (wn rfl) (ev_fieldAddr' tu38 tf38_0 (z := 0) ts36 rfl ⟨_, rfl⟩ rfl) F S rfl rfl ?_; clear F a; intro a F
    refine wl_ev (wn rfl) (ev_load1 tu36 rfl rfl (box_ptr (cells := [vq_1]) 5 rfl 0 rfl (lb rfl))) F S rfl rfl ?_; clear F a; intro a F
    refine wl_ev (wn rfl) (ev_lenSh hq_1 rfl tu36) F S rfl rfl ?_; clear F a; intro a F
    refine wl_ev (wn rfl) (ev_move rfl) F S rfl rfl ?_; clear F a; intro a F
    refine wpList_nil ?_
    replace F := F.sub (e' := [(33, .int .i64 0), (32, .int .i64 (q_.Hunks.length : Int)), (31, vq_1), (8, v1), (5, bp b4 0), (4, bp b3 0), (3, bp b2 0)]) ⟨rfl, rfl, rfl, rfl, rfl, rfl, rfl, trivial⟩
    refine then_n ?_
    refine wp_block ?_
    obtain ⟨r1, hr1, hm⟩ := bind_some hm
    have hmo1 := hm; clear hm
    refine wp_iter (σ := Int) (ρ := (Patch × Fault) ⊕ Unit) (m := fun s => textpatch_Compose.l1 q_ y3 s) (I := fun x1 a w => ∃ (g8 : Gh), Fr 73 a [(33, .int .i64 x1), (32, .int .i64 (q_.Hunks.length : Int)), (31, vq_1), (8, v1), (5, bp b4 0), (4, bp b3 0), (3, bp b2 0)] ∧ Le g3 g8 ∧ St g8 [c1, [(b4, .cells #[.int .i64 0, .int .i64 0] 24 (0, 0))], [(b3, .cells #[nilS] 38 (0, 0))], [(b2, .cells #[vq_1] 38 (0, 0))]] fr w) hr1 ?_ ?_
    ·replace S : St g3 [c1, [(b4, .cells #[.int .i64 0, .int .i64 0] 24 (0, 0))], [(b3, .cells #[nilS] 38 (0, 0))], [(b2, .cells #[vq_1] 38 (0, 0))]] fr w := St.tail [c1, [(b4, .cells #[.int .i64 0, .int .i64 0] 24 (0, 0))], [(b3, .cells #[nilS] 38 (0, 0))], [(b2, .cells #[vq_1] 38 (0, 0))]] _ ((((S.frontC 5 rfl).frontC 5 rfl).frontC 5 rfl).frontC 3 rfl)
     exact ⟨g3, F.sub ⟨rfl, rfl, rfl, rfl, rfl, rfl, rfl, trivial⟩, (Le.refl _), S⟩
    ·clear F S; rintro x1 a w x2 ⟨g8, F, l8, S⟩ hx1 hfin1
     have hm : textpatch_Compose.l1 q_ y3 x1 = some x2 := hx1; clear hx1
     unfold textpatch_Compose.l1 at hm
     refine wp_seq ?_
     refine wp_region_lit ?_
     refine wl_ev (wn rfl) (ev_int rfl rfl (bo_lss _ _ _ _)) F S rfl rfl ?_; clear F a; intro a F
     refine wpList_nil ?_
     refine then_n ?_
     refine wp_seq ?_
     obtain ⟨hc3, hm⟩ | ⟨hc3, hm⟩ := ite_or hm
     ·refine wp_condT F rfl hc3 ?_
      refine wp_skip ?_
      refine then_n ?_
      refine wp_cut (fun a w => ∃ (g9 : Gh), Fr 73 a [(33, .int .i64 x1), (32, .int .i64 (q_.Hunks.length : Int)), (31, vq_1), (8, v1), (5, bp b4 0), (4, bp b3 0), (3, bp b2 0)] ∧ Le g8 g9 ∧ St g9 [c1, [(b4, .cells #[.int .i64 0, .int .i64 0] 24 (0, 0))], [(b3, .cells #[nilS] 38 (0, 0))], [(b2, .cells #[vq_1] 38 (0, 0))]] fr w ∧ textpatch_Compose.j2 x1 = some x2) ?_ ?_
      ·refine wp_block ?_
       refine wp_seq ?_
       refine wp_region_lit ?_
       refine wl_ev (wn rfl) (ev_move rfl) F S rfl rfl ?_; clear F a; intro a F
       obtain ⟨y6, hy6, hm⟩ := bind_some hm
       obtain ⟨cs1, hr2, hp1⟩ := elemS (hq_1.mono (((l1.trans l2).trans l3).trans l8)) hy6
       obtain ⟨v4, v5, rfl, h5, h6⟩ := rep_Hunk hr2
       refine wl_ev (wn rfl) (ev_idxS (hq_1.mono (((l1.trans l2).trans l3).trans l8)) hy6 tu36 ts60 rfl rfl) F S rfl rfl ?_; clear F a; intro a F
       refine wl_ev (wn rfl) (ev_loadA tu60 rfl (cs := [.int .i64 y6.At, v4, v5]) ts60 rfl (ptr_mono (cks := [c1, [(b4, .cells #[.int .i64 0, .int .i64 0] 24 (0, 0))], [(b3, .cells #[nilS] 38 (0, 0))], [(b2, .cells #[vq_1] 38 (0, 0))]]) (fr := fr) hp1 (Le.refl _))) F S rfl rfl ?_; clear F a; intro a F
       refine wl_alloc (wn rfl) rfl tz60 (cs := [.int .i64 0, nilS, nilS]) rfl F S rfl rfl ?_; clear F a S; rintro b7 a w F S
       refine wl_ev (wn rfl) (ev_assign rfl) F S rfl rfl ?_; clear F a; intro a F
       refine wl_storeC (wn rfl) rfl F S rfl rfl (vs := [.int .i64 y6.At, v4, v5]) rfl ts60 (one_cons rfl (one_cons h5.one (one_cons h6.one one_nil))) (k := 0) rfl (lb rfl) (c' := #[.int .i64 y6.At, v4, v5]) rfl rfl ?_; clear S; intro w S
       replace S : St g8 [[(b7, .cells #[.int .i64 y6.At, v4, v5] 60 (0, 0))], c1, [(b4, .cells #[.int .i64 0, .int .i64 0] 24 (0, 0))], [(b3, .cells #[nilS] 38 (0, 0))], [(b2, .cells #[vq_1] 38 (0, 0))]] fr w := S
       refine wpList_nil ?_
       replace F := F.sub (e' := [(9, .int .i64 x1), (10, bp b7 0), (33, .int .i64 x1), (32, .int .i64 (q_.Hunks.length : Int)), (31, vq_1), (8, v1), (5, bp b4 0), (4, bp b3 0), (3, bp b2 0)]) ⟨rfl, rfl, rfl, rfl, rfl, rfl, rfl, rfl, rfl, trivial⟩
       refine then_n ?_
       refine wp_seq ?_
       refine wp_region_lit ?_
       refine wl_ev (wn rfl) (ev_fieldAddr' tu60 tf60_1 (z := 0) ts31 rfl ⟨_, rfl⟩ rfl) F S rfl rfl ?_; clear F a; intro a F
       refine wl_ev (wn rfl) (ev_load1 tu31 rfl rfl (box_ptr (cells := [v4]) 0 rfl 1 rfl (lb rfl))) F S rfl rfl ?_; clear F a; intro a F
       refine wl_ev (wn rfl) (ev_lenSh h5 rfl tu31) F S rfl rfl ?_; clear F a; intro a F
       refine wl_ev (wn rfl) (ev_move rfl) F S rfl rfl ?_; clear F a; intro a F
       refine wpList_nil ?_
       replace F := F.sub (e' := [(41, .int .i64 0), (40, .int .i64 (y6.Old.length : Int)), (39, v4), (9, .int .i64 x1), (10, bp b7 0), (33, .int .i64 x1), (32, .int .i64 (q_.Hunks.length : Int)), (31, vq_1), (8, v1), (5, bp b4 0), (4, bp b3 0), (3, bp b2 0)]) ⟨rfl, rfl, rfl, rfl, rfl, rfl, rfl, rfl, rfl, rfl, rfl, rfl, trivial⟩
       refine then_n ?_
       refine wp_cut1 (fun a w => ∃ (g10 : Gh), Fr 73 a [(33, .int .i64 x1), (32, .int .i64 (q_.Hunks.length : Int)), (31, vq_1), (8, v1), (5, bp b4 0), (4, bp b3 0), (3, bp b2 0)] ∧ Le g8 g10 ∧ St g10 [c1, [(b4, .cells #[.int .i64 0, .int .i64 0] 24 (0, 0))], [(b3, .cells #[nilS] 38 (0, 0))], [(b2, .cells #[vq_1] 38 (0, 0))]] fr w ∧ textpatch_Compose.j3 x1 = some x2) ?_ ?_
       ·refine wp_block ?_
        obtain ⟨r2, hr3, hm⟩ := bind_some hm
        have hmo2 := hm; clear hm
        refine wp_iter (σ := Int) (ρ := (Patch × Fault) ⊕ Unit) (m := fun s => textpatch_Compose.l2 y3 x1 y6 s) (I := fun x3 a w => ∃ (g11 : Gh), Fr 73 a [(41, .int .i64 x3), (40, .int .i64 (y6.Old.length : Int)), (39, v4), (9, .int .i64 x1), (10, bp b7 0), (33, .int .i64 x1), (32, .int .i64 (q_.Hunks.length : Int)), (31, vq_1), (8, v1), (5, bp b4 0), (4, bp b3 0), (3, bp b2 0)] ∧ Le g8 g11 ∧ St g11 [[(b7, .cells #[.int .i64 y6.At, v4, v5] 60 (0, 0))], c1, [(b4, .cells #[.int .i64 0, .int .i64 0] 24 (0, 0))], [(b3, .cells #[nilS] 38 (0, 0))], [(b2, .cells #[vq_1] 38 (0, 0))]] fr w) hr3 ?_ ?_
        ·exact ⟨g8, F.sub ⟨rfl, rfl, rfl, rfl, rfl, rfl, rfl, rfl, rfl, rfl, rfl, rfl, trivial⟩, (Le.refl _), S⟩
        ·clear F S; rintro x3 a w x4 ⟨g11, F, l11, S⟩ hx2 hfin2
         have hm : textpatch_Compose.l2 y3 x1 y6 x3 = some x4 := hx2; clear hx2
         unfold textpatch_Compose.l2 at hm
         refine wp_seq ?_
         refine wp_region_lit ?_
         refine wl_ev (wn rfl) (ev_int rfl rfl (bo_lss _ _ _ _)) F S rfl rfl ?_; clear F a; intro a F
         refine wpList_nil ?_
         refine then_n ?_
         refine wp_seq ?_
         obtain ⟨hc4, hm⟩ | ⟨hc4, hm⟩ := ite_or hm
         ·refine wp_condT F rfl hc4 ?_
          refine wp_skip ?_
          refine then_n ?_
          refine wp_seq ?_
          refine wp_block ?_
          refine wp_seq ?_
          refine wp_region_lit ?_
          refine wl_ev (wn rfl) (ev_move rfl) F S rfl rfl ?_; clear F a; intro a F
          obtain ⟨y7, hy7, hm⟩ := bind_some hm
          obtain ⟨cs2, hr4, hp2⟩ := elemS (h5.mono l11) hy7
          obtain rfl := rep_str hr4
          refine wl_ev (wn rfl) (ev_idxS (h5.mono l11) hy7 tu31 ts9 rfl rfl) F S rfl rfl ?_; clear F a; intro a F
          refine wl_ev (wn rfl) (ev_load1 tu9 rfl rfl (ptr_mono (cks := [[(b7, .cells #[.int .i64 y6.At, v4, v5] 60 (0, 0))], c1, [(b4, .cells #[.int .i64 0, .int .i64 0] 24 (0, 0))], [(b3, .cells #[nilS] 38 (0, 0))], [(b2, .cells #[vq_1] 38 (0, 0))]]) (fr := fr) hp2 (Le.refl _))) F S rfl rfl ?_; clear F a; intro a F
          refine wl_ev (wn rfl) (ev_assign rfl) F S rfl rfl ?_; clear F a; intro a F
          refine wl_ev (wn rfl) (ev_assign rfl) F S rfl rfl ?_; clear F a; intro a F
          refine wpList_nil ?_
          replace F := F.sub (e' := [(12, .string y7), (11, .int .i64 x3), (41, .int .i64 x3), (40, .int .i64 (y6.Old.length : Int)), (39, v4), (9, .int .i64 x1), (10, bp b7 0), (33, .int .i64 x1), (32, .int .i64 (q_.Hunks.length : Int)), (31, vq_1), (8, v1), (5, bp b4 0), (4, bp b3 0), (3, bp b2 0)]) ⟨rfl, rfl, rfl, rfl, rfl, rfl, rfl, rfl, rfl, rfl, rfl, rfl, rfl, rfl, trivial⟩
          refine then_n ?_
          refine wp_seq ?_
          refine wp_region_lit ?_
          refine wl_ev (wn rfl) (ev_move rfl) F S rfl rfl ?_; clear F a; intro a F
          refine wl_ev (wn rfl) (ev_fieldAddr' tu60 tf60_0 (z := 0) ts3 rfl ⟨_, rfl⟩ rfl) F S rfl rfl ?_; clear F a; intro a F
          refine wl_ev (wn rfl) (ev_load1 tu3 rfl rfl (box_ptr (cells := [.int .i64 y6.At]) 0 rfl 0 rfl (lb rfl))) F S rfl rfl ?_; clear F a; intro a F
          refine wl_ev (wn rfl) (ev_move rfl) F S rfl rfl ?_; clear F a; intro a F
          obtain ⟨z2, hz2, hm⟩ := bind_some hm
          refine wl_ev (wn rfl) (ev_int rfl rfl (bo_add hz2)) F S rfl rfl ?_; clear F a; intro a F
          obtain ⟨y8, hy8, hm⟩ := bind_some hm
          refine wl_ev (wn rfl) (ev_idxO (h1.mono (l8.trans l11)) hy8 tu75 ts78 rfl rfl) F S rfl rfl ?_; clear F a; intro a F
          obtain ⟨cs3, hr5, hq1⟩ := elemO (h1.mono (l8.trans l11)) hy8
          obtain ⟨v6, rfl, h7⟩ := rep_Middle_textpatch hr5
          refine wl_ev (wn rfl) (ev_loadA tu78 rfl (cs := [.bool y8.inserted, .string y8.line, v6]) ts78 rfl (hq1 _ _ 1 rfl)) F S rfl rfl ?_; clear F a; intro a F
          refine wl_alloc (wn rfl) rfl tz78 (cs := [.bool false, .string ByteArray.empty, nilS]) rfl F S rfl rfl ?_; clear F a S; rintro b8 a w F S
          refine wl_storeC (wn rfl) rfl F S rfl rfl (vs := [.bool y8.inserted, .string y8.line, v6]) rfl ts78 (one_cons rfl (one_cons rfl (one_cons h7.one one_nil))) (k := 0) rfl (lb rfl) (c' := #[.bool y8.inserted, .string y8.line, v6]) rfl rfl ?_; clear S; intro w S
          replace S : St g11 [[(b8, .cells #[.bool y8.inserted, .string y8.line, v6] 78 (0, 0))], [(b7, .cells #[.int .i64 y6.At, v4, v5] 60 (0, 0))], c1, [(b4, .cells #[.int .i64 0, .int .i64 0] 24 (0, 0))], [(b3, .cells #[nilS] 38 (0, 0))], [(b2, .cells #[vq_1] 38 (0, 0))]] fr w := S
          refine wpList_nil ?_
          replace F := F.sub (e' := [(13, bp b8 0), (12, .string y7), (41, .int .i64 x3), (40, .int .i64 (y6.Old.length : Int)), (39, v4), (9, .int .i64 x1), (10, bp b7 0), (33, .int .i64 x1), (32, .int .i64 (q_.Hunks.length : Int)), (31, vq_1), (8, v1), (5, bp b4 0), (4, bp b3 0), (3, bp b2 0)]) ⟨rfl, rfl, rfl, rfl, rfl, rfl, rfl, rfl, rfl, rfl, rfl, rfl, rfl, rfl, trivial⟩
          refine then_n ?_
          refine wp_seq ?_
          refine wp_region_lit ?_
          refine wl_ev (wn rfl) (ev_fieldAddr' tu78 tf78_0 (z := 0) ts4 rfl ⟨_, rfl⟩ rfl) F S rfl rfl ?_; clear F a; intro a F
          refine wl_ev (wn rfl) (ev_load1 tu4 rfl rfl (box_ptr (cells := [.bool y8.inserted]) 0 rfl 0 rfl (lb rfl))) F S rfl rfl ?_; clear F a; intro a F
          refine wl_ev (wn rfl) (ev_move rfl) F S rfl rfl ?_; clear F a; intro a F
          obtain ⟨x5, hx3, hm⟩ := bind_some hm
          refine wl_cut 5 (fun a w' => w = w' ∧ Fr 73 a [(60, .bool x5), (41, .int .i64 x3), (40, .int .i64 (y6.Old.length : Int)), (39, v4), (9, .int .i64 x1), (10, bp b7 0), (33, .int .i64 x1), (32, .int .i64 (q_.Hunks.length : Int)), (31, vq_1), (8, v1), (5, bp b4 0), (4, bp b3 0), (3, bp b2 0)]) ?_ ?_
          ·clear hm; obtain ⟨hc5, hm⟩ | ⟨hc5, hm⟩ := ite_or hx3
           ·refine wl_ev (wg F rfl rfl rfl rfl hc5) (ev_fieldAddr' tu78 tf78_1 (z := 0) ts9 rfl ⟨_, rfl⟩ rfl) F S rfl rfl ?_; clear F a; intro a F
            refine wl_ev (wg F rfl rfl rfl rfl hc5) (ev_load1 tu9 rfl rfl (box_ptr (cells := [.string y8.line]) 0 rfl 1 rfl (lb rfl))) F S rfl rfl ?_; clear F a; intro a F
            refine wl_ev (wg F rfl rfl rfl rfl hc5) (ev_move rfl) F S rfl rfl ?_; clear F a; intro a F
            refine wl_ev (wg F rfl rfl rfl rfl hc5) (ev_str rfl rfl (bs_neq _ _ _)) F S rfl rfl ?_; clear F a; intro a F
            refine wl_ev (wn rfl) (ev_pickT rfl hc5 rfl) F S rfl rfl ?_; clear F a; intro a F
            obtain rfl := sinj hm
            refine wpList_nil (then_n ?_); exact ⟨rfl, F.sub ⟨rfl, rfl, rfl, rfl, rfl, rfl, rfl, rfl, rfl, rfl, rfl, rfl, rfl, trivial⟩⟩
           ·refine wl_skip rfl rfl rfl rfl (ne_tf hc5) F rfl rfl ?_; clear F a; intro a F
            refine wl_skip rfl rfl rfl rfl (ne_tf hc5) F rfl rfl ?_; clear F a; intro a F
            refine wl_skip rfl rfl rfl rfl (ne_tf hc5) F rfl rfl ?_; clear F a; intro a F
            refine wl_skip rfl rfl rfl rfl (ne_tf hc5) F rfl rfl ?_; clear F a; intro a F
            refine wl_ev (wn rfl) (ev_pickF rfl hc5 rfl) F S rfl rfl ?_; clear F a; intro a F
            obtain rfl := sinj hm
            refine wpList_nil (then_n ?_); exact ⟨rfl, F.sub ⟨rfl, rfl, rfl, rfl, rfl, rfl, rfl, rfl, rfl, rfl, rfl, rfl, rfl, trivial⟩⟩
          clear F; rintro a w' ⟨rfl, F⟩
          refine wpList_nil ?_
          refine then_n ?_
          obtain ⟨hc6, hm⟩ | ⟨hc6, hm⟩ := ite_or hm
          ·refine wp_condT F rfl hc6 ?_
           refine wp_seq ?_
           refine wp_region_lit ?_
           refine wl_ev (wn rfl) (ev_build (parts := []) (vs := []) rfl (fun w => tb38_  w)) F S rfl rfl ?_; clear F a; intro a F
           refine wl_ev (wn rfl) (ev_move rfl) F S rfl rfl ?_; clear F a; intro a F
           obtain ⟨z3, hz3, hm⟩ := bind_some hm
           refine wl_ev (wn rfl) (ev_int rfl rfl (bo_sub hz3)) F S rfl rfl ?_; clear F a; intro a F
           refine wl_ev (wn rfl) (ev_build (parts := [(0, .const (.int .i64 19)), (1, .tmp 63)]) (vs := [(0, .int .i64 19), (1, .int .i64 z3)]) rfl (fun w => tb24_0_1 19 z3 w)) F S rfl rfl ?_; clear F a; intro a F
           refine wl_storeC (wn rfl) rfl F S rfl rfl (vs := [nilS]) rfl ts38 (one_cons rfl one_nil) (k := 4) rfl (lb rfl) (c' := #[nilS]) rfl rfl ?_; clear S; intro w S
           replace S : St g11 [[(b8, .cells #[.bool y8.inserted, .string y8.line, v6] 78 (0, 0))], [(b7, .cells #[.int .i64 y6.At, v4, v5] 60 (0, 0))], c1, [(b4, .cells #[.int .i64 0, .int .i64 0] 24 (0, 0))], [(b3, .cells #[nilS] 38 (0, 0))], [(b2, .cells #[vq_1] 38 (0, 0))]] fr w := S
           refine wl_storeC (wn rfl) rfl F S rfl rfl (vs := [.int .i64 19, .int .i64 z3]) rfl ts24 (one_cons rfl (one_cons rfl one_nil)) (k := 3) rfl (lb rfl) (c' := #[.int .i64 19, .int .i64 z3]) rfl rfl ?_; clear S; intro w S
           replace S : St g11 [[(b8, .cells #[.bool y8.inserted, .string y8.line, v6] 78 (0, 0))], [(b7, .cells #[.int .i64 y6.At, v4, v5] 60 (0, 0))], c1, [(b4, .cells #[.int .i64 19, .int .i64 z3] 24 (0, 0))], [(b3, .cells #[nilS] 38 (0, 0))], [(b2, .cells #[vq_1] 38 (0, 0))]] fr w := S
           refine wpList_nil ?_
           replace F := F.sub (e' := [(5, bp b4 0), (4, bp b3 0)]) ⟨rfl, rfl, trivial⟩
           refine then_n ?_
           refine wp_ret ?_
           refine inb_r ?_
           refine then_r ?_
           refine then_r ?_
           refine inb_r ?_
           refine then_r ?_
           refine inb_r ?_
           refine then_r ?_
           refine then_r ?_
           refine inb_r ?_
           refine then_r ?_
           obtain rfl := sinj hm
           obtain rfl := hfin2 _ rfl
           clear hm
           have hm : (some (Step.done (Sum.inl (({ Hunks := [] } : Patch), ({ Code := 19, Index := z3 } : Fault)))) : Option (Step Int ((Patch × Fault) ⊕ Unit))) = some _ := hmo2
           obtain rfl := sinj hm
           obtain rfl := hfin1 _ rfl
           clear hm
           have hm : (some (({ Hunks := [] } : Patch), ({ Code := 19, Index := z3 } : Fault)) : Option (Patch × Fault)) = some _ := hmo1
           obtain rfl := sinj hm
           refine post_r (fn := Try.f42) (rs := [.cell 4 38, .cell 5 24]) [.agg #[nilS], .agg #[.int .i64 19, .int .i64 z3]] F rfl (ar_cons (resA rfl tu38 rfl ts38 (box_ptr (cells := [nilS]) 4 rfl 0 rfl (lb rfl) w S)) (ar_cons (resA rfl tu24 rfl ts24 (box_ptr (cells := [.int .i64 19, .int .i64 z3]) 3 rfl 0 rfl (lb rfl) w S)) ar_nil)) ?_
           replace S : St g11 [] fr w := St.tail [] _ S
           exact ⟨_, rfl, g11, (nilS), ((((l1.trans l2).trans l3).trans l8).trans l11), S, (RepSl.nil _), rfl⟩
          ·refine wp_condF F rfl hc6 ?_
           refine wp_skip ?_
           refine inb_n ?_
           refine then_n ?_
           refine wp_region_lit ?_
           obtain ⟨z4, hz4, hm⟩ := bind_some hm
           refine wl_ev (wn rfl) (ev_int rfl rfl (bo_add hz4)) F S rfl rfl ?_; clear F a; intro a F
           refine wl_ev (wn rfl) (ev_move rfl) F S rfl rfl ?_; clear F a; intro a F
           refine wpList_nil ?_
           replace F := F.sub (e' := [(41, .int .i64 z4), (40, .int .i64 (y6.Old.length : Int)), (39, v4), (9, .int .i64 x1), (10, bp b7 0), (33, .int .i64 x1), (32, .int .i64 (q_.Hunks.length : Int)), (31, vq_1), (8, v1), (5, bp b4 0), (4, bp b3 0), (3, bp b2 0)]) ⟨rfl, rfl, rfl, rfl, rfl, rfl, rfl, rfl, rfl, rfl, rfl, rfl, trivial⟩
           refine then_n ?_
           obtain rfl := sinj hm
           refine ⟨_, rfl, ?_⟩
           replace S : St g11 [[(b7, .cells #[.int .i64 y6.At, v4, v5] 60 (0, 0))], c1, [(b4, .cells #[.int .i64 0, .int .i64 0] 24 (0, 0))], [(b3, .cells #[nilS] 38 (0, 0))], [(b2, .cells #[vq_1] 38 (0, 0))]] fr w := St.tail [[(b7, .cells #[.int .i64 y6.At, v4, v5] 60 (0, 0))], c1, [(b4, .cells #[.int .i64 0, .int .i64 0] 24 (0, 0))], [(b3, .cells #[nilS] 38 (0, 0))], [(b2, .cells #[vq_1] 38 (0, 0))]] _ (((((S.frontC 5 rfl).frontC 5 rfl).frontC 5 rfl).frontC 5 rfl).frontC 5 rfl)
           exact ⟨g11, F.sub ⟨rfl, rfl, rfl, rfl, rfl, rfl, rfl, rfl, rfl, rfl, rfl, rfl, trivial⟩, l11, S⟩
         ·refine wp_condF F rfl hc4 ?_
          refine wp_exit ?_
          refine then_e ?_
          refine then_e ?_
          refine inb_x ?_
          refine then_n ?_
          obtain rfl := sinj hm
          obtain rfl := hfin2 _ rfl
          clear hm
          have hm : (textpatch_Compose.j3 x1 : Option (Step Int ((Patch × Fault) ⊕ Unit))) = some _ := hmo2
          replace S : St g11 [c1, [(b4, .cells #[.int .i64 0, .int .i64 0] 24 (0, 0))], [(b3, .cells #[nilS] 38 (0, 0))], [(b2, .cells #[vq_1] 38 (0, 0))]] fr w := St.tail [c1, [(b4, .cells #[.int .i64 0, .int .i64 0] 24 (0, 0))], [(b3, .cells #[nilS] 38 (0, 0))], [(b2, .cells #[vq_1] 38 (0, 0))]] _ ((((S.frontC 4 rfl).frontC 4 rfl).frontC 4 rfl).frontC 4 rfl)
          exact ⟨g11, F.sub ⟨rfl, rfl, rfl, rfl, rfl, rfl, rfl, trivial⟩, l11, S, hm⟩
       ·clear F S hm; rintro a w ⟨g10, F, l10, S, hm⟩
        refine inb_n ?_
        refine then_n ?_
        exact ⟨g10, F.sub ⟨rfl, rfl, rfl, rfl, rfl, rfl, rfl, trivial⟩, l10, S, hm⟩
      ·clear F S hm; rintro a w ⟨g9, F, l9, S, hm⟩
       refine wp_region_lit ?_
       obtain ⟨z1, hz1, hm⟩ := bind_some hm
       refine wl_ev (wn rfl) (ev_int rfl rfl (bo_add hz1)) F S rfl rfl ?_; clear F a; intro a F
       refine wl_ev (wn rfl) (ev_move rfl) F S rfl rfl ?_; clear F a; intro a F
       refine wpList_nil ?_
       replace F := F.sub (e' := [(33, .int .i64 z1), (32, .int .i64 (q_.Hunks.length : Int)), (31, vq_1), (8, v1), (5, bp b4 0), (4, bp b3 0), (3, bp b2 0)]) ⟨rfl, rfl, rfl, rfl, rfl, rfl, rfl, trivial⟩
       refine then_n ?_
       obtain rfl := sinj hm
       refine ⟨_, rfl, ?_⟩
       exact ⟨g9, F.sub ⟨rfl, rfl, rfl, rfl, rfl, rfl, rfl, trivial⟩, (l8.trans l9), S⟩
     ·refine wp_condF F rfl hc3 ?_
      refine wp_exit ?_
      refine then_e ?_
      refine then_e ?_
      refine inb_x ?_
      refine then_n ?_
      obtain rfl := sinj hm
      obtain rfl := hfin1 _ rfl
      clear hm
      have hm : (textpatch_Compose.j1 q_ y3 : Option (Patch × Fault)) = some _ := hmo1
      exact ⟨g8, F.sub ⟨rfl, rfl, rfl, rfl, trivial⟩, l8, S, hm⟩
   ·clear F S hm; rintro a w ⟨g4, F, l4, S, hm⟩
    refine wp_seq ?_
    refine wp_region_lit ?_
    refine wl_ev (wn rfl) (ev_move rfl) F S rfl rfl ?_; clear F a; intro a F
    refine wl_ev (wn rfl) (ev_loadA tu38 rfl (cs := [vq_1]) ts38 rfl (box_ptr (cells := [vq_1]) 3 rfl 0 rfl (lb rfl))) F S rfl rfl ?_; clear F a; intro a F
    obtain ⟨g5, l5, S, h2⟩ : ∃ gz, Le g4 gz ∧ St gz [[(b4, .cells #[.int .i64 0, .int .i64 0] 24 (0, 0))], [(b3, .cells #[nilS] 38 (0, 0))], [(b2, .cells #[vq_1] 38 (0, 0))]] fr w ∧ RepSl gz y3 v1 := ⟨_, Le.add _ _, S.freeze 0 rfl, OwnS.freeze (S.front 0 rfl) (h1.mono l4)⟩
    obtain ⟨y4, hy4, hm⟩ := bind_some hm
    refine wl_call (wn rfl) rfl (xs := [.tmp 67, .tmp 68]) (vs := [v1, .agg #[vq_1]]) (cap := []) F rfl rfl tc59 (textpatch_walk_ok (g := g5) (fr := (fl [[(b4, .cells #[.int .i64 0, .int .i64 0] 24 (0, 0))], [(b3, .cells #[nilS] 38 (0, 0))], [(b2, .cells #[vq_1] 38 (0, 0))]] fr)) (w := w) y3 v1 h2 q_ vq_1 (hq_1.mono ((((l1.trans l2).trans l3).trans l4).trans l5)) S hy4) rfl rfl ?_; clear F a S
    rintro _ a w ⟨g6, v2, l6, S, h3, rfl⟩ F; replace S : St g6 [[(b4, .cells #[.int .i64 0, .int .i64 0] 24 (0, 0))], [(b3, .cells #[nilS] 38 (0, 0))], [(b2, .cells #[vq_1] 38 (0, 0))]] fr w := S
    obtain ⟨y5, hy5, hm⟩ := bind_some hm
    refine wl_call (wn rfl) rfl (xs := [.tmp 69]) (vs := [.agg #[v2]]) (cap := []) F rfl rfl tc35 (textpatch_Made_ok (g := g6) (fr := (fl [[(b4, .cells #[.int .i64 0, .int .i64 0] 24 (0, 0))], [(b3, .cells #[nilS] 38 (0, 0))], [(b2, .cells #[vq_1] 38 (0, 0))]] fr)) (w := w) y4 v2 h3 S hy5) rfl rfl ?_; clear F a S
    rintro _ a w ⟨g7, v3, l7, S, h4, rfl⟩ F; replace S : St g7 [[(b4, .cells #[.int .i64 0, .int .i64 0] 24 (0, 0))], [(b3, .cells #[nilS] 38 (0, 0))], [(b2, .cells #[vq_1] 38 (0, 0))]] fr w := S
    refine wl_ev (wn rfl) (ev_extract (vs := [.agg #[v3], .agg #[.int .i64 y5.2.Code, .int .i64 y5.2.Index]]) rfl rfl) F S rfl rfl ?_; clear F a; intro a F
    refine wl_ev (wn rfl) (ev_extract (vs := [.agg #[v3], .agg #[.int .i64 y5.2.Code, .int .i64 y5.2.Index]]) rfl rfl) F S rfl rfl ?_; clear F a; intro a F
    refine wl_storeC (wn rfl) rfl F S rfl rfl (vs := [v3]) rfl ts38 (one_cons h4.one one_nil) (k := 1) rfl (lb rfl) (c' := #[v3]) rfl rfl ?_; clear S; intro w S
    replace S : St g7 [[(b4, .cells #[.int .i64 0, .int .i64 0] 24 (0, 0))], [(b3, .cells #[v3] 38 (0, 0))], [(b2, .cells #[vq_1] 38 (0, 0))]] fr w := S
    refine wl_storeC (wn rfl) rfl F S rfl rfl (vs := [.int .i64 y5.2.Code, .int .i64 y5.2.Index]) rfl ts24 (one_cons rfl (one_cons rfl one_nil)) (k := 0) rfl (lb rfl) (c' := #[.int .i64 y5.2.Code, .int .i64 y5.2.Index]) rfl rfl ?_; clear S; intro w S
    replace S : St g7 [[(b4, .cells #[.int .i64 y5.2.Code, .int .i64 y5.2.Index] 24 (0, 0))], [(b3, .cells #[v3] 38 (0, 0))], [(b2, .cells #[vq_1] 38 (0, 0))]] fr w := S
    refine wpList_nil ?_
    replace F := F.sub (e' := [(5, bp b4 0), (4, bp b3 0)]) ⟨rfl, rfl, trivial⟩
    refine then_n ?_
    refine wp_ret ?_
    obtain rfl := sinj hm
    refine post_r (fn := Try.f42) (rs := [.cell 4 38, .cell 5 24]) [.agg #[v3], .agg #[.int .i64 y5.2.Code, .int .i64 y5.2.Index]] F rfl (ar_cons (resA rfl tu38 rfl ts38 (box_ptr (cells := [v3]) 1 rfl 0 rfl (lb rfl) w S)) (ar_cons (resA rfl tu24 rfl ts24 (box_ptr (cells := [.int .i64 y5.2.Code, .int .i64 y5.2.Index]) 0 rfl 0 rfl (lb rfl) w S)) ar_nil)) ?_
    replace S : St g7 [] fr w := St.tail [] _ S
    exact ⟨_, rfl, g7, v3, ((((((l1.trans l2).trans l3).trans l4).trans l5).trans l6).trans l7), S, h4, rfl⟩

theorem stack_Squash_ok {g : Gh} {fr : Hl} {w : World} {r : (List Patch) × Fault} (patches : (List Patch)) (vpatches1 : Value) (hpatches1 : RepSl g patches vpatches1) (i_ : Int) (S : St g [] fr w) (hm : stack_Squash patches i_ = some r) :
  Calls Try.prog 21 [vpatches1, .int .i64 i_].toArray w (fun en w' => ∃ v, en = .returned v ∧ ∃ (g' : Gh) (v1 : Value) (c1 : Hl), Le g g' ∧ St g' [c1] fr w' ∧ OwnS g' r.1 v1 c1 ∧ .tuple #[v1, .agg #[.int .i64 r.2.Code, .int .i64 r.2.Index]] = v) := by
 unfold stack_Squash at hm
 refine calls_enter (fn := Try.f21) Try.func21 rfl Try.ntmps21 (lb rfl) ?_
 intro a F
 replace F : Fr 60 a [(0, vpatches1), (1, .int .i64 i_)] := F
 refine wp_seq ?_
 refine wp_region_lit ?_
 refine wl_ev (wn rfl) (ev_assign rfl) F S rfl rfl ?_; clear F a; intro a F
 refine wl_alloc (wn rfl) rfl tz24 (cs := [.int .i64 0, .int .i64 0]) rfl F S rfl rfl ?_; clear F a S; rintro b1 a w F S
 refine wpList_nil ?_
 replace F := F.sub (e' := [(5, bp b1 0), (0, vpatches1), (1, .int .i64 i_)]) ⟨rfl, rfl, rfl, trivial⟩
 refine then_n ?_
 refine wp_seq ?_
 refine wp_seq ?_
 refine wp_region_lit ?_
 refine wl_ev (wn rfl) (ev_move rfl) F S rfl rfl ?_; clear F a; intro a F
 obtain ⟨y1, hy1, hm⟩ := bind_some hm
 refine wl_call (wn rfl) rfl (xs := [.tmp 10]) (vs := [vpatches1]) (cap := []) F rfl rfl tc23 (stack_check_ok (g := g) (fr := (fl [[(b1, .cells #[.int .i64 0, .int .i64 0] 24 (0, 0))]] fr)) (w := w) patches vpatches1 hpatches1 S hy1) rfl rfl ?_; clear F a S
 rintro _ a w ⟨g1, l1, S, rfl⟩ F; replace S : St g1 [[(b1, .cells #[.int .i64 0, .int .i64 0] 24 (0, 0))]] fr w := S
 refine wl_alloc (wn rfl) rfl tz24 (cs := [.int .i64 0, .int .i64 0]) rfl F S rfl rfl ?_; clear F a S; rintro b2 a w F S
 refine wl_storeC (wn rfl) rfl F S rfl rfl (vs := [.int .i64 y1.Code, .int .i64 y1.Index]) rfl ts24 (one_cons rfl (one_cons rfl one_nil)) (k := 0) rfl (lb rfl) (c' := #[.int .i64 y1.Code, .int .i64 y1.Index]) rfl rfl ?_; clear S; intro w S
 replace S : St g1 [[(b2, .cells #[.int .i64 y1.Code, .int .i64 y1.Index] 24 (0, 0))], [(b1, .cells #[.int .i64 0, .int .i64 0] 24 (0, 0))]] fr w := S
 refine wpList_nil ?_
 replace F := F.sub (e' := [(6, bp b2 0), (5, bp b1 0), (0, vpatches1), (1, .int .i64 i_)]) ⟨rfl, rfl, rfl, rfl, trivial⟩
 refine then_n ?_
 refine wp_seq ?_
 refine wp_region_lit ?_
 refine wl_ev (wn rfl) (ev_loadA tu24 rfl (cs := [.int .i64 y1.Code, .int .i64 y1.Index]) ts24 rfl (box_ptr (cells := [.int .i64 y1.Code, .int .i64 y1.Index]) 0 rfl 0 rfl (lb rfl))) F S rfl rfl ?_; clear F a; intro a F
 refine wl_ev (wn rfl) (ev_build (parts := []) (vs := []) rfl (fun w => tb24_  w)) F S rfl rfl ?_; clear F a; intro a F
 refine wl_ev (wn rfl) (ev_neS tu24 tqa24 tqb24 tqc24 (xs := [.int .i64 y1.Code, .int .i64 y1.Index]) (ys := [.int .i64 0, .int .i64 0]) rfl rfl ⟨_, _, rfl, by decide, ⟨_, _, rfl, rfl, leaf_int tu3⟩, ⟨_, _, rfl, by decide, ⟨_, _, rfl, rfl, leaf_int tu3⟩, rfl⟩⟩) F S rfl rfl ?_; clear F a; intro a F
 refine wpList_nil ?_
 replace F := F.sub (e' := [(14, .bool (!(decide (y1.Code = 0) && decide (y1.Index = 0)))), (6, bp b2 0), (5, bp b1 0), (0, vpatches1), (1, .int .i64 i_)]) ⟨rfl, rfl, rfl, rfl, rfl, trivial⟩
 refine then_n ?_
 obtain ⟨hc1, hm⟩ | ⟨hc1, hm⟩ := ite_or hm
 ·refine wp_condT F rfl hc1 ?_
  refine wp_seq ?_
  refine wp_drawL ⟨2, [[15], [4], []], [[], [], [4]], [[3], [], []], [[6], [], [5]], [[], [], [0]], [5], [0, 1, 2, 3]⟩
   [([15], fun us g c => us = [.agg #[.int .i64 y1.Code, .int .i64 y1.Index]]),
    ([4], fun us g c => us = [nilS]),
    ([], fun us g c => us = [] ∧ c = [(b1, .cells #[.int .i64 y1.Code, .int .i64 y1.Index] 24 (0, 0))])]
   mo (by kernel_rfl) rfl rfl ⟨fun _ _ _ _ _ h => h, fun _ _ _ _ _ h => h, fun _ _ _ _ _ h => h, trivial⟩ F S ⟨?_, ?_, ?_, trivial⟩ ?_
  ·intro a w gd1 c fr hsz hdf hK ld1 hN hI S
   have F : Fr 60 a [(6, bp b2 0)] := Fr.of hsz hdf ⟨hK 6 (by decide) _ rfl, trivial⟩
   replace S : St gd1 [c 3] fr w := S.of_eq (flat2 _ _ _ _)
   have q3 : c 3 = [(b2, .cells #[.int .i64 y1.Code, .int .i64 y1.Index] 24 (0, 0))] := hI 0 _ rfl
   rw [q3] at S
   refine wl_ev (wn rfl) (ev_loadA tu24 rfl (cs := [.int .i64 y1.Code, .int .i64 y1.Index]) ts24 rfl (box_ptr (cells := [.int .i64 y1.Code, .int .i64 y1.Index]) 0 rfl 0 rfl (lb rfl))) F S rfl rfl ?_; clear F; intro a F
   refine wpList_nil ⟨rfl, F.sz, F.df, _, [], (Le.refl _), ?_, (lst1 (F.get 15 _ rfl))⟩
   refine St0.of_eq ?_ (flat3 c [] [3] fr).symm
   show St0 _ (fl ([] ++ [c 3]) fr) _
   rw [q3]
   exact S
  ·intro a w gd1 c fr hsz hdf hK ld1 hN hI S
   have F : Fr 60 a [] := Fr.of hsz hdf trivial
   replace S : St gd1 [] fr w := S.of_eq (flat2 _ _ _ _)
   refine wl_ev (wn rfl) (ev_assign rfl) F S rfl rfl ?_; clear F; intro a F
   refine wpList_nil ⟨rfl, F.sz, F.df, _, [], (Le.refl _), ?_, (lst1 (F.get 4 _ rfl))⟩
   refine St0.of_eq ?_ (flat3 c [] [] fr).symm
   show St0 _ (fl ([] ++ []) fr) _
   exact S
  ·intro a w gd1 c fr hsz hdf hK ld1 hN hI S
   have e0 := hN 0 (by decide)
   have e15x : val a 15 = .agg #[.int .i64 y1.Code, .int .i64 y1.Index] := nth e0 0
   have F : Fr 60 a [(5, bp b1 0), (15, .agg #[.int .i64 y1.Code, .int .i64 y1.Index])] := Fr.of hsz hdf ⟨hK 5 (by decide) _ rfl, e15x, trivial⟩
   replace S : St gd1 [c 4] fr w := S.of_eq (flat2 _ _ _ _)
   have q4 : c 4 = [(b1, .cells #[.int .i64 0, .int .i64 0] 24 (0, 0))] := hI 1 _ rfl
   rw [q4] at S
   refine wl_storeC (wn rfl) rfl F S rfl rfl (vs := [.int .i64 y1.Code, .int .i64 y1.Index]) rfl ts24 (one_cons rfl (one_cons rfl one_nil)) (k := 0) rfl (lb rfl) (c' := #[.int .i64 y1.Code, .int .i64 y1.Index]) rfl rfl ?_; clear S; intro w S
   replace S : St gd1 [[(b1, .cells #[.int .i64 y1.Code, .int .i64 y1.Index] 24 (0, 0))]] fr w := S
   refine wpList_nil ⟨rfl, F.sz, F.df, _, [(b1, .cells #[.int .i64 y1.Code, .int .i64 y1.Index] 24 (0, 0))], (Le.refl _), ?_, ⟨rfl, rfl⟩⟩
   refine St0.of_eq ?_ (flat3s c ([(b1, .cells #[.int .i64 y1.Code, .int .i64 y1.Index] 24 (0, 0))]) [] fr).symm
   show St0 _ (fl ([[(b1, .cells #[.int .i64 y1.Code, .int .i64 y1.Index] 24 (0, 0))]] ++ []) fr) _
   exact S
  clear F S; intro a w gd1 c hsz hdf hK ld1 hI S hN
  have e1 := hN 1 (by decide)
  have e4x : val a 4 = nilS := nth e1 0
  obtain ⟨e2, q2⟩ := hN 2 (by decide)
  have F : Fr 60 a [(5, bp b1 0), (4, nilS)] := Fr.of hsz hdf ⟨hK 5 (by decide) _ rfl, e4x, trivial⟩
  replace S : St gd1 [c 0, c 1, c 2, c 3] fr w := S.of_eq (flat_fl _ _ _)
  rw [q2] at S
  have q3 : c 3 = [(b2, .cells #[.int .i64 y1.Code, .int .i64 y1.Index] 24 (0, 0))] := hI 0 _ rfl
  rw [q3] at S
  replace S : St gd1 [[(b1, .cells #[.int .i64 y1.Code, .int .i64 y1.Index] 24 (0, 0))]] fr w := St.tail [[(b1, .cells #[.int .i64 y1.Code, .int .i64 y1.Index] 24 (0, 0))]] _ (S.frontC 2 rfl)
  clear hK hI hN hsz hdf e1 e2 e4x
  refine then_n ?_
  refine wp_ret ?_
  refine then_r ?_
  obtain rfl := sinj hm
  replace S : St gd1 [[], [(b1, .cells #[.int .i64 y1.Code, .int .i64 y1.Index] 24 (0, 0))]] fr w := S
  refine post_r (fn := Try.f21) (rs := [.tmp 4, .cell 5 24]) [nilS, .agg #[.int .i64 y1.Code, .int .i64 y1.Index]] F rfl (ar_cons (resT rfl) (ar_cons (resA rfl tu24 rfl ts24 (box_ptr (cells := [.int .i64 y1.Code, .int .i64 y1.Index]) 1 rfl 0 rfl (lb rfl) w S)) ar_nil)) ?_
  replace S : St gd1 [[]] fr w := St.tail [[]] _ (S.frontC 0 rfl)
  exact ⟨_, rfl, gd1, (nilS), [], (l1.trans ld1), S, (OwnS.nil _), rfl⟩
 ·refine wp_condF F rfl hc1 ?_
  refine wp_skip ?_
  refine then_n ?_
  refine wp_seq ?_
  refine wp_seq ?_
  refine wp_region_lit ?_
  refine wl_ev (wn rfl) (ev_move rfl) F S rfl rfl ?_; clear F a; intro a F
  refine wl_ev (wn rfl) (ev_int rfl rfl (bo_lss _ _ _ _)) F S rfl rfl ?_; clear F a; intro a F
  refine wl_ev (wn rfl) (ev_move rfl) F S rfl rfl ?_; clear F a; intro a F
  obtain ⟨x1, hx1, hm⟩ := bind_some hm
  refine wl_cut 6 (fun a w' => w = w' ∧ Fr 60 a [(24, .bool x1), (5, bp b1 0), (0, vpatches1), (1, .int .i64 i_)]) ?_ ?_
  ·clear hm; obtain ⟨hc2, hm⟩ | ⟨hc2, hm⟩ := ite_or hx1
   ·refine wl_skip rfl rfl rfl rfl (ne_ft hc2) F rfl rfl ?_; clear F a; intro a F
    refine wl_skip rfl rfl rfl rfl (ne_ft hc2) F rfl rfl ?_; clear F a; intro a F
    refine wl_skip rfl rfl rfl rfl (ne_ft hc2) F rfl rfl ?_; clear F a; intro a F
    refine wl_skip rfl rfl rfl rfl (ne_ft hc2) F rfl rfl ?_; clear F a; intro a F
    refine wl_skip rfl rfl rfl rfl (ne_ft hc2) F rfl rfl ?_; clear F a; intro a F
    refine wl_ev (wn rfl) (ev_pickT rfl hc2 rfl) F S rfl rfl ?_; clear F a; intro a F
    obtain rfl := sinj hm
    refine wpList_nil (then_n ?_); exact ⟨rfl, F.sub ⟨rfl, rfl, rfl, rfl, trivial⟩⟩
   ·refine wl_ev (wg F rfl rfl rfl rfl hc2) (ev_move rfl) F S rfl rfl ?_; clear F a; intro a F
    refine wl_ev (wg F rfl rfl rfl rfl hc2) (ev_move rfl) F S rfl rfl ?_; clear F a; intro a F
    refine wl_ev (wg F rfl rfl rfl rfl hc2) (ev_lenSh hpatches1 rfl tu22) F S rfl rfl ?_; clear F a; intro a F
    obtain ⟨z1, hz1, hm⟩ := bind_some hm
    refine wl_ev (wg F rfl rfl rfl rfl hc2) (ev_int rfl rfl (bo_sub hz1)) F S rfl rfl ?_; clear F a; intro a F
    refine wl_ev (wg F rfl rfl rfl rfl hc2) (ev_int rfl rfl (bo_geq _ _ _ _)) F S rfl rfl ?_; clear F a; intro a F
    refine wl_ev (wn rfl) (ev_pickF rfl hc2 rfl) F S rfl rfl ?_; clear F a; intro a F
    obtain rfl := sinj hm
    refine wpList_nil (then_n ?_); exact ⟨rfl, F.sub ⟨rfl, rfl, rfl, rfl, trivial⟩⟩
  clear F; rintro a w' ⟨rfl, F⟩
  refine wpList_nil ?_
  refine then_n ?_
  obtain ⟨hc3, hm⟩ | ⟨hc3, hm⟩ := ite_or hm
  ·refine wp_condT F rfl hc3 ?_
   refine wp_seq ?_
   refine wp_region_lit ?_
   refine wl_ev (wn rfl) (ev_build (parts := [(0, .const (.int .i64 3)), (1, .const (.int .i64 (-2)))]) (vs := [(0, .int .i64 3), (1, .int .i64 (-2))]) rfl (fun w => tb24_0_1 3 (-2) w)) F S rfl rfl ?_; clear F a; intro a F
   refine wl_ev (wn rfl) (ev_assign rfl) F S rfl rfl ?_; clear F a; intro a F
   refine wl_storeC (wn rfl) rfl F S rfl rfl (vs := [.int .i64 3, .int .i64 (-2)]) rfl ts24 (one_cons rfl (one_cons rfl one_nil)) (k := 1) rfl (lb rfl) (c' := #[.int .i64 3, .int .i64 (-2)]) rfl rfl ?_; clear S; intro w S
   replace S : St g1 [[(b2, .cells #[.int .i64 y1.Code, .int .i64 y1.Index] 24 (0, 0))], [(b1, .cells #[.int .i64 3, .int .i64 (-2)] 24 (0, 0))]] fr w := S
   refine wpList_nil ?_
   replace F := F.sub (e' := [(4, nilS), (5, bp b1 0)]) ⟨rfl, rfl, trivial⟩
   refine then_n ?_
   refine wp_ret ?_
   refine then_r ?_
   obtain rfl := sinj hm
   replace S : St g1 [[], [(b2, .cells #[.int .i64 y1.Code, .int .i64 y1.Index] 24 (0, 0))], [(b1, .cells #[.int .i64 3, .int .i64 (-2)] 24 (0, 0))]] fr w := S
   refine post_r (fn := Try.f21) (rs := [.tmp 4, .cell 5 24]) [nilS, .agg #[.int .i64 3, .int .i64 (-2)]] F rfl (ar_cons (resT rfl) (ar_cons (resA rfl tu24 rfl ts24 (box_ptr (cells := [.int .i64 3, .int .i64 (-2)]) 2 rfl 0 rfl (lb rfl) w S)) ar_nil)) ?_
   replace S : St g1 [[]] fr w := St.tail [[]] _ (S.frontC 0 rfl)
   exact ⟨_, rfl, g1, (nilS), [], l1, S, (OwnS.nil _), rfl⟩
  ·refine wp_condF F rfl hc3 ?_
   refine wp_skip ?_
   refine then_n ?_
   refine wp_seq ?_
   obtain ⟨y2, hy2, hm⟩ := bind_some hm
   obtain ⟨z2, hz2, hm⟩ := bind_some hm
   obtain ⟨y3, hy3, hm⟩ := bind_some hm
   obtain ⟨y4, hy4, hm⟩ := bind_some hm
   refine wp_drawL ⟨2, [[27], [28], [29], [30], [31], [32], [33], [34], [35], [36], [26, 36], [37, 36], [38], [7], [8], [36, 7], [8]], [[], [], [], [], [], [], [], [], [], [], [], [], [], [], [], [13], [14]], [[], [], [], [], [], [], [], [], [], [], [], [], [], [], [], [], []], [[0], [1], [], [], [0], [1], [], [], [], [], [], [], [], [], [], [], []], [[], [], [0, 1], [2], [], [], [5], [4, 6], [7], [3, 8], [9], [9, 10], [9, 10], [], [], [9, 11, 13], [12, 14]], [5, 0, 1], [0, 1, 2, 3, 4, 5, 6, 7, 8, 9, 10, 11, 12, 15, 16, 17, 18]⟩
    [([27], fun us g c => us = [vpatches1]),
     ([28], fun us g c => us = [.int .i64 i_]),
     ([29], fun us g c => ∃ v1 : Value, us = [(elemP vpatches1 i_ 1)] ∧ RepSl g y2.Hunks v1 ∧ PtrC g (elemP vpatches1 i_ 1) [v1]),
     ([30], fun us g c => ∃ v1 : Value, us = [.agg #[v1]] ∧ RepSl g y2.Hunks v1),
     ([31], fun us g c => us = [vpatches1]),
     ([32], fun us g c => us = [.int .i64 i_]),
     ([33], fun us g c => us = [.int .i64 z2]),
     ([34], fun us g c => ∃ v2 : Value, us = [(elemP vpatches1 z2 1)] ∧ RepSl g y3.Hunks v2 ∧ PtrC g (elemP vpatches1 z2 1) [v2]),
     ([35], fun us g c => ∃ v2 : Value, us = [.agg #[v2]] ∧ RepSl g y3.Hunks v2),
     ([36], fun us g c => ∃ v3 : Value, us = [.tuple #[.agg #[v3], .agg #[.int .i64 y4.2.Code, .int .i64 y4.2.Index]]] ∧ RepSl g y4.1.Hunks v3),
     ([26, 36], fun us g c => ∃ v3 : Value, us = [.tuple #[.agg #[v3], .agg #[.int .i64 y4.2.Code, .int .i64 y4.2.Index]], .tuple #[.agg #[v3], .agg #[.int .i64 y4.2.Code, .int .i64 y4.2.Index]]]),
     ([37, 36], fun us g c => ∃ v3 : Value, us = [.agg #[v3], .tuple #[.agg #[v3], .agg #[.int .i64 y4.2.Code, .int .i64 y4.2.Index]]]),
     ([38], fun us g c => us = [.agg #[.int .i64 y4.2.Code, .int .i64 y4.2.Index]]),
     ([7], fun us g c => ∃ b3 : Nat, us = [bp b3 0] ∧ c = [(b3, .cells #[nilS] 38 (0, 0))]),
     ([8], fun us g c => ∃ b4 : Nat, us = [bp b4 0] ∧ c = [(b4, .cells #[.int .i64 0, .int .i64 0] 24 (0, 0))]),
     ([36, 7], fun us g c => ∃ v3 : Value, ∃ b3 : Nat, us = [.tuple #[.agg #[v3], .agg #[.int .i64 y4.2.Code, .int .i64 y4.2.Index]], bp b3 0] ∧ c = [(b3, .cells #[v3] 38 (0, 0))]),
     ([8], fun us g c => ∃ b4 : Nat, us = [bp b4 0] ∧ c = [(b4, .cells #[.int .i64 y4.2.Code, .int .i64 y4.2.Index] 24 (0, 0))])]
    mo (by kernel_rfl) rfl rfl ⟨fun _ _ _ _ _ h => h, fun _ _ _ _ _ h => h, fun _ _ _ _ l ⟨x0, e0, h0, h1⟩ => ⟨x0, e0, h0.mono l, h1.mono l⟩, fun _ _ _ _ l ⟨x0, e0, h0⟩ => ⟨x0, e0, h0.mono l⟩, fun _ _ _ _ _ h => h, fun _ _ _ _ _ h => h, fun _ _ _ _ _ h => h, fun _ _ _ _ l ⟨x0, e0, h0, h1⟩ => ⟨x0, e0, h0.mono l, h1.mono l⟩, fun _ _ _ _ l ⟨x0, e0, h0⟩ => ⟨x0, e0, h0.mono l⟩, fun _ _ _ _ l ⟨x0, e0, h0⟩ => ⟨x0, e0, h0.mono l⟩, fun _ _ _ _ _ h => h, fun _ _ _ _ _ h => h, fun _ _ _ _ _ h => h, fun _ _ _ _ _ h => h, fun _ _ _ _ _ h => h, fun _ _ _ _ _ h => h, fun _ _ _ _ _ h => h, trivial⟩ F S ⟨?_, ?_, ?_, ?_, ?_, ?_, ?_, ?_, ?_, ?_, ?_, ?_, ?_, ?_, ?_, ?_, ?_, trivial⟩ ?_
   ·intro a w gd6 c fr hsz hdf hK ld6 hN hI S
    have F : Fr 60 a [(0, vpatches1)] := Fr.of hsz hdf ⟨hK 0 (by decide) _ rfl, trivial⟩
    replace S : St gd6 [] fr w := S.of_eq (flat2 _ _ _ _)
    refine wl_ev (wn rfl) (ev_move rfl) F S rfl rfl ?_; clear F; intro a F
    refine wpList_nil ⟨rfl, F.sz, F.df, _, [], (Le.refl _), ?_, (lst1 (F.get 27 _ rfl))⟩
    refine St0.of_eq ?_ (flat3 c [] [] fr).symm
    show St0 _ (fl ([] ++ []) fr) _
    exact S
   ·intro a w gd6 c fr hsz hdf hK ld6 hN hI S
    have F : Fr 60 a [(1, .int .i64 i_)] := Fr.of hsz hdf ⟨hK 1 (by decide) _ rfl, trivial⟩
    replace S : St gd6 [] fr w := S.of_eq (flat2 _ _ _ _)
    refine wl_ev (wn rfl) (ev_move rfl) F S rfl rfl ?_; clear F; intro a F
    refine wpList_nil ⟨rfl, F.sz, F.df, _, [], (Le.refl _), ?_, (lst1 (F.get 28 _ rfl))⟩
    refine St0.of_eq ?_ (flat3 c [] [] fr).symm
    show St0 _ (fl ([] ++ []) fr) _
    exact S
   ·intro a w gd6 c fr hsz hdf hK ld6 hN hI S
    have e0 := hN 0 (by decide)
    have e27x : val a 27 = vpatches1 := nth e0 0
    have e1 := hN 1 (by decide)
    have e28x : val a 28 = .int .i64 i_ := nth e1 0
    have F : Fr 60 a [(27, vpatches1), (28, .int .i64 i_)] := Fr.of hsz hdf ⟨e27x, e28x, trivial⟩
    replace S : St gd6 [] fr w := S.of_eq (flat2 _ _ _ _)
    obtain ⟨cs1, hr1, hp1⟩ := elemS (hpatches1.mono (l1.trans ld6)) hy2
    obtain ⟨v1, rfl, h1⟩ := rep_Patch hr1
    refine wl_ev (wn rfl) (ev_idxS (hpatches1.mono (l1.trans ld6)) hy2 tu22 ts38 rfl rfl) F S rfl rfl ?_; clear F; intro a F
    refine wpList_nil ⟨rfl, F.sz, F.df, _, [], (Le.refl _), ?_, ⟨v1, (lst1 (F.get 29 _ rfl)), h1, hp1⟩⟩
    refine St0.of_eq ?_ (flat3 c [] [] fr).symm
    show St0 _ (fl ([] ++ []) fr) _
    exact S
   ·intro a w gd6 c fr hsz hdf hK ld6 hN hI S
    obtain ⟨lv1, e2, lh1, lh2⟩ := hN 2 (by decide)
    have e29x : val a 29 = (elemP vpatches1 i_ 1) := nth e2 0
    have F : Fr 60 a [(29, (elemP vpatches1 i_ 1))] := Fr.of hsz hdf ⟨e29x, trivial⟩
    replace S : St gd6 [] fr w := S.of_eq (flat2 _ _ _ _)
    refine wl_ev (wn rfl) (ev_loadA tu38 rfl (cs := [lv1]) ts38 rfl (ptr_mono (cks := []) (fr := fr) lh2 (Le.refl _))) F S rfl rfl ?_; clear F; intro a F
    refine wpList_nil ⟨rfl, F.sz, F.df, _, [], (Le.refl _), ?_, ⟨lv1, (lst1 (F.get 30 _ rfl)), lh1⟩⟩
    refine St0.of_eq ?_ (flat3 c [] [] fr).symm
    show St0 _ (fl ([] ++ []) fr) _
    exact S
   ·intro a w gd6 c fr hsz hdf hK ld6 hN hI S
    have F : Fr 60 a [(0, vpatches1)] := Fr.of hsz hdf ⟨hK 0 (by decide) _ rfl, trivial⟩
    replace S : St gd6 [] fr w := S.of_eq (flat2 _ _ _ _)
    refine wl_ev (wn rfl) (ev_move rfl) F S rfl rfl ?_; clear F; intro a F
    refine wpList_nil ⟨rfl, F.sz, F.df, _, [], (Le.refl _), ?_, (lst1 (F.get 31 _ rfl))⟩
    refine St0.of_eq ?_ (flat3 c [] [] fr).symm
    show St0 _ (fl ([] ++ []) fr) _
    exact S
   ·intro a w gd6 c fr hsz hdf hK ld6 hN hI S
    have F : Fr 60 a [(1, .int .i64 i_)] := Fr.of hsz hdf ⟨hK 1 (by decide) _ rfl, trivial⟩
    replace S : St gd6 [] fr w := S.of_eq (flat2 _ _ _ _)
    refine wl_ev (wn rfl) (ev_move rfl) F S rfl rfl ?_; clear F; intro a F
    refine wpList_nil ⟨rfl, F.sz, F.df, _, [], (Le.refl _), ?_, (lst1 (F.get 32 _ rfl))⟩
    refine St0.of_eq ?_ (flat3 c [] [] fr).symm
    show St0 _ (fl ([] ++ []) fr) _
    exact S
   ·intro a w gd6 c fr hsz hdf hK ld6 hN hI S
    have e5 := hN 5 (by decide)
    have e32x : val a 32 = .int .i64 i_ := nth e5 0
    have F : Fr 60 a [(32, .int .i64 i_)] := Fr.of hsz hdf ⟨e32x, trivial⟩
    replace S : St gd6 [] fr w := S.of_eq (flat2 _ _ _ _)
    refine wl_ev (wn rfl) (ev_int rfl rfl (bo_add hz2)) F S rfl rfl ?_; clear F; intro a F
    refine wpList_nil ⟨rfl, F.sz, F.df, _, [], (Le.refl _), ?_, (lst1 (F.get 33 _ rfl))⟩
    refine St0.of_eq ?_ (flat3 c [] [] fr).symm
    show St0 _ (fl ([] ++ []) fr) _
    exact S
   ·intro a w gd6 c fr hsz hdf hK ld6 hN hI S
    have e4 := hN 4 (by decide)
    have e31x : val a 31 = vpatches1 := nth e4 0
    have e6 := hN 6 (by decide)
    have e33x : val a 33 = .int .i64 z2 := nth e6 0
    have F : Fr 60 a [(31, vpatches1), (33, .int .i64 z2)] := Fr.of hsz hdf ⟨e31x, e33x, trivial⟩
    replace S : St gd6 [] fr w := S.of_eq (flat2 _ _ _ _)
    obtain ⟨cs2, hr2, hp2⟩ := elemS (hpatches1.mono (l1.trans ld6)) hy3
    obtain ⟨v2, rfl, h2⟩ := rep_Patch hr2
    refine wl_ev (wn rfl) (ev_idxS (hpatches1.mono (l1.trans ld6)) hy3 tu22 ts38 rfl rfl) F S rfl rfl ?_; clear F; intro a F
    refine wpList_nil ⟨rfl, F.sz, F.df, _, [], (Le.refl _), ?_, ⟨v2, (lst1 (F.get 34 _ rfl)), h2, hp2⟩⟩
    refine St0.of_eq ?_ (flat3 c [] [] fr).symm
    show St0 _ (fl ([] ++ []) fr) _
    exact S
   ·intro a w gd6 c fr hsz hdf hK ld6 hN hI S
    obtain ⟨lv1, e7, lh1, lh2⟩ := hN 7 (by decide)
    have e34x : val a 34 = (elemP vpatches1 z2 1) := nth e7 0
    have F : Fr 60 a [(34, (elemP vpatches1 z2 1))] := Fr.of hsz hdf ⟨e34x, trivial⟩
    replace S : St gd6 [] fr w := S.of_eq (flat2 _ _ _ _)
    refine wl_ev (wn rfl) (ev_loadA tu38 rfl (cs := [lv1]) ts38 rfl (ptr_mono (cks := []) (fr := fr) lh2 (Le.refl _))) F S rfl rfl ?_; clear F; intro a F
    refine wpList_nil ⟨rfl, F.sz, F.df, _, [], (Le.refl _), ?_, ⟨lv1, (lst1 (F.get 35 _ rfl)), lh1⟩⟩
    refine St0.of_eq ?_ (flat3 c [] [] fr).symm
    show St0 _ (fl ([] ++ []) fr) _
    exact S
   ·intro a w gd6 c fr hsz hdf hK ld6 hN hI S
    obtain ⟨v1, e3, lh1⟩ := hN 3 (by decide)
    have e30x : val a 30 = .agg #[v1] := nth e3 0
    obtain ⟨v2, e8, lh2⟩ := hN 8 (by decide)
    have e35x : val a 35 = .agg #[v2] := nth e8 0
    have F : Fr 60 a [(30, .agg #[v1]), (35, .agg #[v2])] := Fr.of hsz hdf ⟨e30x, e35x, trivial⟩
    replace S : St gd6 [] fr w := S.of_eq (flat2 _ _ _ _)
    refine wl_call (wn rfl) rfl (xs := [.tmp 30, .tmp 35]) (vs := [.agg #[v1], .agg #[v2]]) (cap := []) F rfl rfl tc42 (textpatch_Compose_ok (g := gd6) (fr := fr) (w := w) y2 v1 lh1 y3 v2 lh2 S hy4) rfl rfl ?_; clear F S
    rintro _ a w ⟨g2, v3, l2, S, h3, rfl⟩ F; replace S : St g2 [] fr w := S
    refine wpList_nil ⟨rfl, F.sz, F.df, _, [], l2, ?_, ⟨v3, (lst1 (F.get 36 _ rfl)), h3⟩⟩
    refine St0.of_eq ?_ (flat3 c [] [] fr).symm
    show St0 _ (fl ([] ++ []) fr) _
    exact S
   ·intro a w gd6 c fr hsz hdf hK ld6 hN hI S
    obtain ⟨v3, e9, lh1⟩ := hN 9 (by decide)
    have e36x : val a 36 = .tuple #[.agg #[v3], .agg #[.int .i64 y4.2.Code, .int .i64 y4.2.Index]] := nth e9 0
    have F : Fr 60 a [(36, .tuple #[.agg #[v3], .agg #[.int .i64 y4.2.Code, .int .i64 y4.2.Index]])] := Fr.of hsz hdf ⟨e36x, trivial⟩
    replace S : St gd6 [] fr w := S.of_eq (flat2 _ _ _ _)
    refine wl_ev (wn rfl) (ev_move rfl) F S rfl rfl ?_; clear F; intro a F
    refine wpList_nil ⟨rfl, F.sz, F.df, _, [], (Le.refl _), ?_, ⟨v3, (lst2 (F.get 26 _ rfl) (F.get 36 _ rfl))⟩⟩
    refine St0.of_eq ?_ (flat3 c [] [] fr).symm
    show St0 _ (fl ([] ++ []) fr) _
    exact S
   ·intro a w gd6 c fr hsz hdf hK ld6 hN hI S
    obtain ⟨v3, e9, lh1⟩ := hN 9 (by decide)
    have e36x : val a 36 = .tuple #[.agg #[v3], .agg #[.int .i64 y4.2.Code, .int .i64 y4.2.Index]] := nth e9 0
    obtain ⟨dup1, e10⟩ := hN 10 (by decide)
    obtain rfl : v3 = dup1 := by have hq := e36x.symm.trans (nth e10 1); simp at hq; first | exact hq | exact hq.1 | exact hq.2 | exact hq.2.1 | exact hq.2.2
    have e26x : val a 26 = .tuple #[.agg #[v3], .agg #[.int .i64 y4.2.Code, .int .i64 y4.2.Index]] := nth e10 0
    have F : Fr 60 a [(36, .tuple #[.agg #[v3], .agg #[.int .i64 y4.2.Code, .int .i64 y4.2.Index]]), (26, .tuple #[.agg #[v3], .agg #[.int .i64 y4.2.Code, .int .i64 y4.2.Index]])] := Fr.of hsz hdf ⟨e36x, e26x, trivial⟩
    replace S : St gd6 [] fr w := S.of_eq (flat2 _ _ _ _)
    refine wl_ev (wn rfl) (ev_extract (vs := [.agg #[v3], .agg #[.int .i64 y4.2.Code, .int .i64 y4.2.Index]]) rfl rfl) F S rfl rfl ?_; clear F; intro a F
    refine wpList_nil ⟨rfl, F.sz, F.df, _, [], (Le.refl _), ?_, ⟨v3, (lst2 (F.get 37 _ rfl) (F.get 36 _ rfl))⟩⟩
    refine St0.of_eq ?_ (flat3 c [] [] fr).symm
    show St0 _ (fl ([] ++ []) fr) _
    exact S
   ·intro a w gd6 c fr hsz hdf hK ld6 hN hI S
    obtain ⟨v3, e9, lh1⟩ := hN 9 (by decide)
    have e36x : val a 36 = .tuple #[.agg #[v3], .agg #[.int .i64 y4.2.Code, .int .i64 y4.2.Index]] := nth e9 0
    obtain ⟨dup1, e10⟩ := hN 10 (by decide)
    obtain rfl : v3 = dup1 := by have hq := e36x.symm.trans (nth e10 1); simp at hq; first | exact hq | exact hq.1 | exact hq.2 | exact hq.2.1 | exact hq.2.2
    have e26x : val a 26 = .tuple #[.agg #[v3], .agg #[.int .i64 y4.2.Code, .int .i64 y4.2.Index]] := nth e10 0
    have F : Fr 60 a [(36, .tuple #[.agg #[v3], .agg #[.int .i64 y4.2.Code, .int .i64 y4.2.Index]]), (26, .tuple #[.agg #[v3], .agg #[.int .i64 y4.2.Code, .int .i64 y4.2.Index]])] := Fr.of hsz hdf ⟨e36x, e26x, trivial⟩
    replace S : St gd6 [] fr w := S.of_eq (flat2 _ _ _ _)
    refine wl_ev (wn rfl) (ev_extract (vs := [.agg #[v3], .agg #[.int .i64 y4.2.Code, .int .i64 y4.2.Index]]) rfl rfl) F S rfl rfl ?_; clear F; intro a F
    refine wpList_nil ⟨rfl, F.sz, F.df, _, [], (Le.refl _), ?_, (lst1 (F.get 38 _ rfl))⟩
    refine St0.of_eq ?_ (flat3 c [] [] fr).symm
    show St0 _ (fl ([] ++ []) fr) _
    exact S
   ·intro a w gd6 c fr hsz hdf hK ld6 hN hI S
    have F : Fr 60 a [] := Fr.of hsz hdf trivial
    replace S : St gd6 [] fr w := S.of_eq (flat2 _ _ _ _)
    refine wl_alloc (wn rfl) rfl tz38 (cs := [nilS]) rfl F S rfl rfl ?_; clear F S; rintro b3 a w F S
    refine wpList_nil ⟨rfl, F.sz, F.df, _, [(b3, .cells #[nilS] 38 (0, 0))], (Le.refl _), ?_, ⟨b3, (lst1 (F.get 7 _ rfl)), rfl⟩⟩
    refine St0.of_eq ?_ (flat3s c ([(b3, .cells #[nilS] 38 (0, 0))]) [] fr).symm
    show St0 _ (fl ([[(b3, .cells #[nilS] 38 (0, 0))]] ++ []) fr) _
    exact S
   ·intro a w gd6 c fr hsz hdf hK ld6 hN hI S
    have F : Fr 60 a [] := Fr.of hsz hdf trivial
    replace S : St gd6 [] fr w := S.of_eq (flat2 _ _ _ _)
    refine wl_alloc (wn rfl) rfl tz24 (cs := [.int .i64 0, .int .i64 0]) rfl F S rfl rfl ?_; clear F S; rintro b4 a w F S
    refine wpList_nil ⟨rfl, F.sz, F.df, _, [(b4, .cells #[.int .i64 0, .int .i64 0] 24 (0, 0))], (Le.refl _), ?_, ⟨b4, (lst1 (F.get 8 _ rfl)), rfl⟩⟩
    refine St0.of_eq ?_ (flat3s c ([(b4, .cells #[.int .i64 0, .int .i64 0] 24 (0, 0))]) [] fr).symm
    show St0 _ (fl ([[(b4, .cells #[.int .i64 0, .int .i64 0] 24 (0, 0))]] ++ []) fr) _
    exact S
   ·intro a w gd6 c fr hsz hdf hK ld6 hN hI S
    obtain ⟨v3, e9, lh1⟩ := hN 9 (by decide)
    have e36x : val a 36 = .tuple #[.agg #[v3], .agg #[.int .i64 y4.2.Code, .int .i64 y4.2.Index]] := nth e9 0
    obtain ⟨dup1, e11⟩ := hN 11 (by decide)
    obtain rfl : v3 = dup1 := by have hq := e36x.symm.trans (nth e11 1); simp at hq; first | exact hq | exact hq.1 | exact hq.2 | exact hq.2.1 | exact hq.2.2
    have e37x : val a 37 = .agg #[v3] := nth e11 0
    obtain ⟨b3, e13, q13⟩ := hN 13 (by decide)
    have e7x : val a 7 = bp b3 0 := nth e13 0
    have F : Fr 60 a [(36, .tuple #[.agg #[v3], .agg #[.int .i64 y4.2.Code, .int .i64 y4.2.Index]]), (37, .agg #[v3]), (7, bp b3 0)] := Fr.of hsz hdf ⟨e36x, e37x, e7x, trivial⟩
    replace S : St gd6 [c 13] fr w := S.of_eq (flat2 _ _ _ _)
    rw [q13] at S
    refine wl_storeC (wn rfl) rfl F S rfl rfl (vs := [v3]) rfl ts38 (one_cons lh1.one one_nil) (k := 0) rfl (lb rfl) (c' := #[v3]) rfl rfl ?_; clear S; intro w S
    replace S : St gd6 [[(b3, .cells #[v3] 38 (0, 0))]] fr w := S
    refine wpList_nil ⟨rfl, F.sz, F.df, _, [(b3, .cells #[v3] 38 (0, 0))], (Le.refl _), ?_, ⟨v3, b3, (lst2 (F.get 36 _ rfl) (F.get 7 _ rfl)), rfl⟩⟩
    refine St0.of_eq ?_ (flat3s c ([(b3, .cells #[v3] 38 (0, 0))]) [] fr).symm
    show St0 _ (fl ([[(b3, .cells #[v3] 38 (0, 0))]] ++ []) fr) _
    exact S
   ·intro a w gd6 c fr hsz hdf hK ld6 hN hI S
    have e12 := hN 12 (by decide)
    have e38x : val a 38 = .agg #[.int .i64 y4.2.Code, .int .i64 y4.2.Index] := nth e12 0
    obtain ⟨b4, e14, q14⟩ := hN 14 (by decide)
    have e8x : val a 8 = bp b4 0 := nth e14 0
    have F : Fr 60 a [(38, .agg #[.int .i64 y4.2.Code, .int .i64 y4.2.Index]), (8, bp b4 0)] := Fr.of hsz hdf ⟨e38x, e8x, trivial⟩
    replace S : St gd6 [c 14] fr w := S.of_eq (flat2 _ _ _ _)
    rw [q14] at S
    refine wl_storeC (wn rfl) rfl F S rfl rfl (vs := [.int .i64 y4.2.Code, .int .i64 y4.2.Index]) rfl ts24 (one_cons rfl (one_cons rfl one_nil)) (k := 0) rfl (lb rfl) (c' := #[.int .i64 y4.2.Code, .int .i64 y4.2.Index]) rfl rfl ?_; clear S; intro w S
    replace S : St gd6 [[(b4, .cells #[.int .i64 y4.2.Code, .int .i64 y4.2.Index] 24 (0, 0))]] fr w := S
    refine wpList_nil ⟨rfl, F.sz, F.df, _, [(b4, .cells #[.int .i64 y4.2.Code, .int .i64 y4.2.Index] 24 (0, 0))], (Le.refl _), ?_, ⟨b4, (lst1 (F.get 8 _ rfl)), rfl⟩⟩
    refine St0.of_eq ?_ (flat3s c ([(b4, .cells #[.int .i64 y4.2.Code, .int .i64 y4.2.Index] 24 (0, 0))]) [] fr).symm
    show St0 _ (fl ([[(b4, .cells #[.int .i64 y4.2.Code, .int .i64 y4.2.Index] 24 (0, 0))]] ++ []) fr) _
    exact S
   clear F S; intro a w gd6 c hsz hdf hK ld6 hI S hN
   obtain ⟨v3, e9, lh1⟩ := hN 9 (by decide)
   have e36x : val a 36 = .tuple #[.agg #[v3], .agg #[.int .i64 y4.2.Code, .int .i64 y4.2.Index]] := nth e9 0
   obtain ⟨b3, e13, q13⟩ := hN 13 (by decide)
   have e7x : val a 7 = bp b3 0 := nth e13 0
   obtain ⟨b4, e14, q14⟩ := hN 14 (by decide)
   have e8x : val a 8 = bp b4 0 := nth e14 0
   obtain ⟨dup1, dup2, e15, q15⟩ := hN 15 (by decide)
   obtain rfl : v3 = dup1 := by have hq := e36x.symm.trans (nth e15 0); simp at hq; first | exact hq | exact hq.1 | exact hq.2 | exact hq.2.1 | exact hq.2.2
   obtain rfl : b3 = dup2 := by have hq := e7x.symm.trans (nth e15 1); simp at hq; first | exact hq | exact hq.1 | exact hq.2 | exact hq.2.1 | exact hq.2.2
   obtain ⟨dup3, e16, q16⟩ := hN 16 (by decide)
   obtain rfl : b4 = dup3 := by have hq := e8x.symm.trans (nth e16 0); simp at hq; first | exact hq | exact hq.1 | exact hq.2 | exact hq.2.1 | exact hq.2.2
   have F : Fr 60 a [(5, bp b1 0), (0, vpatches1), (1, .int .i64 i_), (7, bp b3 0), (8, bp b4 0)] := Fr.of hsz hdf ⟨hK 5 (by decide) _ rfl, hK 0 (by decide) _ rfl, hK 1 (by decide) _ rfl, e7x, e8x, trivial⟩
   replace S : St gd6 [c 0, c 1, c 2, c 3, c 4, c 5, c 6, c 7, c 8, c 9, c 10, c 11, c 12, c 15, c 16, c 17, c 18] fr w := S.of_eq (flat_fl _ _ _)
   rw [q15] at S
   rw [q16] at S
   have q17 : c 17 = [(b2, .cells #[.int .i64 y1.Code, .int .i64 y1.Index] 24 (0, 0))] := hI 0 _ rfl
   rw [q17] at S
   have q18 : c 18 = [(b1, .cells #[.int .i64 0, .int .i64 0] 24 (0, 0))] := hI 1 _ rfl
   rw [q18] at S
   replace S : St gd6 [[(b3, .cells #[v3] 38 (0, 0))], [(b4, .cells #[.int .i64 y4.2.Code, .int .i64 y4.2.Index] 24 (0, 0))], [(b1, .cells #[.int .i64 0, .int .i64 0] 24 (0, 0))]] fr w := St.tail [[(b3, .cells #[v3] 38 (0, 0))], [(b4, .cells #[.int .i64 y4.2.Code, .int .i64 y4.2.Index] 24 (0, 0))], [(b1, .cells #[.int .i64 0, .int .i64 0] 24 (0, 0))]] _ (((S.frontC 16 rfl).frontC 15 rfl).frontC 15 rfl)
   clear hK hI hN hsz hdf e9 e13 e14 e15 e16 e36x e7x e8x
   refine then_n ?_
   refine wp_seq ?_
   refine wp_seq ?_
   refine wp_region_lit ?_
   refine wl_ev (wn rfl) (ev_loadA tu24 rfl (cs := [.int .i64 y4.2.Code, .int .i64 y4.2.Index]) ts24 rfl (box_ptr (cells := [.int .i64 y4.2.Code, .int .i64 y4.2.Index]) 1 rfl 0 rfl (lb rfl))) F S rfl rfl ?_; clear F a; intro a F
   refine wl_ev (wn rfl) (ev_build (parts := []) (vs := []) rfl (fun w => tb24_  w)) F S rfl rfl ?_; clear F a; intro a F
   refine wl_ev (wn rfl) (ev_neS tu24 tqa24 tqb24 tqc24 (xs := [.int .i64 y4.2.Code, .int .i64 y4.2.Index]) (ys := [.int .i64 0, .int .i64 0]) rfl rfl ⟨_, _, rfl, by decide, ⟨_, _, rfl, rfl, leaf_int tu3⟩, ⟨_, _, rfl, by decide, ⟨_, _, rfl, rfl, leaf_int tu3⟩, rfl⟩⟩) F S rfl rfl ?_; clear F a; intro a F
   refine wpList_nil ?_
   replace F := F.sub (e' := [(41, .bool (!(decide (y4.2.Code = 0) && decide (y4.2.Index = 0)))), (5, bp b1 0), (0, vpatches1), (1, .int .i64 i_), (7, bp b3 0), (8, bp b4 0)]) ⟨rfl, rfl, rfl, rfl, rfl, rfl, trivial⟩
   refine then_n ?_
   obtain ⟨hc4, hm⟩ | ⟨hc4, hm⟩ := ite_or hm
   ·refine wp_condT F rfl hc4 ?_
    refine wp_seq ?_
    refine wp_drawL ⟨3, [[42], [43], [44], [4], []], [[], [], [], [], [7]], [[], [6], [], [], []], [[8], [], [], [], [5]], [[], [0], [1], [], [2]], [5], [0, 1, 2, 3, 4, 5, 6]⟩
     [([42], fun us g c => us = [bp b4 0]),
      ([43], fun us g c => us = [.int .i64 y4.2.Code]),
      ([44], fun us g c => us = [.agg #[.int .i64 y4.2.Code, .int .i64 (-3)]]),
      ([4], fun us g c => us = [nilS]),
      ([], fun us g c => us = [] ∧ c = [(b1, .cells #[.int .i64 y4.2.Code, .int .i64 (-3)] 24 (0, 0))])]
     mo (by kernel_rfl) rfl rfl ⟨fun _ _ _ _ _ h => h, fun _ _ _ _ _ h => h, fun _ _ _ _ _ h => h, fun _ _ _ _ _ h => h, fun _ _ _ _ _ h => h, trivial⟩ F S ⟨?_, ?_, ?_, ?_, ?_, trivial⟩ ?_
    ·intro a w gd11 c fr hsz hdf hK ld11 hN hI S
     have F : Fr 60 a [(8, bp b4 0)] := Fr.of hsz hdf ⟨hK 8 (by decide) _ rfl, trivial⟩
     replace S : St gd11 [] fr w := S.of_eq (flat2 _ _ _ _)
     refine wl_ev (wn rfl) (ev_fieldAddr' tu24 tf24_0 (z := 0) ts3 rfl ⟨_, rfl⟩ rfl) F S rfl rfl ?_; clear F; intro a F
     refine wpList_nil ⟨rfl, F.sz, F.df, _, [], (Le.refl _), ?_, (lst1 (F.get 42 _ rfl))⟩
     refine St0.of_eq ?_ (flat3 c [] [] fr).symm
     show St0 _ (fl ([] ++ []) fr) _
     exact S
    ·intro a w gd11 c fr hsz hdf hK ld11 hN hI S
     have e0 := hN 0 (by decide)
     have e42x : val a 42 = bp b4 0 := nth e0 0
     have F : Fr 60 a [(42, bp b4 0)] := Fr.of hsz hdf ⟨e42x, trivial⟩
     replace S : St gd11 [c 6] fr w := S.of_eq (flat2 _ _ _ _)
     have q6 : c 6 = [(b4, .cells #[.int .i64 y4.2.Code, .int .i64 y4.2.Index] 24 (0, 0))] := hI 1 _ rfl
     rw [q6] at S
     refine wl_ev (wn rfl) (ev_load1 tu3 rfl rfl (box_ptr (cells := [.int .i64 y4.2.Code]) 0 rfl 0 rfl (lb rfl))) F S rfl rfl ?_; clear F; intro a F
     refine wpList_nil ⟨rfl, F.sz, F.df, _, [], (Le.refl _), ?_, (lst1 (F.get 43 _ rfl))⟩
     refine St0.of_eq ?_ (flat3 c [] [6] fr).symm
     show St0 _ (fl ([] ++ [c 6]) fr) _
     rw [q6]
     exact S
    ·intro a w gd11 c fr hsz hdf hK ld11 hN hI S
     have e1 := hN 1 (by decide)
     have e43x : val a 43 = .int .i64 y4.2.Code := nth e1 0
     have F : Fr 60 a [(43, .int .i64 y4.2.Code)] := Fr.of hsz hdf ⟨e43x, trivial⟩
     replace S : St gd11 [] fr w := S.of_eq (flat2 _ _ _ _)
     refine wl_ev (wn rfl) (ev_build (parts := [(0, .tmp 43), (1, .const (.int .i64 (-3)))]) (vs := [(0, .int .i64 y4.2.Code), (1, .int .i64 (-3))]) rfl (fun w => tb24_0_1 y4.2.Code (-3) w)) F S rfl rfl ?_; clear F; intro a F
     refine wpList_nil ⟨rfl, F.sz, F.df, _, [], (Le.refl _), ?_, (lst1 (F.get 44 _ rfl))⟩
     refine St0.of_eq ?_ (flat3 c [] [] fr).symm
     show St0 _ (fl ([] ++ []) fr) _
     exact S
    ·intro a w gd11 c fr hsz hdf hK ld11 hN hI S
     have F : Fr 60 a [] := Fr.of hsz hdf trivial
     replace S : St gd11 [] fr w := S.of_eq (flat2 _ _ _ _)
     refine wl_ev (wn rfl) (ev_assign rfl) F S rfl rfl ?_; clear F; intro a F
     refine wpList_nil ⟨rfl, F.sz, F.df, _, [], (Le.refl _), ?_, (lst1 (F.get 4 _ rfl))⟩
     refine St0.of_eq ?_ (flat3 c [] [] fr).symm
     show St0 _ (fl ([] ++ []) fr) _
     exact S
    ·intro a w gd11 c fr hsz hdf hK ld11 hN hI S
     have e2 := hN 2 (by decide)
     have e44x : val a 44 = .agg #[.int .i64 y4.2.Code, .int .i64 (-3)] := nth e2 0
     have F : Fr 60 a [(5, bp b1 0), (44, .agg #[.int .i64 y4.2.Code, .int .i64 (-3)])] := Fr.of hsz hdf ⟨hK 5 (by decide) _ rfl, e44x, trivial⟩
     replace S : St gd11 [c 7] fr w := S.of_eq (flat2 _ _ _ _)
     have q7 : c 7 = [(b1, .cells #[.int .i64 0, .int .i64 0] 24 (0, 0))] := hI 2 _ rfl
     rw [q7] at S
     refine wl_storeC (wn rfl) rfl F S rfl rfl (vs := [.int .i64 y4.2.Code, .int .i64 (-3)]) rfl ts24 (one_cons rfl (one_cons rfl one_nil)) (k := 0) rfl (lb rfl) (c' := #[.int .i64 y4.2.Code, .int .i64 (-3)]) rfl rfl ?_; clear S; intro w S
     replace S : St gd11 [[(b1, .cells #[.int .i64 y4.2.Code, .int .i64 (-3)] 24 (0, 0))]] fr w := S
     refine wpList_nil ⟨rfl, F.sz, F.df, _, [(b1, .cells #[.int .i64 y4.2.Code, .int .i64 (-3)] 24 (0, 0))], (Le.refl _), ?_, ⟨rfl, rfl⟩⟩
     refine St0.of_eq ?_ (flat3s c ([(b1, .cells #[.int .i64 y4.2.Code, .int .i64 (-3)] 24 (0, 0))]) [] fr).symm
     show St0 _ (fl ([[(b1, .cells #[.int .i64 y4.2.Code, .int .i64 (-3)] 24 (0, 0))]] ++ []) fr) _
     exact S
    clear F S; intro a w gd11 c hsz hdf hK ld11 hI S hN
    have e3 := hN 3 (by decide)
    have e4x : val a 4 = nilS := nth e3 0
    obtain ⟨e4, q4⟩ := hN 4 (by decide)
    have F : Fr 60 a [(5, bp b1 0), (4, nilS)] := Fr.of hsz hdf ⟨hK 5 (by decide) _ rfl, e4x, trivial⟩
    replace S : St gd11 [c 0, c 1, c 2, c 3, c 4, c 5, c 6] fr w := S.of_eq (flat_fl _ _ _)
    rw [q4] at S
    have q5 : c 5 = [(b3, .cells #[v3] 38 (0, 0))] := hI 0 _ rfl
    rw [q5] at S
    have q6 : c 6 = [(b4, .cells #[.int .i64 y4.2.Code, .int .i64 y4.2.Index] 24 (0, 0))] := hI 1 _ rfl
    rw [q6] at S
    replace S : St gd11 [[(b1, .cells #[.int .i64 y4.2.Code, .int .i64 (-3)] 24 (0, 0))]] fr w := St.tail [[(b1, .cells #[.int .i64 y4.2.Code, .int .i64 (-3)] 24 (0, 0))]] _ (S.frontC 4 rfl)
    clear hK hI hN hsz hdf e3 e4 e4x
    refine then_n ?_
    refine wp_ret ?_
    refine then_r ?_
    obtain rfl := sinj hm
    replace S : St gd11 [[], [(b1, .cells #[.int .i64 y4.2.Code, .int .i64 (-3)] 24 (0, 0))]] fr w := S
    refine post_r (fn := Try.f21) (rs := [.tmp 4, .cell 5 24]) [nilS, .agg #[.int .i64 y4.2.Code, .int .i64 (-3)]] F rfl (ar_cons (resT rfl) (ar_cons (resA rfl tu24 rfl ts24 (box_ptr (cells := [.int .i64 y4.2.Code, .int .i64 (-3)]) 1 rfl 0 rfl (lb rfl) w S)) ar_nil)) ?_
    replace S : St gd11 [[]] fr w := St.tail [[]] _ (S.frontC 0 rfl)
    exact ⟨_, rfl, gd11, (nilS), [], ((l1.trans ld6).trans ld11), S, (OwnS.nil _), rfl⟩
   ·refine wp_condF F rfl hc4 ?_
    refine wp_skip ?_
    refine then_n ?_
    refine wp_seq ?_
    obtain ⟨y5, hy5, hm⟩ := bind_some hm
    obtain ⟨y6, hy6, hm⟩ := bind_some hm
    obtain ⟨y7, hy7, hm⟩ := bind_some hm
    refine wp_drawL ⟨3, [[45], [46], [47], [48], [49], [50], [51], [9, 51]], [[], [], [], [], [], [], [3], []], [[], [], [], [], [8], [], [5], []], [[0], [1], [], [], [7], [], [], []], [[], [], [0, 1], [2], [], [4], [3, 5], [6]], [5, 0, 1], [0, 1, 2, 4, 5, 6, 7, 8, 9, 10]⟩
     [([45], fun us g c => us = [vpatches1]),
      ([46], fun us g c => us = [.int .i64 i_]),
      ([47], fun us g c => ∃ v4 : Value, us = [v4] ∧ RepSl g y5 v4),
      ([48], fun us g c => ∃ v5 : Value, us = [v5] ∧ OwnS g y6 v5 c),
      ([49], fun us g c => us = [.agg #[v3]]),
      ([50], fun us g c => ∃ v6 : Value, us = [v6] ∧ OwnS g ([y4.1] : List Patch) v6 c),
      ([51], fun us g c => ∃ v7 : Value, us = [v7] ∧ OwnS g y7 v7 c),
      ([9, 51], fun us g c => ∃ v7 : Value, us = [v7, v7])]
     mo (by kernel_rfl) rfl rfl ⟨fun _ _ _ _ _ h => h, fun _ _ _ _ _ h => h, fun _ _ _ _ l ⟨x0, e0, h0⟩ => ⟨x0, e0, h0.mono l⟩, fun _ _ _ _ l ⟨x0, e0, h0⟩ => ⟨x0, e0, h0.mono l⟩, fun _ _ _ _ _ h => h, fun _ _ _ _ l ⟨x0, e0, h0⟩ => ⟨x0, e0, h0.mono l⟩, fun _ _ _ _ l ⟨x0, e0, h0⟩ => ⟨x0, e0, h0.mono l⟩, fun _ _ _ _ _ h => h, trivial⟩ F S ⟨?_, ?_, ?_, ?_, ?_, ?_, ?_, ?_, trivial⟩ ?_
    ·intro a w gd16 c fr hsz hdf hK ld16 hN hI S
     have F : Fr 60 a [(0, vpatches1)] := Fr.of hsz hdf ⟨hK 0 (by decide) _ rfl, trivial⟩
     replace S : St gd16 [] fr w := S.of_eq (flat2 _ _ _ _)
     refine wl_ev (wn rfl) (ev_move rfl) F S rfl rfl ?_; clear F; intro a F
     refine wpList_nil ⟨rfl, F.sz, F.df, _, [], (Le.refl _), ?_, (lst1 (F.get 45 _ rfl))⟩
     refine St0.of_eq ?_ (flat3 c [] [] fr).symm
     show St0 _ (fl ([] ++ []) fr) _
     exact S
    ·intro a w gd16 c fr hsz hdf hK ld16 hN hI S
     have F : Fr 60 a [(1, .int .i64 i_)] := Fr.of hsz hdf ⟨hK 1 (by decide) _ rfl, trivial⟩
     replace S : St gd16 [] fr w := S.of_eq (flat2 _ _ _ _)
     refine wl_ev (wn rfl) (ev_move rfl) F S rfl rfl ?_; clear F; intro a F
     refine wpList_nil ⟨rfl, F.sz, F.df, _, [], (Le.refl _), ?_, (lst1 (F.get 46 _ rfl))⟩
     refine St0.of_eq ?_ (flat3 c [] [] fr).symm
     show St0 _ (fl ([] ++ []) fr) _
     exact S
    ·intro a w gd16 c fr hsz hdf hK ld16 hN hI S
     have e0 := hN 0 (by decide)
     have e45x : val a 45 = vpatches1 := nth e0 0
     have e1 := hN 1 (by decide)
     have e46x : val a 46 = .int .i64 i_ := nth e1 0
     have F : Fr 60 a [(45, vpatches1), (46, .int .i64 i_)] := Fr.of hsz hdf ⟨e45x, e46x, trivial⟩
     replace S : St gd16 [] fr w := S.of_eq (flat2 _ _ _ _)
     refine wl_cutS (wn rfl) rfl (hpatches1.mono ((l1.trans ld6).trans ld16)) hy5 tu22 ts38 rfl (bnd0 _) (bndV rfl) F rfl rfl ?_; clear F; rintro v4 h4 a F
     refine wpList_nil ⟨rfl, F.sz, F.df, _, [], (Le.refl _), ?_, ⟨v4, (lst1 (F.get 47 _ rfl)), h4⟩⟩
     refine St0.of_eq ?_ (flat3 c [] [] fr).symm
     show St0 _ (fl ([] ++ []) fr) _
     exact S
    ·intro a w gd16 c fr hsz hdf hK ld16 hN hI S
     obtain ⟨v4, e2, lh2⟩ := hN 2 (by decide)
     have e47x : val a 47 = v4 := nth e2 0
     have F : Fr 60 a [(47, v4)] := Fr.of hsz hdf ⟨e47x, trivial⟩
     replace S : St gd16 [] fr w := S.of_eq (flat2 _ _ _ _)
     refine wl_call (wn rfl) rfl (xs := [.tmp 47]) (vs := [v4]) (cap := []) F rfl rfl tc43 (stack_clone_ok (g := gd16) (fr := fr) (w := w) y5 v4 lh2 S hy6) rfl rfl ?_; clear F S
     rintro _ a w ⟨g3, v5, c1, l3, S, h5, rfl⟩ F; replace S : St g3 [c1] fr w := S
     refine wpList_nil ⟨rfl, F.sz, F.df, _, c1, l3, ?_, ⟨v5, (lst1 (F.get 48 _ rfl)), h5⟩⟩
     refine St0.of_eq ?_ (flat3s c (c1) [] fr).symm
     show St0 _ (fl ([c1] ++ []) fr) _
     exact S
    ·intro a w gd16 c fr hsz hdf hK ld16 hN hI S
     have F : Fr 60 a [(7, bp b3 0)] := Fr.of hsz hdf ⟨hK 7 (by decide) _ rfl, trivial⟩
     replace S : St gd16 [c 8] fr w := S.of_eq (flat2 _ _ _ _)
     have q8 : c 8 = [(b3, .cells #[v3] 38 (0, 0))] := hI 0 _ rfl
     rw [q8] at S
     refine wl_ev (wn rfl) (ev_loadA tu38 rfl (cs := [v3]) ts38 rfl (box_ptr (cells := [v3]) 0 rfl 0 rfl (lb rfl))) F S rfl rfl ?_; clear F; intro a F
     refine wpList_nil ⟨rfl, F.sz, F.df, _, [], (Le.refl _), ?_, (lst1 (F.get 49 _ rfl))⟩
     refine St0.of_eq ?_ (flat3 c [] [8] fr).symm
     show St0 _ (fl ([] ++ [c 8]) fr) _
     rw [q8]
     exact S
    ·intro a w gd16 c fr hsz hdf hK ld16 hN hI S
     have e4 := hN 4 (by decide)
     have e49x : val a 49 = .agg #[v3] := nth e4 0
     have F : Fr 60 a [(49, .agg #[v3])] := Fr.of hsz hdf ⟨e49x, trivial⟩
     replace S : St gd16 [] fr w := S.of_eq (flat2 _ _ _ _)
     refine wl_lit (l := ([y4.1] : List Patch)) (vs := [.agg #[v3]]) (parts := [(0, .tmp 49)]) (wn rfl) rfl rfl rfl tu22 te38 (sz_cons rfl sz_nil) rfl (Cat.cons (rep_Patch_mk (x := y4.1) (lh1.mono ld16)) (Cat.nil _)) (coa_cons rfl coa_nil) rfl F S rfl rfl ?_; clear F S
     rintro v6 c2 a w h6 F S
     refine wpList_nil ⟨rfl, F.sz, F.df, _, c2, (Le.refl _), ?_, ⟨v6, (lst1 (F.get 50 _ rfl)), h6⟩⟩
     refine St0.of_eq ?_ (flat3s c (c2) [] fr).symm
     show St0 _ (fl ([c2] ++ []) fr) _
     exact S
    ·intro a w gd16 c fr hsz hdf hK ld16 hN hI S
     obtain ⟨v5, e3, lh2⟩ := hN 3 (by decide)
     have e48x : val a 48 = v5 := nth e3 0
     obtain ⟨v6, e5, lh3⟩ := hN 5 (by decide)
     have e50x : val a 50 = v6 := nth e5 0
     have F : Fr 60 a [(48, v5), (50, v6)] := Fr.of hsz hdf ⟨e48x, e50x, trivial⟩
     replace S : St gd16 [c 3, c 5] fr w := S.of_eq (flat2 _ _ _ _)
     obtain ⟨cs3, hk1, hr3⟩ := OwnS.reads lh3
     refine wl_append (wn rfl) rfl tu22 tu22 te38 (by decide) (by decide) F S rfl rfl (k := 0) rfl lh2 hk1 rfl (hr3 _ _ _ 1 rfl S) hy7 rfl rfl ?_; clear F S
     rintro v7 c3 a w h7 S F; replace S : St gd16 [c3, (c 5)] fr w := S
     refine wpList_nil ⟨rfl, F.sz, F.df, _, c3, (Le.refl _), ?_, ⟨v7, (lst1 (F.get 51 _ rfl)), h7⟩⟩
     refine St0.of_eq ?_ (flat3s c (c3) [5] fr).symm
     show St0 _ (fl ([c3] ++ [c 5]) fr) _
     exact S
    ·intro a w gd16 c fr hsz hdf hK ld16 hN hI S
     obtain ⟨v7, e6, lh2⟩ := hN 6 (by decide)
     have e51x : val a 51 = v7 := nth e6 0
     have F : Fr 60 a [(51, v7)] := Fr.of hsz hdf ⟨e51x, trivial⟩
     replace S : St gd16 [] fr w := S.of_eq (flat2 _ _ _ _)
     refine wl_ev (wn rfl) (ev_assign rfl) F S rfl rfl ?_; clear F; intro a F
     refine wpList_nil ⟨rfl, F.sz, F.df, _, [], (Le.refl _), ?_, ⟨v7, (lst2 (F.get 9 _ rfl) (F.get 51 _ rfl))⟩⟩
     refine St0.of_eq ?_ (flat3 c [] [] fr).symm
     show St0 _ (fl ([] ++ []) fr) _
     exact S
    clear F S; intro a w gd16 c hsz hdf hK ld16 hI S hN
    obtain ⟨v6, e5, lh2⟩ := hN 5 (by decide)
    have e50x : val a 50 = v6 := nth e5 0
    obtain ⟨v7, e6, lh3⟩ := hN 6 (by decide)
    have e51x : val a 51 = v7 := nth e6 0
    obtain ⟨dup4, e7⟩ := hN 7 (by decide)
    obtain rfl : v7 = dup4 := by have hq := e51x.symm.trans (nth e7 1); simp at hq; first | exact hq | exact hq.1 | exact hq.2 | exact hq.2.1 | exact hq.2.2
    have e9x : val a 9 = v7 := nth e7 0
    have F : Fr 60 a [(5, bp b1 0), (0, vpatches1), (1, .int .i64 i_), (9, v7)] := Fr.of hsz hdf ⟨hK 5 (by decide) _ rfl, hK 0 (by decide) _ rfl, hK 1 (by decide) _ rfl, e9x, trivial⟩
    replace S : St gd16 [c 0, c 1, c 2, c 4, c 5, c 6, c 7, c 8, c 9, c 10] fr w := S.of_eq (flat_fl _ _ _)
    generalize c 5 = c2 at *
    generalize c 6 = c3 at *
    have q8 : c 8 = [(b3, .cells #[v3] 38 (0, 0))] := hI 0 _ rfl
    rw [q8] at S
    have q9 : c 9 = [(b4, .cells #[.int .i64 y4.2.Code, .int .i64 y4.2.Index] 24 (0, 0))] := hI 1 _ rfl
    rw [q9] at S
    have q10 : c 10 = [(b1, .cells #[.int .i64 0, .int .i64 0] 24 (0, 0))] := hI 2 _ rfl
    rw [q10] at S
    replace S : St gd16 [c3, [(b1, .cells #[.int .i64 0, .int .i64 0] 24 (0, 0))]] fr w := St.tail [c3, [(b1, .cells #[.int .i64 0, .int .i64 0] 24 (0, 0))]] _ ((S.frontC 9 rfl).frontC 6 rfl)
    clear hK hI hN hsz hdf e5 e6 e7 e50x e51x e9x
    refine then_n ?_
    refine wp_seq ?_
    refine wp_region_lit ?_
    refine wl_ev (wn rfl) (ev_move rfl) F S rfl rfl ?_; clear F a; intro a F
    refine wl_ev (wn rfl) (ev_move rfl) F S rfl rfl ?_; clear F a; intro a F
    refine wl_ev (wn rfl) (ev_move rfl) F S rfl rfl ?_; clear F a; intro a F
    obtain ⟨z3, hz3, hm⟩ := bind_some hm
    refine wl_ev (wn rfl) (ev_int rfl rfl (bo_add hz3)) F S rfl rfl ?_; clear F a; intro a F
    obtain ⟨y8, hy8, hm⟩ := bind_some hm
    refine wl_cutS (wn rfl) rfl (hpatches1.mono ((l1.trans ld6).trans ld16)) hy8 tu22 ts38 rfl (bndV rfl) (bnd0 _) F rfl rfl ?_; clear F a; rintro v8 h8 a F
    obtain ⟨y9, hy9, hm⟩ := bind_some hm
    refine wl_call (wn rfl) rfl (xs := [.tmp 56]) (vs := [v8]) (cap := []) F rfl rfl tc43 (stack_clone_ok (g := gd16) (fr := (fl [c3, [(b1, .cells #[.int .i64 0, .int .i64 0] 24 (0, 0))]] fr)) (w := w) y8 v8 h8 S hy9) rfl rfl ?_; clear F a S
    rintro _ a w ⟨g4, v9, c4, l4, S, h9, rfl⟩ F; replace S : St g4 [c4, c3, [(b1, .cells #[.int .i64 0, .int .i64 0] 24 (0, 0))]] fr w := S
    obtain ⟨cs4, hk2, hr4⟩ := OwnS.reads h9
    obtain ⟨y10, hy10, hm⟩ := bind_some hm
    refine wl_append (wn rfl) rfl tu22 tu22 te38 (by decide) (by decide) F S rfl rfl (k := 1) rfl (lh3.mono l4) hk2 rfl (hr4 _ _ _ 0 rfl S) hy10 rfl rfl ?_; clear F a S
    rintro v10 c5 a w h10 S F; replace S : St g4 [c4, c5, [(b1, .cells #[.int .i64 0, .int .i64 0] 24 (0, 0))]] fr w := S
    refine wl_ev (wn rfl) (ev_build (parts := []) (vs := []) rfl (fun w => tb24_  w)) F S rfl rfl ?_; clear F a; intro a F
    refine wl_ev (wn rfl) (ev_assign rfl) F S rfl rfl ?_; clear F a; intro a F
    refine wl_storeC (wn rfl) rfl F S rfl rfl (vs := [.int .i64 0, .int .i64 0]) rfl ts24 (one_cons rfl (one_cons rfl one_nil)) (k := 2) rfl (lb rfl) (c' := #[.int .i64 0, .int .i64 0]) rfl rfl ?_; clear S; intro w S
    replace S : St g4 [c4, c5, [(b1, .cells #[.int .i64 0, .int .i64 0] 24 (0, 0))]] fr w := S
    refine wpList_nil ?_
    replace F := F.sub (e' := [(4, v10), (5, bp b1 0)]) ⟨rfl, rfl, trivial⟩
    refine then_n ?_
    refine wp_ret ?_
    obtain rfl := sinj hm
    refine post_r (fn := Try.f21) (rs := [.tmp 4, .cell 5 24]) [v10, .agg #[.int .i64 0, .int .i64 0]] F rfl (ar_cons (resT rfl) (ar_cons (resA rfl tu24 rfl ts24 (box_ptr (cells := [.int .i64 0, .int .i64 0]) 2 rfl 0 rfl (lb rfl) w S)) ar_nil)) ?_
    replace S : St g4 [c5] fr w := St.tail [c5] _ (S.frontC 1 rfl)
    exact ⟨_, rfl, g4, v10, c5, (((l1.trans ld6).trans ld16).trans l4), S, h10, rfl⟩
end Go.Dc
