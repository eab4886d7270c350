/- Walks: each function comes to what its model says. -/
import Derived.Test.YtgcjgmfdnhimmaaDcTab
import Derived.Test.YtgcjgmfdnhimmaaDcM
import Derived.Test.YtgcjgmfdnhimmaaDcW1
import Derived.Test.YtgcjgmfdnhimmaaDcW3
namespace Go.Dc
open Go Go.Proofs
set_option maxRecDepth 100000
set_option maxHeartbeats 4000000
set_option linter.unusedVariables false
theorem stack_move_ok {g : Gh} {fr : Hl} {w : World} {r : (List Patch) × Bool × Fault} (patches : (List Patch)) (vpatches1 : Value) (hpatches1 : RepSl g patches vpatches1) (from_ : Int) (to : Int) (S : St g [] fr w) (hm : stack_move patches from_ to = some r) :
  Calls Try.prog 24 [vpatches1, .int .i64 from_, .int .i64 to].toArray w (fun en w' => ∃ v, en = .returned v ∧ ∃ (g' : Gh) (v1 : Value) (c1 : Hl), Le g g' ∧ St g' [c1] fr w' ∧ OwnS g' r.1 v1 c1 ∧ .tuple #[v1, .bool r.2.1, .agg #[.int .i64 r.2.2.Code, .int .i64 r.2.2.Index]] = v) := by
 unfold stack_move at hm
 refine calls_enter (fn := Try.f24) Try.func24 rfl Try.ntmps24 (lb rfl) ?_
 intro a F
 replace F : Fr 69 a [(0, vpatches1), (1, .int .i64 from_), (2, .int .i64 to)] := F
 refine wp_seq ?_
 refine wp_region_lit ?_
 refine wl_ev (wn rfl) (ev_assign rfl) F S rfl rfl ?_; clear F a; intro a F
 refine wl_ev (wn rfl) (ev_assign rfl) F S rfl rfl ?_; clear F a; intro a F
 refine wl_alloc (wn rfl) rfl tz24 (cs := [.int .i64 0, .int .i64 0]) rfl F S rfl rfl ?_; clear F a S; rintro b1 a w F S
 refine wpList_nil ?_
 replace F := F.sub (e' := [(8, bp b1 0), (0, vpatches1), (1, .int .i64 from_), (2, .int .i64 to)]) ⟨rfl, rfl, rfl, rfl, trivial⟩
 refine then_n ?_
 refine wp_seq ?_
 refine wp_region_lit ?_
 refine wl_ev (wn rfl) (ev_move rfl) F S rfl rfl ?_; clear F a; intro a F
 obtain ⟨y1, hy1, hm⟩ := bind_some hm
 refine wl_call (wn rfl) rfl (xs := [.tmp 17]) (vs := [vpatches1]) (cap := []) F rfl rfl tc43 (stack_clone_ok (g := g) (fr := (fl [[(b1, .cells #[.int .i64 0, .int .i64 0] 24 (0, 0))]] fr)) (w := w) patches vpatches1 hpatches1 S hy1) rfl rfl ?_; clear F a S
 rintro _ a w ⟨g1, v1, c1, l1, S, h1, rfl⟩ F; replace S : St g1 [c1, [(b1, .cells #[.int .i64 0, .int .i64 0] 24 (0, 0))]] fr w := S
 refine wl_ev (wn rfl) (ev_assign rfl) F S rfl rfl ?_; clear F a; intro a F
 refine wpList_nil ?_
 replace F := F.sub (e' := [(9, v1), (8, bp b1 0), (1, .int .i64 from_), (2, .int .i64 to)]) ⟨rfl, rfl, rfl, rfl, trivial⟩
 refine then_n ?_
 refine wp_cut (fun a w => ∃ (x1 : List Patch) (v2 : Value) (c2 : Hl) (g2 : Gh), Fr 69 a [(9, v2), (8, bp b1 0)] ∧ Le g1 g2 ∧ St g2 [c2, [(b1, .cells #[.int .i64 0, .int .i64 0] 24 (0, 0))]] fr w ∧ OwnS g2 x1 v2 c2 ∧ stack_move.j1 x1 = some r) ?_ ?_
 ·refine wp_seq ?_
  refine wp_region_lit ?_
  refine wl_ev (wn rfl) (ev_move rfl) F S rfl rfl ?_; clear F a; intro a F
  refine wl_ev (wn rfl) (ev_assign rfl) F S rfl rfl ?_; clear F a; intro a F
  refine wpList_nil ?_
  replace F := F.sub (e' := [(10, .int .i64 from_), (9, v1), (8, bp b1 0), (2, .int .i64 to)]) ⟨rfl, rfl, rfl, rfl, trivial⟩
  refine then_n ?_
  refine wp_block ?_
  obtain ⟨r1, hr1, hm⟩ := bind_some hm
  have hmo1 := hm; clear hm
  refine wp_iter (σ := Int × (List Patch)) (ρ := ((List Patch) × Bool × Fault) ⊕ (List Patch)) (m := fun s => stack_move.l1 to s.1 s.2) (I := fun s a w => match s with | (x2, x3) => ∃ (v3 : Value) (c3 : Hl) (g3 : Gh), Fr 69 a [(10, .int .i64 x2), (9, v3), (8, bp b1 0), (2, .int .i64 to)] ∧ Le g1 g3 ∧ St g3 [c3, [(b1, .cells #[.int .i64 0, .int .i64 0] 24 (0, 0))]] fr w ∧ OwnS g3 x3 v3 c3) hr1 ?_ ?_
  ·dsimp only
   exact ⟨v1, c1, g1, F.sub ⟨rfl, rfl, rfl, rfl, trivial⟩, (Le.refl _), S, h1⟩
  ·clear F S; rintro ⟨x2, x3⟩ a w x4 ⟨v3, c3, g3, F, l3, S, h3⟩ hx1 hfin1
   have hm : stack_move.l1 to x2 x3 = some x4 := hx1; clear hx1
   unfold stack_move.l1 at hm
   refine wp_seq ?_
   refine wp_seq ?_
   refine wp_region_lit ?_
   refine wl_ev (wn rfl) (ev_move rfl) F S rfl rfl ?_; clear F a; intro a F
   refine wl_ev (wn rfl) (ev_move rfl) F S rfl rfl ?_; clear F a; intro a F
   refine wl_ev (wn rfl) (ev_int rfl rfl (bo_neq _ _ _ _)) F S rfl rfl ?_; clear F a; intro a F
   refine wpList_nil ?_
   replace F := F.sub (e' := [(22, .bool (!decide (x2 = to))), (10, .int .i64 x2), (9, v3), (8, bp b1 0), (2, .int .i64 to)]) ⟨rfl, rfl, rfl, rfl, rfl, trivial⟩
   refine then_n ?_
   obtain ⟨hc1, hm⟩ | ⟨hc1, hm⟩ := ite_or hm
   ·refine wp_condT F rfl hc1 ?_
    refine wp_skip ?_
    refine then_n ?_
    refine wp_block ?_
    refine wp_seq ?_
    refine wp_region_lit ?_
    refine wl_ev (wn rfl) (ev_move rfl) F S rfl rfl ?_; clear F a; intro a F
    refine wl_ev (wn rfl) (ev_move rfl) F S rfl rfl ?_; clear F a; intro a F
    obtain ⟨z1, hz1, hm⟩ := bind_some hm
    refine wl_ev (wn rfl) (ev_int rfl rfl (bo_add hz1)) F S rfl rfl ?_; clear F a; intro a F
    refine wl_ev (wn rfl) (ev_assign rfl) F S rfl rfl ?_; clear F a; intro a F
    refine wl_ev (wn rfl) (ev_assign rfl) F S rfl rfl ?_; clear F a; intro a F
    refine wpList_nil ?_
    replace F := F.sub (e' := [(12, .int .i64 z1), (11, .int .i64 x2), (10, .int .i64 x2), (9, v3), (8, bp b1 0), (2, .int .i64 to)]) ⟨rfl, rfl, rfl, rfl, rfl, rfl, trivial⟩
    refine then_n ?_
    refine wp_cut (fun a w => ∃ (x5 : Int) (x6 : Int) (g4 : Gh), Fr 69 a [(12, .int .i64 x5), (11, .int .i64 x6), (9, v3), (8, bp b1 0), (2, .int .i64 to)] ∧ Le g3 g4 ∧ St g4 [c3, [(b1, .cells #[.int .i64 0, .int .i64 0] 24 (0, 0))]] fr w ∧ stack_move.j2 x3 x5 x6 = some x4) ?_ ?_
    ·refine wp_seq ?_
     refine wp_region_lit ?_
     refine wl_ev (wn rfl) (ev_move rfl) F S rfl rfl ?_; clear F a; intro a F
     refine wl_ev (wn rfl) (ev_move rfl) F S rfl rfl ?_; clear F a; intro a F
     refine wl_ev (wn rfl) (ev_int rfl rfl (bo_lss _ _ _ _)) F S rfl rfl ?_; clear F a; intro a F
     refine wpList_nil ?_
     replace F := F.sub (e' := [(28, .bool (decide (to < x2))), (12, .int .i64 z1), (11, .int .i64 x2), (10, .int .i64 x2), (9, v3), (8, bp b1 0), (2, .int .i64 to)]) ⟨rfl, rfl, rfl, rfl, rfl, rfl, rfl, trivial⟩
     refine then_n ?_
     obtain ⟨hc4, hm⟩ | ⟨hc4, hm⟩ := ite_or hm
     ·refine wp_condT F rfl hc4 ?_
      refine wp_region_lit ?_
      refine wl_ev (wn rfl) (ev_move rfl) F S rfl rfl ?_; clear F a; intro a F
      obtain ⟨z4, hz4, hm⟩ := bind_some hm
      refine wl_ev (wn rfl) (ev_int rfl rfl (bo_sub hz4)) F S rfl rfl ?_; clear F a; intro a F
      refine wl_ev (wn rfl) (ev_move rfl) F S rfl rfl ?_; clear F a; intro a F
      obtain ⟨z5, hz5, hm⟩ := bind_some hm
      refine wl_ev (wn rfl) (ev_int rfl rfl (bo_sub hz5)) F S rfl rfl ?_; clear F a; intro a F
      refine wl_ev (wn rfl) (ev_assign rfl) F S rfl rfl ?_; clear F a; intro a F
      refine wl_ev (wn rfl) (ev_assign rfl) F S rfl rfl ?_; clear F a; intro a F
      refine wpList_nil ?_
      replace F := F.sub (e' := [(12, .int .i64 z5), (11, .int .i64 z4), (9, v3), (8, bp b1 0), (2, .int .i64 to)]) ⟨rfl, rfl, rfl, rfl, rfl, trivial⟩
      refine then_n ?_
      exact ⟨z5, z4, g3, F.sub ⟨rfl, rfl, rfl, rfl, rfl, trivial⟩, (Le.refl _), S, hm⟩
     ·refine wp_condF F rfl hc4 ?_
      refine wp_skip ?_
      refine then_n ?_
      exact ⟨z1, x2, g3, F.sub ⟨rfl, rfl, rfl, rfl, rfl, trivial⟩, (Le.refl _), S, hm⟩
    ·clear F S hm; rintro a w ⟨x5, x6, g4, F, l4, S, hm⟩
     refine wp_seq ?_
     obtain ⟨y2, hy2, hm⟩ := bind_some hm
     obtain ⟨z2, hz2, hm⟩ := bind_some hm
     obtain ⟨y3, hy3, hm⟩ := bind_some hm
     obtain ⟨y4, hy4, hm⟩ := bind_some hm
     refine wp_drawL ⟨2, [[34], [35], [36], [37], [38], [39], [40], [41], [42], [43], [33, 43], [44, 43], [45, 43], [46], [47], [13], [14], [16], [43, 13], [43, 14], [15], [16]], [[], [], [], [], [], [], [], [], [], [], [], [], [], [], [], [], [], [], [15], [16], [], [17]], [[], [], [], [22], [], [], [], [], [22], [], [], [], [], [], [], [], [], [], [], [], [], []], [[9], [11], [], [], [9], [11], [], [], [], [], [], [], [], [], [], [], [], [], [], [], [], []], [[], [], [0, 1], [2], [], [], [5], [4, 6], [7], [3, 8], [9], [9, 10], [9, 10], [9, 10], [9, 10], [], [], [], [9, 11, 15], [9, 12, 16], [13], [14, 17]], [12, 11, 9, 8, 2], [0, 1, 2, 3, 4, 5, 6, 7, 8, 9, 10, 11, 12, 13, 14, 18, 19, 20, 21, 22, 23]⟩
      [([34], fun us g c => us = [v3]),
       ([35], fun us g c => us = [.int .i64 x6]),
       ([36], fun us g c => us = [elemP v3 x6 1]),
       ([37], fun us g c => ∃ v4 : Value, us = [.agg #[v4]] ∧ RepSl g y2.Hunks v4),
       ([38], fun us g c => us = [v3]),
       ([39], fun us g c => us = [.int .i64 x6]),
       ([40], fun us g c => us = [.int .i64 z2]),
       ([41], fun us g c => us = [elemP v3 z2 1]),
       ([42], fun us g c => ∃ v5 : Value, us = [.agg #[v5]] ∧ RepSl g y3.Hunks v5),
       ([43], fun us g c => ∃ v6 : Value, ∃ v7 : Value, us = [.tuple #[.agg #[v6], .agg #[v7], .bool y4.2.2.1, .agg #[.int .i64 y4.2.2.2.Code, .int .i64 y4.2.2.2.Index]]] ∧ RepSl g y4.1.Hunks v6 ∧ RepSl g y4.2.1.Hunks v7),
       ([33, 43], fun us g c => ∃ v6 : Value, ∃ v7 : Value, us = [.tuple #[.agg #[v6], .agg #[v7], .bool y4.2.2.1, .agg #[.int .i64 y4.2.2.2.Code, .int .i64 y4.2.2.2.Index]], .tuple #[.agg #[v6], .agg #[v7], .bool y4.2.2.1, .agg #[.int .i64 y4.2.2.2.Code, .int .i64 y4.2.2.2.Index]]]),
       ([44, 43], fun us g c => ∃ v6 : Value, ∃ v7 : Value, us = [.agg #[v6], .tuple #[.agg #[v6], .agg #[v7], .bool y4.2.2.1, .agg #[.int .i64 y4.2.2.2.Code, .int .i64 y4.2.2.2.Index]]]),
       ([45, 43], fun us g c => ∃ v7 : Value, ∃ v6 : Value, us = [.agg #[v7], .tuple #[.agg #[v6], .agg #[v7], .bool y4.2.2.1, .agg #[.int .i64 y4.2.2.2.Code, .int .i64 y4.2.2.2.Index]]]),
       ([46], fun us g c => us = [.bool y4.2.2.1]),
       ([47], fun us g c => us = [.agg #[.int .i64 y4.2.2.2.Code, .int .i64 y4.2.2.2.Index]]),
       ([13], fun us g c => ∃ b2 : Nat, us = [bp b2 0] ∧ c = [(b2, .cells #[nilS] 38 (0, 0))]),
       ([14], fun us g c => ∃ b3 : Nat, us = [bp b3 0] ∧ c = [(b3, .cells #[nilS] 38 (0, 0))]),
       ([16], fun us g c => ∃ b4 : Nat, us = [bp b4 0] ∧ c = [(b4, .cells #[.int .i64 0, .int .i64 0] 24 (0, 0))]),
       ([43, 13], fun us g c => ∃ v6 : Value, ∃ b2 : Nat, ∃ v7 : Value, us = [.tuple #[.agg #[v6], .agg #[v7], .bool y4.2.2.1, .agg #[.int .i64 y4.2.2.2.Code, .int .i64 y4.2.2.2.Index]], bp b2 0] ∧ c = [(b2, .cells #[v6] 38 (0, 0))]),
       ([43, 14], fun us g c => ∃ v7 : Value, ∃ b3 : Nat, ∃ v6 : Value, us = [.tuple #[.agg #[v6], .agg #[v7], .bool y4.2.2.1, .agg #[.int .i64 y4.2.2.2.Code, .int .i64 y4.2.2.2.Index]], bp b3 0] ∧ c = [(b3, .cells #[v7] 38 (0, 0))]),
       ([15], fun us g c => us = [.bool y4.2.2.1]),
       ([16], fun us g c => ∃ b4 : Nat, us = [bp b4 0] ∧ c = [(b4, .cells #[.int .i64 y4.2.2.2.Code, .int .i64 y4.2.2.2.Index] 24 (0, 0))])]
      mo (by kernel_rfl) rfl rfl ⟨fun _ _ _ _ _ h => h, fun _ _ _ _ _ h => h, fun _ _ _ _ _ h => h, fun _ _ _ _ l ⟨x0, e0, h0⟩ => ⟨x0, e0, h0.mono l⟩, fun _ _ _ _ _ h => h, fun _ _ _ _ _ h => h, fun _ _ _ _ _ h => h, fun _ _ _ _ _ h => h, fun _ _ _ _ l ⟨x0, e0, h0⟩ => ⟨x0, e0, h0.mono l⟩, fun _ _ _ _ l ⟨x0, x1, e0, h0, h1⟩ => ⟨x0, x1, e0, h0.mono l, h1.mono l⟩, fun _ _ _ _ _ h => h, fun _ _ _ _ _ h => h, fun _ _ _ _ _ h => h, fun _ _ _ _ _ h => h, fun _ _ _ _ _ h => h, fun _ _ _ _ _ h => h, fun _ _ _ _ _ h => h, fun _ _ _ _ _ h => h, fun _ _ _ _ _ h => h, fun _ _ _ _ _ h => h, fun _ _ _ _ _ h => h, fun _ _ _ _ _ h => h, trivial⟩ F S ⟨?_, ?_, ?_, ?_, ?_, ?_, ?_, ?_, ?_, ?_, ?_, ?_, ?_, ?_, ?_, ?_, ?_, ?_, ?_, ?_, ?_, ?_, trivial⟩ ?_
     ·intro a w gd1 c fr hsz hdf hK ld1 hN hI S
      have F : Fr 69 a [(9, v3)] := Fr.of hsz hdf ⟨hK 9 (by decide) _ rfl, trivial⟩
      replace S : St gd1 [] fr w := S.of_eq (flat2 _ _ _ _)
      refine wl_ev (wn rfl) (ev_move rfl) F S rfl rfl ?_; clear F; intro a F
      refine wpList_nil ⟨rfl, F.sz, F.df, _, [], (Le.refl _), ?_, (lst1 (F.get 34 _ rfl))⟩
      refine St0.of_eq ?_ (flat3 c [] [] fr).symm
      show St0 _ (fl ([] ++ []) fr) _
      exact S
     ·intro a w gd1 c fr hsz hdf hK ld1 hN hI S
      have F : Fr 69 a [(11, .int .i64 x6)] := Fr.of hsz hdf ⟨hK 11 (by decide) _ rfl, trivial⟩
      replace S : St gd1 [] fr w := S.of_eq (flat2 _ _ _ _)
      refine wl_ev (wn rfl) (ev_move rfl) F S rfl rfl ?_; clear F; intro a F
      refine wpList_nil ⟨rfl, F.sz, F.df, _, [], (Le.refl _), ?_, (lst1 (F.get 35 _ rfl))⟩
      refine St0.of_eq ?_ (flat3 c [] [] fr).symm
      show St0 _ (fl ([] ++ []) fr) _
      exact S
     ·intro a w gd1 c fr hsz hdf hK ld1 hN hI S
      have e0 := hN 0 (by decide)
      have e34x : val a 34 = v3 := nth e0 0
      have e1 := hN 1 (by decide)
      have e35x : val a 35 = .int .i64 x6 := nth e1 0
      have F : Fr 69 a [(34, v3), (35, .int .i64 x6)] := Fr.of hsz hdf ⟨e34x, e35x, trivial⟩
      replace S : St gd1 [] fr w := S.of_eq (flat2 _ _ _ _)
      refine wl_ev (wn rfl) (ev_idxO (h3.mono (l4.trans ld1)) hy2 tu22 ts38 rfl rfl) F S rfl rfl ?_; clear F; intro a F
      refine wpList_nil ⟨rfl, F.sz, F.df, _, [], (Le.refl _), ?_, (lst1 (F.get 36 _ rfl))⟩
      refine St0.of_eq ?_ (flat3 c [] [] fr).symm
      show St0 _ (fl ([] ++ []) fr) _
      exact S
     ·intro a w gd1 c fr hsz hdf hK ld1 hN hI S
      have e2 := hN 2 (by decide)
      have e36x : val a 36 = elemP v3 x6 1 := nth e2 0
      have F : Fr 69 a [(36, elemP v3 x6 1)] := Fr.of hsz hdf ⟨e36x, trivial⟩
      replace S : St gd1 [c 22] fr w := S.of_eq (flat2 _ _ _ _)
      have q22 : c 22 = c3 := hI 0 _ rfl
      rw [q22] at S
      obtain ⟨cs1, hr2, hq1⟩ := elemO (h3.mono (l4.trans ld1)) hy2
      obtain ⟨v4, rfl, h4⟩ := rep_Patch hr2
      refine wl_ev (wn rfl) (ev_loadA tu38 rfl (cs := [v4]) ts38 rfl (hq1 _ _ 0 rfl)) F S rfl rfl ?_; clear F; intro a F
      refine wpList_nil ⟨rfl, F.sz, F.df, _, [], (Le.refl _), ?_, ⟨v4, (lst1 (F.get 37 _ rfl)), h4⟩⟩
      refine St0.of_eq ?_ (flat3 c [] [22] fr).symm
      show St0 _ (fl ([] ++ [c 22]) fr) _
      rw [q22]
      exact S
     ·intro a w gd1 c fr hsz hdf hK ld1 hN hI S
      have F : Fr 69 a [(9, v3)] := Fr.of hsz hdf ⟨hK 9 (by decide) _ rfl, trivial⟩
      replace S : St gd1 [] fr w := S.of_eq (flat2 _ _ _ _)
      refine wl_ev (wn rfl) (ev_move rfl) F S rfl rfl ?_; clear F; intro a F
      refine wpList_nil ⟨rfl, F.sz, F.df, _, [], (Le.refl _), ?_, (lst1 (F.get 38 _ rfl))⟩
      refine St0.of_eq ?_ (flat3 c [] [] fr).symm
      show St0 _ (fl ([] ++ []) fr) _
      exact S
     ·intro a w gd1 c fr hsz hdf hK ld1 hN hI S
      have F : Fr 69 a [(11, .int .i64 x6)] := Fr.of hsz hdf ⟨hK 11 (by decide) _ rfl, trivial⟩
      replace S : St gd1 [] fr w := S.of_eq (flat2 _ _ _ _)
      refine wl_ev (wn rfl) (ev_move rfl) F S rfl rfl ?_; clear F; intro a F
      refine wpList_nil ⟨rfl, F.sz, F.df, _, [], (Le.refl _), ?_, (lst1 (F.get 39 _ rfl))⟩
      refine St0.of_eq ?_ (flat3 c [] [] fr).symm
      show St0 _ (fl ([] ++ []) fr) _
      exact S
     ·intro a w gd1 c fr hsz hdf hK ld1 hN hI S
      have e5 := hN 5 (by decide)
      have e39x : val a 39 = .int .i64 x6 := nth e5 0
      have F : Fr 69 a [(39, .int .i64 x6)] := Fr.of hsz hdf ⟨e39x, trivial⟩
      replace S : St gd1 [] fr w := S.of_eq (flat2 _ _ _ _)
      refine wl_ev (wn rfl) (ev_int rfl rfl (bo_add hz2)) F S rfl rfl ?_; clear F; intro a F
      refine wpList_nil ⟨rfl, F.sz, F.df, _, [], (Le.refl _), ?_, (lst1 (F.get 40 _ rfl))⟩
      refine St0.of_eq ?_ (flat3 c [] [] fr).symm
      show St0 _ (fl ([] ++ []) fr) _
      exact S
     ·intro a w gd1 c fr hsz hdf hK ld1 hN hI S
      have e4 := hN 4 (by decide)
      have e38x : val a 38 = v3 := nth e4 0
      have e6 := hN 6 (by decide)
      have e40x : val a 40 = .int .i64 z2 := nth e6 0
      have F : Fr 69 a [(38, v3), (40, .int .i64 z2)] := Fr.of hsz hdf ⟨e38x, e40x, trivial⟩
      replace S : St gd1 [] fr w := S.of_eq (flat2 _ _ _ _)
      refine wl_ev (wn rfl) (ev_idxO (h3.mono (l4.trans ld1)) hy3 tu22 ts38 rfl rfl) F S rfl rfl ?_; clear F; intro a F
      refine wpList_nil ⟨rfl, F.sz, F.df, _, [], (Le.refl _), ?_, (lst1 (F.get 41 _ rfl))⟩
      refine St0.of_eq ?_ (flat3 c [] [] fr).symm
      show St0 _ (fl ([] ++ []) fr) _
      exact S
     ·intro a w gd1 c fr hsz hdf hK ld1 hN hI S
      have e7 := hN 7 (by decide)
      have e41x : val a 41 = elemP v3 z2 1 := nth e7 0
      have F : Fr 69 a [(41, elemP v3 z2 1)] := Fr.of hsz hdf ⟨e41x, trivial⟩
      replace S : St gd1 [c 22] fr w := S.of_eq (flat2 _ _ _ _)
      have q22 : c 22 = c3 := hI 0 _ rfl
      rw [q22] at S
      obtain ⟨cs2, hr3, hq2⟩ := elemO (h3.mono (l4.trans ld1)) hy3
      obtain ⟨v5, rfl, h5⟩ := rep_Patch hr3
      refine wl_ev (wn rfl) (ev_loadA tu38 rfl (cs := [v5]) ts38 rfl (hq2 _ _ 0 rfl)) F S rfl rfl ?_; clear F; intro a F
      refine wpList_nil ⟨rfl, F.sz, F.df, _, [], (Le.refl _), ?_, ⟨v5, (lst1 (F.get 42 _ rfl)), h5⟩⟩
      refine St0.of_eq ?_ (flat3 c [] [22] fr).symm
      show St0 _ (fl ([] ++ [c 22]) fr) _
      rw [q22]
      exact S
     ·intro a w gd1 c fr hsz hdf hK ld1 hN hI S
      obtain ⟨v4, e3, lh1⟩ := hN 3 (by decide)
      have e37x : val a 37 = .agg #[v4] := nth e3 0
      obtain ⟨v5, e8, lh2⟩ := hN 8 (by decide)
      have e42x : val a 42 = .agg #[v5] := nth e8 0
      have F : Fr 69 a [(37, .agg #[v4]), (42, .agg #[v5])] := Fr.of hsz hdf ⟨e37x, e42x, trivial⟩
      replace S : St gd1 [] fr w := S.of_eq (flat2 _ _ _ _)
      refine wl_call (wn rfl) rfl (xs := [.tmp 37, .tmp 42]) (vs := [.agg #[v4], .agg #[v5]]) (cap := []) F rfl rfl tc18 (commute_Commute_ok (g := gd1) (fr := fr) (w := w) y2 v4 lh1 y3 v5 lh2 S hy4) rfl rfl ?_; clear F S
      rintro _ a w ⟨g5, v6, v7, l5, S, h6, h7, rfl⟩ F; replace S : St g5 [] fr w := S
      refine wpList_nil ⟨rfl, F.sz, F.df, _, [], l5, ?_, ⟨v6, v7, (lst1 (F.get 43 _ rfl)), h6, h7⟩⟩
      refine St0.of_eq ?_ (flat3 c [] [] fr).symm
      show St0 _ (fl ([] ++ []) fr) _
      exact S
     ·intro a w gd1 c fr hsz hdf hK ld1 hN hI S
      obtain ⟨v6, v7, e9, lh1, lh2⟩ := hN 9 (by decide)
      have e43x : val a 43 = .tuple #[.agg #[v6], .agg #[v7], .bool y4.2.2.1, .agg #[.int .i64 y4.2.2.2.Code, .int .i64 y4.2.2.2.Index]] := nth e9 0
      have F : Fr 69 a [(43, .tuple #[.agg #[v6], .agg #[v7], .bool y4.2.2.1, .agg #[.int .i64 y4.2.2.2.Code, .int .i64 y4.2.2.2.Index]])] := Fr.of hsz hdf ⟨e43x, trivial⟩
      replace S : St gd1 [] fr w := S.of_eq (flat2 _ _ _ _)
      refine wl_ev (wn rfl) (ev_move rfl) F S rfl rfl ?_; clear F; intro a F
      refine wpList_nil ⟨rfl, F.sz, F.df, _, [], (Le.refl _), ?_, ⟨v6, v7, (lst2 (F.get 33 _ rfl) (F.get 43 _ rfl))⟩⟩
      refine St0.of_eq ?_ (flat3 c [] [] fr).symm
      show St0 _ (fl ([] ++ []) fr) _
      exact S
     ·intro a w gd1 c fr hsz hdf hK ld1 hN hI S
      obtain ⟨v6, v7, e9, lh1, lh2⟩ := hN 9 (by decide)
      have e43x : val a 43 = .tuple #[.agg #[v6], .agg #[v7], .bool y4.2.2.1, .agg #[.int .i64 y4.2.2.2.Code, .int .i64 y4.2.2.2.Index]] := nth e9 0
      obtain ⟨dup1, dup2, e10⟩ := hN 10 (by decide)
      obtain rfl : v6 = dup1 := by have hq := e43x.symm.trans (nth e10 1); simp at hq; first | exact hq | exact hq.1 | exact hq.2 | exact hq.2.1 | exact hq.2.2
      obtain rfl : v7 = dup2 := by have hq := e43x.symm.trans (nth e10 1); simp at hq; first | exact hq | exact hq.1 | exact hq.2 | exact hq.2.1 | exact hq.2.2
      have e33x : val a 33 = .tuple #[.agg #[v6], .agg #[v7], .bool y4.2.2.1, .agg #[.int .i64 y4.2.2.2.Code, .int .i64 y4.2.2.2.Index]] := nth e10 0
      have F : Fr 69 a [(43, .tuple #[.agg #[v6], .agg #[v7], .bool y4.2.2.1, .agg #[.int .i64 y4.2.2.2.Code, .int .i64 y4.2.2.2.Index]]), (33, .tuple #[.agg #[v6], .agg #[v7], .bool y4.2.2.1, .agg #[.int .i64 y4.2.2.2.Code, .int .i64 y4.2.2.2.Index]])] := Fr.of hsz hdf ⟨e43x, e33x, trivial⟩
      replace S : St gd1 [] fr w := S.of_eq (flat2 _ _ _ _)
      refine wl_ev (wn rfl) (ev_extract (vs := [.agg #[v6], .agg #[v7], .bool y4.2.2.1, .agg #[.int .i64 y4.2.2.2.Code, .int .i64 y4.2.2.2.Index]]) rfl rfl) F S rfl rfl ?_; clear F; intro a F
      refine wpList_nil ⟨rfl, F.sz, F.df, _, [], (Le.refl _), ?_, ⟨v6, v7, (lst2 (F.get 44 _ rfl) (F.get 43 _ rfl))⟩⟩
      refine St0.of_eq ?_ (flat3 c [] [] fr).symm
      show St0 _ (fl ([] ++ []) fr) _
      exact S
     ·intro a w gd1 c fr hsz hdf hK ld1 hN hI S
      obtain ⟨v6, v7, e9, lh1, lh2⟩ := hN 9 (by decide)
      have e43x : val a 43 = .tuple #[.agg #[v6], .agg #[v7], .bool y4.2.2.1, .agg #[.int .i64 y4.2.2.2.Code, .int .i64 y4.2.2.2.Index]] := nth e9 0
      obtain ⟨dup1, dup2, e10⟩ := hN 10 (by decide)
      obtain rfl : v6 = dup1 := by have hq := e43x.symm.trans (nth e10 1); simp at hq; first | exact hq | exact hq.1 | exact hq.2 | exact hq.2.1 | exact hq.2.2
      obtain rfl : v7 = dup2 := by have hq := e43x.symm.trans (nth e10 1); simp at hq; first | exact hq | exact hq.1 | exact hq.2 | exact hq.2.1 | exact hq.2.2
      have e33x : val a 33 = .tuple #[.agg #[v6], .agg #[v7], .bool y4.2.2.1, .agg #[.int .i64 y4.2.2.2.Code, .int .i64 y4.2.2.2.Index]] := nth e10 0
      have F : Fr 69 a [(43, .tuple #[.agg #[v6], .agg #[v7], .bool y4.2.2.1, .agg #[.int .i64 y4.2.2.2.Code, .int .i64 y4.2.2.2.Index]]), (33, .tuple #[.agg #[v6], .agg #[v7], .bool y4.2.2.1, .agg #[.int .i64 y4.2.2.2.Code, .int .i64 y4.2.2.2.Index]])] := Fr.of hsz hdf ⟨e43x, e33x, trivial⟩
      replace S : St gd1 [] fr w := S.of_eq (flat2 _ _ _ _)
      refine wl_ev (wn rfl) (ev_extract (vs := [.agg #[v6], .agg #[v7], .bool y4.2.2.1, .agg #[.int .i64 y4.2.2.2.Code, .int .i64 y4.2.2.2.Index]]) rfl rfl) F S rfl rfl ?_; clear F; intro a F
      refine wpList_nil ⟨rfl, F.sz, F.df, _, [], (Le.refl _), ?_, ⟨v7, v6, (lst2 (F.get 45 _ rfl) (F.get 43 _ rfl))⟩⟩
      refine St0.of_eq ?_ (flat3 c [] [] fr).symm
      show St0 _ (fl ([] ++ []) fr) _
      exact S
     ·intro a w gd1 c fr hsz hdf hK ld1 hN hI S
      obtain ⟨v6, v7, e9, lh1, lh2⟩ := hN 9 (by decide)
      have e43x : val a 43 = .tuple #[.agg #[v6], .agg #[v7], .bool y4.2.2.1, .agg #[.int .i64 y4.2.2.2.Code, .int .i64 y4.2.2.2.Index]] := nth e9 0
      obtain ⟨dup1, dup2, e10⟩ := hN 10 (by decide)
      obtain rfl : v6 = dup1 := by have hq := e43x.symm.trans (nth e10 1); simp at hq; first | exact hq | exact hq.1 | exact hq.2 | exact hq.2.1 | exact hq.2.2
      obtain rfl : v7 = dup2 := by have hq := e43x.symm.trans (nth e10 1); simp at hq; first | exact hq | exact hq.1 | exact hq.2 | exact hq.2.1 | exact hq.2.2
      have e33x : val a 33 = .tuple #[.agg #[v6], .agg #[v7], .bool y4.2.2.1, .agg #[.int .i64 y4.2.2.2.Code, .int .i64 y4.2.2.2.Index]] := nth e10 0
      have F : Fr 69 a [(43, .tuple #[.agg #[v6], .agg #[v7], .bool y4.2.2.1, .agg #[.int .i64 y4.2.2.2.Code, .int .i64 y4.2.2.2.Index]]), (33, .tuple #[.agg #[v6], .agg #[v7], .bool y4.2.2.1, .agg #[.int .i64 y4.2.2.2.Code, .int .i64 y4.2.2.2.Index]])] := Fr.of hsz hdf ⟨e43x, e33x, trivial⟩
      replace S : St gd1 [] fr w := S.of_eq (flat2 _ _ _ _)
      refine wl_ev (wn rfl) (ev_extract (vs := [.agg #[v6], .agg #[v7], .bool y4.2.2.1, .agg #[.int .i64 y4.2.2.2.Code, .int .i64 y4.2.2.2.Index]]) rfl rfl) F S rfl rfl ?_; clear F; intro a F
      refine wpList_nil ⟨rfl, F.sz, F.df, _, [], (Le.refl _), ?_, (lst1 (F.get 46 _ rfl))⟩
      refine St0.of_eq ?_ (flat3 c [] [] fr).symm
      show St0 _ (fl ([] ++ []) fr) _
      exact S
     ·intro a w gd1 c fr hsz hdf hK ld1 hN hI S
      obtain ⟨v6, v7, e9, lh1, lh2⟩ := hN 9 (by decide)
      have e43x : val a 43 = .tuple #[.agg #[v6], .agg #[v7], .bool y4.2.2.1, .agg #[.int .i64 y4.2.2.2.Code, .int .i64 y4.2.2.2.Index]] := nth e9 0
      obtain ⟨dup1, dup2, e10⟩ := hN 10 (by decide)
      obtain rfl : v6 = dup1 := by have hq := e43x.symm.trans (nth e10 1); simp at hq; first | exact hq | exact hq.1 | exact hq.2 | exact hq.2.1 | exact hq.2.2
      obtain rfl : v7 = dup2 := by have hq := e43x.symm.trans (nth e10 1); simp at hq; first | exact hq | exact hq.1 | exact hq.2 | exact hq.2.1 | exact hq.2.2
      have e33x : val a 33 = .tuple #[.agg #[v6], .agg #[v7], .bool y4.2.2.1, .agg #[.int .i64 y4.2.2.2.Code, .int .i64 y4.2.2.2.Index]] := nth e10 0
      have F : Fr 69 a [(43, .tuple #[.agg #[v6], .agg #[v7], .bool y4.2.2.1, .agg #[.int .i64 y4.2.2.2.Code, .int .i64 y4.2.2.2.Index]]), (33, .tuple #[.agg #[v6], .agg #[v7], .bool y4.2.2.1, .agg #[.int .i64 y4.2.2.2.Code, .int .i64 y4.2.2.2.Index]])] := Fr.of hsz hdf ⟨e43x, e33x, trivial⟩
      replace S : St gd1 [] fr w := S.of_eq (flat2 _ _ _ _)
      refine wl_ev (wn rfl) (ev_extract (vs := [.agg #[v6], .agg #[v7], .bool y4.2.2.1, .agg #[.int .i64 y4.2.2.2.Code, .int .i64 y4.2.2.2.Index]]) rfl rfl) F S rfl rfl ?_; clear F; intro a F
      refine wpList_nil ⟨rfl, F.sz, F.df, _, [], (Le.refl _), ?_, (lst1 (F.get 47 _ rfl))⟩
      refine St0.of_eq ?_ (flat3 c [] [] fr).symm
      show St0 _ (fl ([] ++ []) fr) _
      exact S
     ·intro a w gd1 c fr hsz hdf hK ld1 hN hI S
      have F : Fr 69 a [] := Fr.of hsz hdf trivial
      replace S : St gd1 [] fr w := S.of_eq (flat2 _ _ _ _)
      refine wl_alloc (wn rfl) rfl tz38 (cs := [nilS]) rfl F S rfl rfl ?_; clear F S; rintro b2 a w F S
      refine wpList_nil ⟨rfl, F.sz, F.df, _, [(b2, .cells #[nilS] 38 (0, 0))], (Le.refl _), ?_, ⟨b2, (lst1 (F.get 13 _ rfl)), rfl⟩⟩
      refine St0.of_eq ?_ (flat3s c ([(b2, .cells #[nilS] 38 (0, 0))]) [] fr).symm
      show St0 _ (fl ([[(b2, .cells #[nilS] 38 (0, 0))]] ++ []) fr) _
      exact S
     ·intro a w gd1 c fr hsz hdf hK ld1 hN hI S
      have F : Fr 69 a [] := Fr.of hsz hdf trivial
      replace S : St gd1 [] fr w := S.of_eq (flat2 _ _ _ _)
      refine wl_alloc (wn rfl) rfl tz38 (cs := [nilS]) rfl F S rfl rfl ?_; clear F S; rintro b3 a w F S
      refine wpList_nil ⟨rfl, F.sz, F.df, _, [(b3, .cells #[nilS] 38 (0, 0))], (Le.refl _), ?_, ⟨b3, (lst1 (F.get 14 _ rfl)), rfl⟩⟩
      refine St0.of_eq ?_ (flat3s c ([(b3, .cells #[nilS] 38 (0, 0))]) [] fr).symm
      show St0 _ (fl ([[(b3, .cells #[nilS] 38 (0, 0))]] ++ []) fr) _
      exact S
     ·intro a w gd1 c fr hsz hdf hK ld1 hN hI S
      have F : Fr 69 a [] := Fr.of hsz hdf trivial
      replace S : St gd1 [] fr w := S.of_eq (flat2 _ _ _ _)
      refine wl_alloc (wn rfl) rfl tz24 (cs := [.int .i64 0, .int .i64 0]) rfl F S rfl rfl ?_; clear F S; rintro b4 a w F S
      refine wpList_nil ⟨rfl, F.sz, F.df, _, [(b4, .cells #[.int .i64 0, .int .i64 0] 24 (0, 0))], (Le.refl _), ?_, ⟨b4, (lst1 (F.get 16 _ rfl)), rfl⟩⟩
      refine St0.of_eq ?_ (flat3s c ([(b4, .cells #[.int .i64 0, .int .i64 0] 24 (0, 0))]) [] fr).symm
      show St0 _ (fl ([[(b4, .cells #[.int .i64 0, .int .i64 0] 24 (0, 0))]] ++ []) fr) _
      exact S
     ·intro a w gd1 c fr hsz hdf hK ld1 hN hI S
      obtain ⟨v6, v7, e9, lh1, lh2⟩ := hN 9 (by decide)
      have e43x : val a 43 = .tuple #[.agg #[v6], .agg #[v7], .bool y4.2.2.1, .agg #[.int .i64 y4.2.2.2.Code, .int .i64 y4.2.2.2.Index]] := nth e9 0
      obtain ⟨dup1, dup2, e11⟩ := hN 11 (by decide)
      obtain rfl : v6 = dup1 := by have hq := e43x.symm.trans (nth e11 1); simp at hq; first | exact hq | exact hq.1 | exact hq.2 | exact hq.2.1 | exact hq.2.2
      obtain rfl : v7 = dup2 := by have hq := e43x.symm.trans (nth e11 1); simp at hq; first | exact hq | exact hq.1 | exact hq.2 | exact hq.2.1 | exact hq.2.2
      have e44x : val a 44 = .agg #[v6] := nth e11 0
      obtain ⟨b2, e15, q15⟩ := hN 15 (by decide)
      have e13x : val a 13 = bp b2 0 := nth e15 0
      have F : Fr 69 a [(43, .tuple #[.agg #[v6], .agg #[v7], .bool y4.2.2.1, .agg #[.int .i64 y4.2.2.2.Code, .int .i64 y4.2.2.2.Index]]), (44, .agg #[v6]), (13, bp b2 0)] := Fr.of hsz hdf ⟨e43x, e44x, e13x, trivial⟩
      replace S : St gd1 [c 15] fr w := S.of_eq (flat2 _ _ _ _)
      rw [q15] at S
      refine wl_storeC (wn rfl) rfl F S rfl rfl (vs := [v6]) rfl ts38 (one_cons lh1.one one_nil) (k := 0) rfl (lb rfl) (c' := #[v6]) rfl rfl ?_; clear S; intro w S
      replace S : St gd1 [[(b2, .cells #[v6] 38 (0, 0))]] fr w := S
      refine wpList_nil ⟨rfl, F.sz, F.df, _, [(b2, .cells #[v6] 38 (0, 0))], (Le.refl _), ?_, ⟨v6, b2, v7, (lst2 (F.get 43 _ rfl) (F.get 13 _ rfl)), rfl⟩⟩
      refine St0.of_eq ?_ (flat3s c ([(b2, .cells #[v6] 38 (0, 0))]) [] fr).symm
      show St0 _ (fl ([[(b2, .cells #[v6] 38 (0, 0))]] ++ []) fr) _
      exact S
     ·intro a w gd1 c fr hsz hdf hK ld1 hN hI S
      obtain ⟨v6, v7, e9, lh1, lh2⟩ := hN 9 (by decide)
      have e43x : val a 43 = .tuple #[.agg #[v6], .agg #[v7], .bool y4.2.2.1, .agg #[.int .i64 y4.2.2.2.Code, .int .i64 y4.2.2.2.Index]] := nth e9 0
      obtain ⟨dup1, dup2, e12⟩ := hN 12 (by decide)
      obtain rfl : v7 = dup1 := by have hq := e43x.symm.trans (nth e12 1); simp at hq; first | exact hq | exact hq.1 | exact hq.2 | exact hq.2.1 | exact hq.2.2
      obtain rfl : v6 = dup2 := by have hq := e43x.symm.trans (nth e12 1); simp at hq; first | exact hq | exact hq.1 | exact hq.2 | exact hq.2.1 | exact hq.2.2
      have e45x : val a 45 = .agg #[v7] := nth e12 0
      obtain ⟨b3, e16, q16⟩ := hN 16 (by decide)
      have e14x : val a 14 = bp b3 0 := nth e16 0
      have F : Fr 69 a [(43, .tuple #[.agg #[v6], .agg #[v7], .bool y4.2.2.1, .agg #[.int .i64 y4.2.2.2.Code, .int .i64 y4.2.2.2.Index]]), (45, .agg #[v7]), (14, bp b3 0)] := Fr.of hsz hdf ⟨e43x, e45x, e14x, trivial⟩
      replace S : St gd1 [c 16] fr w := S.of_eq (flat2 _ _ _ _)
      rw [q16] at S
      refine wl_storeC (wn rfl) rfl F S rfl rfl (vs := [v7]) rfl ts38 (one_cons lh2.one one_nil) (k := 0) rfl (lb rfl) (c' := #[v7]) rfl rfl ?_; clear S; intro w S
      replace S : St gd1 [[(b3, .cells #[v7] 38 (0, 0))]] fr w := S
      refine wpList_nil ⟨rfl, F.sz, F.df, _, [(b3, .cells #[v7] 38 (0, 0))], (Le.refl _), ?_, ⟨v7, b3, v6, (lst2 (F.get 43 _ rfl) (F.get 14 _ rfl)), rfl⟩⟩
      refine St0.of_eq ?_ (flat3s c ([(b3, .cells #[v7] 38 (0, 0))]) [] fr).symm
      show St0 _ (fl ([[(b3, .cells #[v7] 38 (0, 0))]] ++ []) fr) _
      exact S
     ·intro a w gd1 c fr hsz hdf hK ld1 hN hI S
      have e13 := hN 13 (by decide)
      have e46x : val a 46 = .bool y4.2.2.1 := nth e13 0
      have F : Fr 69 a [(46, .bool y4.2.2.1)] := Fr.of hsz hdf ⟨e46x, trivial⟩
      replace S : St gd1 [] fr w := S.of_eq (flat2 _ _ _ _)
      refine wl_ev (wn rfl) (ev_assign rfl) F S rfl rfl ?_; clear F; intro a F
      refine wpList_nil ⟨rfl, F.sz, F.df, _, [], (Le.refl _), ?_, (lst1 (F.get 15 _ rfl))⟩
      refine St0.of_eq ?_ (flat3 c [] [] fr).symm
      show St0 _ (fl ([] ++ []) fr) _
      exact S
     ·intro a w gd1 c fr hsz hdf hK ld1 hN hI S
      have e14 := hN 14 (by decide)
      have e47x : val a 47 = .agg #[.int .i64 y4.2.2.2.Code, .int .i64 y4.2.2.2.Index] := nth e14 0
      obtain ⟨b4, e17, q17⟩ := hN 17 (by decide)
      have e16x : val a 16 = bp b4 0 := nth e17 0
      have F : Fr 69 a [(47, .agg #[.int .i64 y4.2.2.2.Code, .int .i64 y4.2.2.2.Index]), (16, bp b4 0)] := Fr.of hsz hdf ⟨e47x, e16x, trivial⟩
      replace S : St gd1 [c 17] fr w := S.of_eq (flat2 _ _ _ _)
      rw [q17] at S
      refine wl_storeC (wn rfl) rfl F S rfl rfl (vs := [.int .i64 y4.2.2.2.Code, .int .i64 y4.2.2.2.Index]) rfl ts24 (one_cons rfl (one_cons rfl one_nil)) (k := 0) rfl (lb rfl) (c' := #[.int .i64 y4.2.2.2.Code, .int .i64 y4.2.2.2.Index]) rfl rfl ?_; clear S; intro w S
      replace S : St gd1 [[(b4, .cells #[.int .i64 y4.2.2.2.Code, .int .i64 y4.2.2.2.Index] 24 (0, 0))]] fr w := S
      refine wpList_nil ⟨rfl, F.sz, F.df, _, [(b4, .cells #[.int .i64 y4.2.2.2.Code, .int .i64 y4.2.2.2.Index] 24 (0, 0))], (Le.refl _), ?_, ⟨b4, (lst1 (F.get 16 _ rfl)), rfl⟩⟩
      refine St0.of_eq ?_ (flat3s c ([(b4, .cells #[.int .i64 y4.2.2.2.Code, .int .i64 y4.2.2.2.Index] 24 (0, 0))]) [] fr).symm
      show St0 _ (fl ([[(b4, .cells #[.int .i64 y4.2.2.2.Code, .int .i64 y4.2.2.2.Index] 24 (0, 0))]] ++ []) fr) _
      exact S
     clear F S; intro a w gd1 c hsz hdf hK ld1 hI S hN
     obtain ⟨v6, v7, e9, lh1, lh2⟩ := hN 9 (by decide)
     have e43x : val a 43 = .tuple #[.agg #[v6], .agg #[v7], .bool y4.2.2.1, .agg #[.int .i64 y4.2.2.2.Code, .int .i64 y4.2.2.2.Index]] := nth e9 0
     obtain ⟨b2, e15, q15⟩ := hN 15 (by decide)
     have e13x : val a 13 = bp b2 0 := nth e15 0
     obtain ⟨b3, e16, q16⟩ := hN 16 (by decide)
     have e14x : val a 14 = bp b3 0 := nth e16 0
     obtain ⟨b4, e17, q17⟩ := hN 17 (by decide)
     have e16x : val a 16 = bp b4 0 := nth e17 0
     obtain ⟨dup1, dup2, dup3, e18, q18⟩ := hN 18 (by decide)
     obtain rfl : v6 = dup1 := by have hq := e43x.symm.trans (nth e18 0); simp at hq; first | exact hq | exact hq.1 | exact hq.2 | exact hq.2.1 | exact hq.2.2
     obtain rfl : b2 = dup2 := by have hq := e13x.symm.trans (nth e18 1); simp at hq; first | exact hq | exact hq.1 | exact hq.2 | exact hq.2.1 | exact hq.2.2
     obtain rfl : v7 = dup3 := by have hq := e43x.symm.trans (nth e18 0); simp at hq; first | exact hq | exact hq.1 | exact hq.2 | exact hq.2.1 | exact hq.2.2
     obtain ⟨dup4, dup5, dup6, e19, q19⟩ := hN 19 (by decide)
     obtain rfl : v7 = dup4 := by have hq := e43x.symm.trans (nth e19 0); simp at hq; first | exact hq | exact hq.1 | exact hq.2 | exact hq.2.1 | exact hq.2.2
     obtain rfl : b3 = dup5 := by have hq := e14x.symm.trans (nth e19 1); simp at hq; first | exact hq | exact hq.1 | exact hq.2 | exact hq.2.1 | exact hq.2.2
     obtain rfl : v6 = dup6 := by have hq := e43x.symm.trans (nth e19 0); simp at hq; first | exact hq | exact hq.1 | exact hq.2 | exact hq.2.1 | exact hq.2.2
     have e20 := hN 20 (by decide)
     have e15x : val a 15 = .bool y4.2.2.1 := nth e20 0
     obtain ⟨dup7, e21, q21⟩ := hN 21 (by decide)
     obtain rfl : b4 = dup7 := by have hq := e16x.symm.trans (nth e21 0); simp at hq; first | exact hq | exact hq.1 | exact hq.2 | exact hq.2.1 | exact hq.2.2
     have F : Fr 69 a [(12, .int .i64 x5), (11, .int .i64 x6), (9, v3), (8, bp b1 0), (2, .int .i64 to), (13, bp b2 0), (14, bp b3 0), (16, bp b4 0), (15, .bool y4.2.2.1)] := Fr.of hsz hdf ⟨hK 12 (by decide) _ rfl, hK 11 (by decide) _ rfl, hK 9 (by decide) _ rfl, hK 8 (by decide) _ rfl, hK 2 (by decide) _ rfl, e13x, e14x, e16x, e15x, trivial⟩
     replace S : St gd1 [c 0, c 1, c 2, c 3, c 4, c 5, c 6, c 7, c 8, c 9, c 10, c 11, c 12, c 13, c 14, c 18, c 19, c 20, c 21, c 22, c 23] fr w := S.of_eq (flat_fl _ _ _)
     rw [q18] at S
     rw [q19] at S
     rw [q21] at S
     have q22 : c 22 = c3 := hI 0 _ rfl
     rw [q22] at S
     have q23 : c 23 = [(b1, .cells #[.int .i64 0, .int .i64 0] 24 (0, 0))] := hI 1 _ rfl
     rw [q23] at S
     replace S : St gd1 [[(b2, .cells #[v6] 38 (0, 0))], [(b3, .cells #[v7] 38 (0, 0))], [(b4, .cells #[.int .i64 y4.2.2.2.Code, .int .i64 y4.2.2.2.Index] 24 (0, 0))], c3, [(b1, .cells #[.int .i64 0, .int .i64 0] 24 (0, 0))]] fr w := St.tail [[(b2, .cells #[v6] 38 (0, 0))], [(b3, .cells #[v7] 38 (0, 0))], [(b4, .cells #[.int .i64 y4.2.2.2.Code, .int .i64 y4.2.2.2.Index] 24 (0, 0))], c3, [(b1, .cells #[.int .i64 0, .int .i64 0] 24 (0, 0))]] _ (((((S.frontC 20 rfl).frontC 20 rfl).frontC 20 rfl).frontC 19 rfl).frontC 19 rfl)
     clear hK hI hN hsz hdf e9 e15 e16 e17 e18 e19 e20 e21 e43x e13x e14x e16x e15x
     refine then_n ?_
     refine wp_seq ?_
     refine wp_seq ?_
     refine wp_region_lit ?_
     refine wl_ev (wn rfl) (ev_loadA tu24 rfl (cs := [.int .i64 y4.2.2.2.Code, .int .i64 y4.2.2.2.Index]) ts24 rfl (box_ptr (cells := [.int .i64 y4.2.2.2.Code, .int .i64 y4.2.2.2.Index]) 2 rfl 0 rfl (lb rfl))) F S rfl rfl ?_; clear F a; intro a F
     refine wl_ev (wn rfl) (ev_build (parts := []) (vs := []) rfl (fun w => tb24_  w)) F S rfl rfl ?_; clear F a; intro a F
     refine wl_ev (wn rfl) (ev_neS tu24 tqa24 tqb24 tqc24 (xs := [.int .i64 y4.2.2.2.Code, .int .i64 y4.2.2.2.Index]) (ys := [.int .i64 0, .int .i64 0]) rfl rfl ⟨_, _, rfl, by decide, ⟨_, _, rfl, rfl, leaf_int tu3⟩, ⟨_, _, rfl, by decide, ⟨_, _, rfl, rfl, leaf_int tu3⟩, rfl⟩⟩) F S rfl rfl ?_; clear F a; intro a F
     refine wpList_nil ?_
     replace F := F.sub (e' := [(50, .bool (!(decide (y4.2.2.2.Code = 0) && decide (y4.2.2.2.Index = 0)))), (12, .int .i64 x5), (11, .int .i64 x6), (9, v3), (8, bp b1 0), (2, .int .i64 to), (13, bp b2 0), (14, bp b3 0), (16, bp b4 0), (15, .bool y4.2.2.1)]) ⟨rfl, rfl, rfl, rfl, rfl, rfl, rfl, rfl, rfl, rfl, trivial⟩
     refine then_n ?_
     obtain ⟨hc2, hm⟩ | ⟨hc2, hm⟩ := ite_or hm
     ·refine wp_condT F rfl hc2 ?_
      refine wp_seq ?_
      refine wp_drawL ⟨5, [[51], [52], [53], [6], [7], []], [[], [], [], [], [], [10]], [[], [8], [], [], [], []], [[16], [], [], [], [], [8]], [[], [0], [1], [], [], [2]], [8], [0, 1, 2, 3, 4, 5, 6, 7, 8, 9]⟩
       [([51], fun us g c => us = [bp b4 0]),
        ([52], fun us g c => us = [.int .i64 y4.2.2.2.Code]),
        ([53], fun us g c => us = [.agg #[.int .i64 y4.2.2.2.Code, .int .i64 (-1)]]),
        ([6], fun us g c => us = [nilS]),
        ([7], fun us g c => us = [.bool false]),
        ([], fun us g c => us = [] ∧ c = [(b1, .cells #[.int .i64 y4.2.2.2.Code, .int .i64 (-1)] 24 (0, 0))])]
       mo (by kernel_rfl) rfl rfl ⟨fun _ _ _ _ _ h => h, fun _ _ _ _ _ h => h, fun _ _ _ _ _ h => h, fun _ _ _ _ _ h => h, fun _ _ _ _ _ h => h, fun _ _ _ _ _ h => h, trivial⟩ F S ⟨?_, ?_, ?_, ?_, ?_, ?_, trivial⟩ ?_
      ·intro a w gd6 c fr hsz hdf hK ld6 hN hI S
       have F : Fr 69 a [(16, bp b4 0)] := Fr.of hsz hdf ⟨hK 16 (by decide) _ rfl, trivial⟩
       replace S : St gd6 [] fr w := S.of_eq (flat2 _ _ _ _)
       refine wl_ev (wn rfl) (ev_fieldAddr' tu24 tf24_0 (z := 0) ts3 rfl ⟨_, rfl⟩ rfl) F S rfl rfl ?_; clear F; intro a F
       refine wpList_nil ⟨rfl, F.sz, F.df, _, [], (Le.refl _), ?_, (lst1 (F.get 51 _ rfl))⟩
       refine St0.of_eq ?_ (flat3 c [] [] fr).symm
       show St0 _ (fl ([] ++ []) fr) _
       exact S
      ·intro a w gd6 c fr hsz hdf hK ld6 hN hI S
       have e0 := hN 0 (by decide)
       have e51x : val a 51 = bp b4 0 := nth e0 0
       have F : Fr 69 a [(51, bp b4 0)] := Fr.of hsz hdf ⟨e51x, trivial⟩
       replace S : St gd6 [c 8] fr w := S.of_eq (flat2 _ _ _ _)
       have q8 : c 8 = [(b4, .cells #[.int .i64 y4.2.2.2.Code, .int .i64 y4.2.2.2.Index] 24 (0, 0))] := hI 2 _ rfl
       rw [q8] at S
       refine wl_ev (wn rfl) (ev_load1 tu3 rfl rfl (box_ptr (cells := [.int .i64 y4.2.2.2.Code]) 0 rfl 0 rfl (lb rfl))) F S rfl rfl ?_; clear F; intro a F
       refine wpList_nil ⟨rfl, F.sz, F.df, _, [], (Le.refl _), ?_, (lst1 (F.get 52 _ rfl))⟩
       refine St0.of_eq ?_ (flat3 c [] [8] fr).symm
       show St0 _ (fl ([] ++ [c 8]) fr) _
       rw [q8]
       exact S
      ·intro a w gd6 c fr hsz hdf hK ld6 hN hI S
       have e1 := hN 1 (by decide)
       have e52x : val a 52 = .int .i64 y4.2.2.2.Code := nth e1 0
       have F : Fr 69 a [(52, .int .i64 y4.2.2.2.Code)] := Fr.of hsz hdf ⟨e52x, trivial⟩
       replace S : St gd6 [] fr w := S.of_eq (flat2 _ _ _ _)
       refine wl_ev (wn rfl) (ev_build (parts := [(0, .tmp 52), (1, .const (.int .i64 (-1)))]) (vs := [(0, .int .i64 y4.2.2.2.Code), (1, .int .i64 (-1))]) rfl (fun w => tb24_0_1 y4.2.2.2.Code (-1) w)) F S rfl rfl ?_; clear F; intro a F
       refine wpList_nil ⟨rfl, F.sz, F.df, _, [], (Le.refl _), ?_, (lst1 (F.get 53 _ rfl))⟩
       refine St0.of_eq ?_ (flat3 c [] [] fr).symm
       show St0 _ (fl ([] ++ []) fr) _
       exact S
      ·intro a w gd6 c fr hsz hdf hK ld6 hN hI S
       have F : Fr 69 a [] := Fr.of hsz hdf trivial
       replace S : St gd6 [] fr w := S.of_eq (flat2 _ _ _ _)
       refine wl_ev (wn rfl) (ev_assign rfl) F S rfl rfl ?_; clear F; intro a F
       refine wpList_nil ⟨rfl, F.sz, F.df, _, [], (Le.refl _), ?_, (lst1 (F.get 6 _ rfl))⟩
       refine St0.of_eq ?_ (flat3 c [] [] fr).symm
       show St0 _ (fl ([] ++ []) fr) _
       exact S
      ·intro a w gd6 c fr hsz hdf hK ld6 hN hI S
       have F : Fr 69 a [] := Fr.of hsz hdf trivial
       replace S : St gd6 [] fr w := S.of_eq (flat2 _ _ _ _)
       refine wl_ev (wn rfl) (ev_assign rfl) F S rfl rfl ?_; clear F; intro a F
       refine wpList_nil ⟨rfl, F.sz, F.df, _, [], (Le.refl _), ?_, (lst1 (F.get 7 _ rfl))⟩
       refine St0.of_eq ?_ (flat3 c [] [] fr).symm
       show St0 _ (fl ([] ++ []) fr) _
       exact S
      ·intro a w gd6 c fr hsz hdf hK ld6 hN hI S
       have e2 := hN 2 (by decide)
       have e53x : val a 53 = .agg #[.int .i64 y4.2.2.2.Code, .int .i64 (-1)] := nth e2 0
       have F : Fr 69 a [(8, bp b1 0), (53, .agg #[.int .i64 y4.2.2.2.Code, .int .i64 (-1)])] := Fr.of hsz hdf ⟨hK 8 (by decide) _ rfl, e53x, trivial⟩
       replace S : St gd6 [c 10] fr w := S.of_eq (flat2 _ _ _ _)
       have q10 : c 10 = [(b1, .cells #[.int .i64 0, .int .i64 0] 24 (0, 0))] := hI 4 _ rfl
       rw [q10] at S
       refine wl_storeC (wn rfl) rfl F S rfl rfl (vs := [.int .i64 y4.2.2.2.Code, .int .i64 (-1)]) rfl ts24 (one_cons rfl (one_cons rfl one_nil)) (k := 0) rfl (lb rfl) (c' := #[.int .i64 y4.2.2.2.Code, .int .i64 (-1)]) rfl rfl ?_; clear S; intro w S
       replace S : St gd6 [[(b1, .cells #[.int .i64 y4.2.2.2.Code, .int .i64 (-1)] 24 (0, 0))]] fr w := S
       refine wpList_nil ⟨rfl, F.sz, F.df, _, [(b1, .cells #[.int .i64 y4.2.2.2.Code, .int .i64 (-1)] 24 (0, 0))], (Le.refl _), ?_, ⟨rfl, rfl⟩⟩
       refine St0.of_eq ?_ (flat3s c ([(b1, .cells #[.int .i64 y4.2.2.2.Code, .int .i64 (-1)] 24 (0, 0))]) [] fr).symm
       show St0 _ (fl ([[(b1, .cells #[.int .i64 y4.2.2.2.Code, .int .i64 (-1)] 24 (0, 0))]] ++ []) fr) _
       exact S
      clear F S; intro a w gd6 c hsz hdf hK ld6 hI S hN
      have e3 := hN 3 (by decide)
      have e6x : val a 6 = nilS := nth e3 0
      have e4 := hN 4 (by decide)
      have e7x : val a 7 = .bool false := nth e4 0
      obtain ⟨e5, q5⟩ := hN 5 (by decide)
      have F : Fr 69 a [(8, bp b1 0), (6, nilS), (7, .bool false)] := Fr.of hsz hdf ⟨hK 8 (by decide) _ rfl, e6x, e7x, trivial⟩
      replace S : St gd6 [c 0, c 1, c 2, c 3, c 4, c 5, c 6, c 7, c 8, c 9] fr w := S.of_eq (flat_fl _ _ _)
      rw [q5] at S
      have q6 : c 6 = [(b2, .cells #[v6] 38 (0, 0))] := hI 0 _ rfl
      rw [q6] at S
      have q7 : c 7 = [(b3, .cells #[v7] 38 (0, 0))] := hI 1 _ rfl
      rw [q7] at S
      have q8 : c 8 = [(b4, .cells #[.int .i64 y4.2.2.2.Code, .int .i64 y4.2.2.2.Index] 24 (0, 0))] := hI 2 _ rfl
      rw [q8] at S
      have q9 : c 9 = c3 := hI 3 _ rfl
      rw [q9] at S
      replace S : St gd6 [[(b1, .cells #[.int .i64 y4.2.2.2.Code, .int .i64 (-1)] 24 (0, 0))]] fr w := St.tail [[(b1, .cells #[.int .i64 y4.2.2.2.Code, .int .i64 (-1)] 24 (0, 0))]] _ (S.frontC 5 rfl)
      clear hK hI hN hsz hdf e3 e4 e5 e6x e7x
      refine then_n ?_
      refine wp_ret ?_
      refine then_r ?_
      refine inb_r ?_
      refine then_r ?_
      refine inb_r ?_
      refine then_r ?_
      obtain rfl := sinj hm
      obtain rfl := hfin1 _ rfl
      clear hm
      have hm : (some ([], false, ({ Code := y4.2.2.2.Code, Index := (-1) } : Fault)) : Option ((List Patch) × Bool × Fault)) = some _ := hmo1
      obtain rfl := sinj hm
      replace S : St gd6 [[], [(b1, .cells #[.int .i64 y4.2.2.2.Code, .int .i64 (-1)] 24 (0, 0))]] fr w := S
      refine post_r (fn := Try.f24) (rs := [.tmp 6, .tmp 7, .cell 8 24]) [nilS, .bool false, .agg #[.int .i64 y4.2.2.2.Code, .int .i64 (-1)]] F rfl (ar_cons (resT rfl) (ar_cons (resT rfl) (ar_cons (resA rfl tu24 rfl ts24 (box_ptr (cells := [.int .i64 y4.2.2.2.Code, .int .i64 (-1)]) 1 rfl 0 rfl (lb rfl) w S)) ar_nil))) ?_
      replace S : St gd6 [[]] fr w := St.tail [[]] _ (S.frontC 0 rfl)
      exact ⟨_, rfl, gd6, (nilS), [], ((((l1.trans l3).trans l4).trans ld1).trans ld6), S, (OwnS.nil _), rfl⟩
     ·refine wp_condF F rfl hc2 ?_
      refine wp_skip ?_
      refine then_n ?_
      refine wp_seq ?_
      refine wp_seq ?_
      refine wp_region_lit ?_
      refine wl_ev (wn rfl) (ev_move rfl) F S rfl rfl ?_; clear F a; intro a F
      refine wl_ev (wn rfl) (ev_not rfl) F S rfl rfl ?_; clear F a; intro a F
      refine wpList_nil ?_
      replace F := F.sub (e' := [(55, .bool !y4.2.2.1), (12, .int .i64 x5), (11, .int .i64 x6), (9, v3), (8, bp b1 0), (2, .int .i64 to), (13, bp b2 0), (14, bp b3 0)]) ⟨rfl, rfl, rfl, rfl, rfl, rfl, rfl, rfl, trivial⟩
      refine then_n ?_
      obtain ⟨hc3, hm⟩ | ⟨hc3, hm⟩ := ite_or hm
      ·refine wp_condT F rfl hc3 ?_
       refine wp_seq ?_
       refine wp_region_lit ?_
       refine wl_ev (wn rfl) (ev_build (parts := []) (vs := []) rfl (fun w => tb24_  w)) F S rfl rfl ?_; clear F a; intro a F
       refine wl_ev (wn rfl) (ev_assign rfl) F S rfl rfl ?_; clear F a; intro a F
       refine wl_ev (wn rfl) (ev_assign rfl) F S rfl rfl ?_; clear F a; intro a F
       refine wl_storeC (wn rfl) rfl F S rfl rfl (vs := [.int .i64 0, .int .i64 0]) rfl ts24 (one_cons rfl (one_cons rfl one_nil)) (k := 4) rfl (lb rfl) (c' := #[.int .i64 0, .int .i64 0]) rfl rfl ?_; clear S; intro w S
       replace S : St gd1 [[(b2, .cells #[v6] 38 (0, 0))], [(b3, .cells #[v7] 38 (0, 0))], [(b4, .cells #[.int .i64 y4.2.2.2.Code, .int .i64 y4.2.2.2.Index] 24 (0, 0))], c3, [(b1, .cells #[.int .i64 0, .int .i64 0] 24 (0, 0))]] fr w := S
       refine wpList_nil ?_
       replace F := F.sub (e' := [(7, .bool false), (6, nilS), (8, bp b1 0)]) ⟨rfl, rfl, rfl, trivial⟩
       refine then_n ?_
       refine wp_ret ?_
       refine then_r ?_
       refine inb_r ?_
       refine then_r ?_
       refine inb_r ?_
       refine then_r ?_
       obtain rfl := sinj hm
       obtain rfl := hfin1 _ rfl
       clear hm
       have hm : (some ([], false, ({ Code := 0, Index := 0 } : Fault)) : Option ((List Patch) × Bool × Fault)) = some _ := hmo1
       obtain rfl := sinj hm
       replace S : St gd1 [[], [(b2, .cells #[v6] 38 (0, 0))], [(b3, .cells #[v7] 38 (0, 0))], [(b4, .cells #[.int .i64 y4.2.2.2.Code, .int .i64 y4.2.2.2.Index] 24 (0, 0))], c3, [(b1, .cells #[.int .i64 0, .int .i64 0] 24 (0, 0))]] fr w := S
       refine post_r (fn := Try.f24) (rs := [.tmp 6, .tmp 7, .cell 8 24]) [nilS, .bool false, .agg #[.int .i64 0, .int .i64 0]] F rfl (ar_cons (resT rfl) (ar_cons (resT rfl) (ar_cons (resA rfl tu24 rfl ts24 (box_ptr (cells := [.int .i64 0, .int .i64 0]) 5 rfl 0 rfl (lb rfl) w S)) ar_nil))) ?_
       replace S : St gd1 [[]] fr w := St.tail [[]] _ (S.frontC 0 rfl)
       exact ⟨_, rfl, gd1, (nilS), [], (((l1.trans l3).trans l4).trans ld1), S, (OwnS.nil _), rfl⟩
      ·refine wp_condF F rfl hc3 ?_
       refine wp_skip ?_
       refine then_n ?_
       obtain ⟨z3, hz3, hm⟩ := bind_some hm
       obtain ⟨y5, hy5, hm⟩ := bind_some hm
       obtain ⟨y6, hy6, hm⟩ := bind_some hm
       obtain ⟨y7, hy7, hm⟩ := bind_some hm
       obtain ⟨y8, hy8, hm⟩ := bind_some hm
       refine wp_drawL ⟨5, [[57], [58], [59], [60], [61], [62], [63], [64], [65], [], [66], [], [10]], [[], [], [], [], [], [], [], [], [], [16], [], [9], []], [[], [], [], [], [], [13], [14], [], [], [], [], [], []], [[9], [11], [9], [11], [], [13], [14], [12], [], [], [], [], []], [[], [], [], [], [3], [], [], [], [0, 1], [5, 8], [2, 4], [6, 9, 10], [7]], [9, 8, 2], [0, 1, 2, 3, 4, 5, 6, 7, 8, 10, 11, 12, 13, 14, 15, 17]⟩
        [([57], fun us g c => us = [v3]),
         ([58], fun us g c => us = [.int .i64 x6]),
         ([59], fun us g c => us = [v3]),
         ([60], fun us g c => us = [.int .i64 x6]),
         ([61], fun us g c => us = [.int .i64 z3]),
         ([62], fun us g c => us = [.agg #[v6]]),
         ([63], fun us g c => us = [.agg #[v7]]),
         ([64], fun us g c => us = [.int .i64 x5]),
         ([65], fun us g c => us = [elemP v3 x6 1]),
         ([], fun us g c => us = [] ∧ OwnS g y6 v3 c),
         ([66], fun us g c => us = [elemP v3 z3 1]),
         ([], fun us g c => us = [] ∧ OwnS g y8 v3 c),
         ([10], fun us g c => us = [.int .i64 x5])]
        mo (by kernel_rfl) rfl rfl ⟨fun _ _ _ _ _ h => h, fun _ _ _ _ _ h => h, fun _ _ _ _ _ h => h, fun _ _ _ _ _ h => h, fun _ _ _ _ _ h => h, fun _ _ _ _ _ h => h, fun _ _ _ _ _ h => h, fun _ _ _ _ _ h => h, fun _ _ _ _ _ h => h, fun _ _ _ _ l ⟨e0, h0⟩ => ⟨e0, h0.mono l⟩, fun _ _ _ _ _ h => h, fun _ _ _ _ l ⟨e0, h0⟩ => ⟨e0, h0.mono l⟩, fun _ _ _ _ _ h => h, trivial⟩ F S ⟨?_, ?_, ?_, ?_, ?_, ?_, ?_, ?_, ?_, ?_, ?_, ?_, ?_, trivial⟩ ?_
       ·intro a w gd11 c fr hsz hdf hK ld11 hN hI S
        have F : Fr 69 a [(9, v3)] := Fr.of hsz hdf ⟨hK 9 (by decide) _ rfl, trivial⟩
        replace S : St gd11 [] fr w := S.of_eq (flat2 _ _ _ _)
        refine wl_ev (wn rfl) (ev_move rfl) F S rfl rfl ?_; clear F; intro a F
        refine wpList_nil ⟨rfl, F.sz, F.df, _, [], (Le.refl _), ?_, (lst1 (F.get 57 _ rfl))⟩
        refine St0.of_eq ?_ (flat3 c [] [] fr).symm
        show St0 _ (fl ([] ++ []) fr) _
        exact S
       ·intro a w gd11 c fr hsz hdf hK ld11 hN hI S
        have F : Fr 69 a [(11, .int .i64 x6)] := Fr.of hsz hdf ⟨hK 11 (by decide) _ rfl, trivial⟩
        replace S : St gd11 [] fr w := S.of_eq (flat2 _ _ _ _)
        refine wl_ev (wn rfl) (ev_move rfl) F S rfl rfl ?_; clear F; intro a F
        refine wpList_nil ⟨rfl, F.sz, F.df, _, [], (Le.refl _), ?_, (lst1 (F.get 58 _ rfl))⟩
        refine St0.of_eq ?_ (flat3 c [] [] fr).symm
        show St0 _ (fl ([] ++ []) fr) _
        exact S
       ·intro a w gd11 c fr hsz hdf hK ld11 hN hI S
        have F : Fr 69 a [(9, v3)] := Fr.of hsz hdf ⟨hK 9 (by decide) _ rfl, trivial⟩
        replace S : St gd11 [] fr w := S.of_eq (flat2 _ _ _ _)
        refine wl_ev (wn rfl) (ev_move rfl) F S rfl rfl ?_; clear F; intro a F
        refine wpList_nil ⟨rfl, F.sz, F.df, _, [], (Le.refl _), ?_, (lst1 (F.get 59 _ rfl))⟩
        refine St0.of_eq ?_ (flat3 c [] [] fr).symm
        show St0 _ (fl ([] ++ []) fr) _
        exact S
       ·intro a w gd11 c fr hsz hdf hK ld11 hN hI S
        have F : Fr 69 a [(11, .int .i64 x6)] := Fr.of hsz hdf ⟨hK 11 (by decide) _ rfl, trivial⟩
        replace S : St gd11 [] fr w := S.of_eq (flat2 _ _ _ _)
        refine wl_ev (wn rfl) (ev_move rfl) F S rfl rfl ?_; clear F; intro a F
        refine wpList_nil ⟨rfl, F.sz, F.df, _, [], (Le.refl _), ?_, (lst1 (F.get 60 _ rfl))⟩
        refine St0.of_eq ?_ (flat3 c [] [] fr).symm
        show St0 _ (fl ([] ++ []) fr) _
        exact S
       ·intro a w gd11 c fr hsz hdf hK ld11 hN hI S
        have e3 := hN 3 (by decide)
        have e60x : val a 60 = .int .i64 x6 := nth e3 0
        have F : Fr 69 a [(60, .int .i64 x6)] := Fr.of hsz hdf ⟨e60x, trivial⟩
        replace S : St gd11 [] fr w := S.of_eq (flat2 _ _ _ _)
        refine wl_ev (wn rfl) (ev_int rfl rfl (bo_add hz3)) F S rfl rfl ?_; clear F; intro a F
        refine wpList_nil ⟨rfl, F.sz, F.df, _, [], (Le.refl _), ?_, (lst1 (F.get 61 _ rfl))⟩
        refine St0.of_eq ?_ (flat3 c [] [] fr).symm
        show St0 _ (fl ([] ++ []) fr) _
        exact S
       ·intro a w gd11 c fr hsz hdf hK ld11 hN hI S
        have F : Fr 69 a [(13, bp b2 0)] := Fr.of hsz hdf ⟨hK 13 (by decide) _ rfl, trivial⟩
        replace S : St gd11 [c 13] fr w := S.of_eq (flat2 _ _ _ _)
        have q13 : c 13 = [(b2, .cells #[v6] 38 (0, 0))] := hI 0 _ rfl
        rw [q13] at S
        refine wl_ev (wn rfl) (ev_loadA tu38 rfl (cs := [v6]) ts38 rfl (box_ptr (cells := [v6]) 0 rfl 0 rfl (lb rfl))) F S rfl rfl ?_; clear F; intro a F
        refine wpList_nil ⟨rfl, F.sz, F.df, _, [], (Le.refl _), ?_, (lst1 (F.get 62 _ rfl))⟩
        refine St0.of_eq ?_ (flat3 c [] [13] fr).symm
        show St0 _ (fl ([] ++ [c 13]) fr) _
        rw [q13]
        exact S
       ·intro a w gd11 c fr hsz hdf hK ld11 hN hI S
        have F : Fr 69 a [(14, bp b3 0)] := Fr.of hsz hdf ⟨hK 14 (by decide) _ rfl, trivial⟩
        replace S : St gd11 [c 14] fr w := S.of_eq (flat2 _ _ _ _)
        have q14 : c 14 = [(b3, .cells #[v7] 38 (0, 0))] := hI 1 _ rfl
        rw [q14] at S
        refine wl_ev (wn rfl) (ev_loadA tu38 rfl (cs := [v7]) ts38 rfl (box_ptr (cells := [v7]) 0 rfl 0 rfl (lb rfl))) F S rfl rfl ?_; clear F; intro a F
        refine wpList_nil ⟨rfl, F.sz, F.df, _, [], (Le.refl _), ?_, (lst1 (F.get 63 _ rfl))⟩
        refine St0.of_eq ?_ (flat3 c [] [14] fr).symm
        show St0 _ (fl ([] ++ [c 14]) fr) _
        rw [q14]
        exact S
       ·intro a w gd11 c fr hsz hdf hK ld11 hN hI S
        have F : Fr 69 a [(12, .int .i64 x5)] := Fr.of hsz hdf ⟨hK 12 (by decide) _ rfl, trivial⟩
        replace S : St gd11 [] fr w := S.of_eq (flat2 _ _ _ _)
        refine wl_ev (wn rfl) (ev_move rfl) F S rfl rfl ?_; clear F; intro a F
        refine wpList_nil ⟨rfl, F.sz, F.df, _, [], (Le.refl _), ?_, (lst1 (F.get 64 _ rfl))⟩
        refine St0.of_eq ?_ (flat3 c [] [] fr).symm
        show St0 _ (fl ([] ++ []) fr) _
        exact S
       ·intro a w gd11 c fr hsz hdf hK ld11 hN hI S
        have e0 := hN 0 (by decide)
        have e57x : val a 57 = v3 := nth e0 0
        have e1 := hN 1 (by decide)
        have e58x : val a 58 = .int .i64 x6 := nth e1 0
        have F : Fr 69 a [(57, v3), (58, .int .i64 x6)] := Fr.of hsz hdf ⟨e57x, e58x, trivial⟩
        replace S : St gd11 [] fr w := S.of_eq (flat2 _ _ _ _)
        refine wl_ev (wn rfl) (ev_idxO (h3.mono ((l4.trans ld1).trans ld11)) hy5 tu22 ts38 rfl rfl) F S rfl rfl ?_; clear F; intro a F
        refine wpList_nil ⟨rfl, F.sz, F.df, _, [], (Le.refl _), ?_, (lst1 (F.get 65 _ rfl))⟩
        refine St0.of_eq ?_ (flat3 c [] [] fr).symm
        show St0 _ (fl ([] ++ []) fr) _
        exact S
       ·intro a w gd11 c fr hsz hdf hK ld11 hN hI S
        have e5 := hN 5 (by decide)
        have e62x : val a 62 = .agg #[v6] := nth e5 0
        have e8 := hN 8 (by decide)
        have e65x : val a 65 = elemP v3 x6 1 := nth e8 0
        have F : Fr 69 a [(62, .agg #[v6]), (65, elemP v3 x6 1)] := Fr.of hsz hdf ⟨e62x, e65x, trivial⟩
        replace S : St gd11 [c 16] fr w := S.of_eq (flat2 _ _ _ _)
        have q16 : c 16 = c3 := hI 3 _ rfl
        rw [q16] at S
        refine wl_storeW (z' := y4.1) (wn rfl) rfl F S (h3.mono ((l4.trans ld1).trans ld11)) hy5 rfl rfl (us := [v6]) rfl ts38 (one_cons lh1.one one_nil) (k := 0) rfl rfl (rep_Patch_mk (x := y4.1) (lh1.mono ld11)) rfl ?_; clear S
        rintro c4 w h8 S; replace S : St gd11 [c4] fr w := S; replace h8 : OwnS gd11 y6 v3 c4 := sinj hy6 ▸ h8
        replace F := F.sub (e' := [(62, .agg #[v6])]) ⟨rfl, trivial⟩
        refine wpList_nil ⟨rfl, F.sz, F.df, _, c4, (Le.refl _), ?_, ⟨rfl, h8⟩⟩
        refine St0.of_eq ?_ (flat3s c (c4) [] fr).symm
        show St0 _ (fl ([c4] ++ []) fr) _
        exact S
       ·intro a w gd11 c fr hsz hdf hK ld11 hN hI S
        have e2 := hN 2 (by decide)
        have e59x : val a 59 = v3 := nth e2 0
        have e4 := hN 4 (by decide)
        have e61x : val a 61 = .int .i64 z3 := nth e4 0
        have F : Fr 69 a [(59, v3), (61, .int .i64 z3)] := Fr.of hsz hdf ⟨e59x, e61x, trivial⟩
        replace S : St gd11 [] fr w := S.of_eq (flat2 _ _ _ _)
        refine wl_ev (wn rfl) (ev_idxOL (h3.mono ((l4.trans ld1).trans ld11)) (len_set hy6) hy7 tu22 ts38 rfl rfl) F S rfl rfl ?_; clear F; intro a F
        refine wpList_nil ⟨rfl, F.sz, F.df, _, [], (Le.refl _), ?_, (lst1 (F.get 66 _ rfl))⟩
        refine St0.of_eq ?_ (flat3 c [] [] fr).symm
        show St0 _ (fl ([] ++ []) fr) _
        exact S
       ·intro a w gd11 c fr hsz hdf hK ld11 hN hI S
        have e6 := hN 6 (by decide)
        have e63x : val a 63 = .agg #[v7] := nth e6 0
        obtain ⟨e9, lh3⟩ := hN 9 (by decide)
        have e10 := hN 10 (by decide)
        have e66x : val a 66 = elemP v3 z3 1 := nth e10 0
        have F : Fr 69 a [(63, .agg #[v7]), (66, elemP v3 z3 1)] := Fr.of hsz hdf ⟨e63x, e66x, trivial⟩
        replace S : St gd11 [c 9] fr w := S.of_eq (flat2 _ _ _ _)
        refine wl_storeW (z' := y4.2.1) (wn rfl) rfl F S lh3 hy7 rfl rfl (us := [v7]) rfl ts38 (one_cons lh2.one one_nil) (k := 0) rfl rfl (rep_Patch_mk (x := y4.2.1) (lh2.mono ld11)) rfl ?_; clear S
        rintro c5 w h9 S; replace S : St gd11 [c5] fr w := S; replace h9 : OwnS gd11 y8 v3 c5 := sinj hy8 ▸ h9
        replace F := F.sub (e' := [(63, .agg #[v7])]) ⟨rfl, trivial⟩
        refine wpList_nil ⟨rfl, F.sz, F.df, _, c5, (Le.refl _), ?_, ⟨rfl, h9⟩⟩
        refine St0.of_eq ?_ (flat3s c (c5) [] fr).symm
        show St0 _ (fl ([c5] ++ []) fr) _
        exact S
       ·intro a w gd11 c fr hsz hdf hK ld11 hN hI S
        have e7 := hN 7 (by decide)
        have e64x : val a 64 = .int .i64 x5 := nth e7 0
        have F : Fr 69 a [(64, .int .i64 x5)] := Fr.of hsz hdf ⟨e64x, trivial⟩
        replace S : St gd11 [] fr w := S.of_eq (flat2 _ _ _ _)
        refine wl_ev (wn rfl) (ev_assign rfl) F S rfl rfl ?_; clear F; intro a F
        refine wpList_nil ⟨rfl, F.sz, F.df, _, [], (Le.refl _), ?_, (lst1 (F.get 10 _ rfl))⟩
        refine St0.of_eq ?_ (flat3 c [] [] fr).symm
        show St0 _ (fl ([] ++ []) fr) _
        exact S
       clear F S; intro a w gd11 c hsz hdf hK ld11 hI S hN
       obtain ⟨e11, lh3⟩ := hN 11 (by decide)
       have e12 := hN 12 (by decide)
       have e10x : val a 10 = .int .i64 x5 := nth e12 0
       have F : Fr 69 a [(9, v3), (8, bp b1 0), (2, .int .i64 to), (10, .int .i64 x5)] := Fr.of hsz hdf ⟨hK 9 (by decide) _ rfl, hK 8 (by decide) _ rfl, hK 2 (by decide) _ rfl, e10x, trivial⟩
       replace S : St gd11 [c 0, c 1, c 2, c 3, c 4, c 5, c 6, c 7, c 8, c 10, c 11, c 12, c 13, c 14, c 15, c 17] fr w := S.of_eq (flat_fl _ _ _)
       generalize c 11 = c5 at *
       have q13 : c 13 = [(b2, .cells #[v6] 38 (0, 0))] := hI 0 _ rfl
       rw [q13] at S
       have q14 : c 14 = [(b3, .cells #[v7] 38 (0, 0))] := hI 1 _ rfl
       rw [q14] at S
       have q15 : c 15 = [(b4, .cells #[.int .i64 y4.2.2.2.Code, .int .i64 y4.2.2.2.Index] 24 (0, 0))] := hI 2 _ rfl
       rw [q15] at S
       have q17 : c 17 = [(b1, .cells #[.int .i64 0, .int .i64 0] 24 (0, 0))] := hI 4 _ rfl
       rw [q17] at S
       replace S : St gd11 [c5, [(b1, .cells #[.int .i64 0, .int .i64 0] 24 (0, 0))]] fr w := St.tail [c5, [(b1, .cells #[.int .i64 0, .int .i64 0] 24 (0, 0))]] _ ((S.frontC 15 rfl).frontC 11 rfl)
       clear hK hI hN hsz hdf e11 e12 e10x
       refine inb_n ?_
       refine then_n ?_
       obtain rfl := sinj hm
       refine ⟨_, rfl, ?_⟩
       dsimp only
       exact ⟨v3, c5, gd11, F.sub ⟨rfl, rfl, rfl, rfl, trivial⟩, (((l3.trans l4).trans ld1).trans ld11), S, lh3⟩
   ·refine wp_condF F rfl hc1 ?_
    refine wp_exit ?_
    refine then_e ?_
    refine then_e ?_
    refine inb_x ?_
    refine then_n ?_
    obtain rfl := sinj hm
    obtain rfl := hfin1 _ rfl
    clear hm
    have hm : (stack_move.j1 x3 : Option ((List Patch) × Bool × Fault)) = some _ := hmo1
    exact ⟨x3, v3, c3, g3, F.sub ⟨rfl, rfl, trivial⟩, l3, S, h3, hm⟩
 ·clear F S hm; rintro a w ⟨x1, v2, c2, g2, F, l2, S, h2, hm⟩
  refine wp_seq ?_
  refine wp_region_lit ?_
  refine wl_ev (wn rfl) (ev_move rfl) F S rfl rfl ?_; clear F a; intro a F
  refine wl_ev (wn rfl) (ev_build (parts := []) (vs := []) rfl (fun w => tb24_  w)) F S rfl rfl ?_; clear F a; intro a F
  refine wl_ev (wn rfl) (ev_assign rfl) F S rfl rfl ?_; clear F a; intro a F
  refine wl_ev (wn rfl) (ev_assign rfl) F S rfl rfl ?_; clear F a; intro a F
  refine wl_storeC (wn rfl) rfl F S rfl rfl (vs := [.int .i64 0, .int .i64 0]) rfl ts24 (one_cons rfl (one_cons rfl one_nil)) (k := 1) rfl (lb rfl) (c' := #[.int .i64 0, .int .i64 0]) rfl rfl ?_; clear S; intro w S
  replace S : St g2 [c2, [(b1, .cells #[.int .i64 0, .int .i64 0] 24 (0, 0))]] fr w := S
  refine wpList_nil ?_
  replace F := F.sub (e' := [(7, .bool true), (6, v2), (8, bp b1 0)]) ⟨rfl, rfl, rfl, trivial⟩
  refine then_n ?_
  refine wp_ret ?_
  obtain rfl := sinj hm
  refine post_r (fn := Try.f24) (rs := [.tmp 6, .tmp 7, .cell 8 24]) [v2, .bool true, .agg #[.int .i64 0, .int .i64 0]] F rfl (ar_cons (resT rfl) (ar_cons (resT rfl) (ar_cons (resA rfl tu24 rfl ts24 (box_ptr (cells := [.int .i64 0, .int .i64 0]) 1 rfl 0 rfl (lb rfl) w S)) ar_nil))) ?_
  replace S : St g2 [c2] fr w := St.tail [c2] _ (S.frontC 0 rfl)
  exact ⟨_, rfl, g2, v2, c2, (l1.trans l2), S, h2, rfl⟩

theorem stack_Drop_ok {g : Gh} {fr : Hl} {w : World} {r : (List Patch) × Bool × Fault} (patches : (List Patch)) (vpatches1 : Value) (hpatches1 : RepSl g patches vpatches1) (i_ : Int) (S : St g [] fr w) (hm : stack_Drop patches i_ = some r) :
  Calls Try.prog 12 [vpatches1, .int .i64 i_].toArray w (fun en w' => ∃ v, en = .returned v ∧ ∃ (g' : Gh) (v1 : Value) (c1 : Hl), Le g g' ∧ St g' [c1] fr w' ∧ OwnS g' r.1 v1 c1 ∧ .tuple #[v1, .bool r.2.1, .agg #[.int .i64 r.2.2.Code, .int .i64 r.2.2.Index]] = v) := by
 unfold stack_Drop at hm
 refine calls_enter (fn := Try.f12) Try.func12 rfl Try.ntmps12 (lb rfl) ?_
 intro a F
 replace F : Fr 45 a [(0, vpatches1), (1, .int .i64 i_)] := F
 refine wp_seq ?_
 refine wp_region_lit ?_
 refine wl_ev (wn rfl) (ev_assign rfl) F S rfl rfl ?_; clear F a; intro a F
 refine wl_ev (wn rfl) (ev_assign rfl) F S rfl rfl ?_; clear F a; intro a F
 refine wl_alloc (wn rfl) rfl tz24 (cs := [.int .i64 0, .int .i64 0]) rfl F S rfl rfl ?_; clear F a S; rintro b1 a w F S
 refine wpList_nil ?_
 replace F := F.sub (e' := [(6, bp b1 0), (0, vpatches1), (1, .int .i64 i_)]) ⟨rfl, rfl, rfl, trivial⟩
 refine then_n ?_
 refine wp_seq ?_
 refine wp_seq ?_
 refine wp_region_lit ?_
 refine wl_ev (wn rfl) (ev_move rfl) F S rfl rfl ?_; clear F a; intro a F
 obtain ⟨y1, hy1, hm⟩ := bind_some hm
 refine wl_call (wn rfl) rfl (xs := [.tmp 11]) (vs := [vpatches1]) (cap := []) F rfl rfl tc23 (stack_check_ok (g := g) (fr := (fl [[(b1, .cells #[.int .i64 0, .int .i64 0] 24 (0, 0))]] fr)) (w := w) patches vpatches1 hpatches1 S hy1) rfl rfl ?_; clear F a S
 rintro _ a w ⟨g1, l1, S, rfl⟩ F; replace S : St g1 [[(b1, .cells #[.int .i64 0, .int .i64 0] 24 (0, 0))]] fr w := S
 refine wl_alloc (wn rfl) rfl tz24 (cs := [.int .i64 0, .int .i64 0]) rfl F S rfl rfl ?_; clear F a S; rintro b2 a w F S
 refine wl_storeC (wn rfl) rfl F S rfl rfl (vs := [.int .i64 y1.Code, .int .i64 y1.Index]) rfl ts24 (one_cons rfl (one_cons rfl one_nil)) (k := 0) rfl (lb rfl) (c' := #[.int .i64 y1.Code, .int .i64 y1.Index]) rfl rfl ?_; clear S; intro w S
 replace S : St g1 [[(b2, .cells #[.int .i64 y1.Code, .int .i64 y1.Index] 24 (0, 0))], [(b1, .cells #[.int .i64 0, .int .i64 0] 24 (0, 0))]] fr w := S
 refine wpList_nil ?_
 replace F := F.sub (e' := [(7, bp b2 0), (6, bp b1 0), (0, vpatches1), (1, .int .i64 i_)]) ⟨rfl, rfl, rfl, rfl, trivial⟩
 refine then_n ?_
 refine wp_seq ?_
 refine wp_region_lit ?_
 refine wl_ev (wn rfl) (ev_loadA tu24 rfl (cs := [.int .i64 y1.Code, .int .i64 y1.Index]) ts24 rfl (box_ptr (cells := [.int .i64 y1.Code, .int .i64 y1.Index]) 0 rfl 0 rfl (lb rfl))) F S rfl rfl ?_; clear F a; intro a F
 refine wl_ev (wn rfl) (ev_build (parts := []) (vs := []) rfl (fun w => tb24_  w)) F S rfl rfl ?_; clear F a; intro a F
 refine wl_ev (wn rfl) (ev_neS tu24 tqa24 tqb24 tqc24 (xs := [.int .i64 y1.Code, .int .i64 y1.Index]) (ys := [.int .i64 0, .int .i64 0]) rfl rfl ⟨_, _, rfl, by decide, ⟨_, _, rfl, rfl, leaf_int tu3⟩, ⟨_, _, rfl, by decide, ⟨_, _, rfl, rfl, leaf_int tu3⟩, rfl⟩⟩) F S rfl rfl ?_; clear F a; intro a F
 refine wpList_nil ?_
 replace F := F.sub (e' := [(15, .bool (!(decide (y1.Code = 0) && decide (y1.Index = 0)))), (7, bp b2 0), (6, bp b1 0), (0, vpatches1), (1, .int .i64 i_)]) ⟨rfl, rfl, rfl, rfl, rfl, trivial⟩
 refine then_n ?_
 obtain ⟨hc1, hm⟩ | ⟨hc1, hm⟩ := ite_or hm
 ·refine wp_condT F rfl hc1 ?_
  refine wp_seq ?_
  refine wp_drawL ⟨2, [[16], [4], [5], []], [[], [], [], [5]], [[4], [], [], []], [[7], [], [], [6]], [[], [], [], [0]], [6], [0, 1, 2, 3, 4]⟩
   [([16], fun us g c => us = [.agg #[.int .i64 y1.Code, .int .i64 y1.Index]]),
    ([4], fun us g c => us = [nilS]),
    ([5], fun us g c => us = [.bool false]),
    ([], fun us g c => us = [] ∧ c = [(b1, .cells #[.int .i64 y1.Code, .int .i64 y1.Index] 24 (0, 0))])]
   mo (by kernel_rfl) rfl rfl ⟨fun _ _ _ _ _ h => h, fun _ _ _ _ _ h => h, fun _ _ _ _ _ h => h, fun _ _ _ _ _ h => h, trivial⟩ F S ⟨?_, ?_, ?_, ?_, trivial⟩ ?_
  ·intro a w gd1 c fr hsz hdf hK ld1 hN hI S
   have F : Fr 45 a [(7, bp b2 0)] := Fr.of hsz hdf ⟨hK 7 (by decide) _ rfl, trivial⟩
   replace S : St gd1 [c 4] fr w := S.of_eq (flat2 _ _ _ _)
   have q4 : c 4 = [(b2, .cells #[.int .i64 y1.Code, .int .i64 y1.Index] 24 (0, 0))] := hI 0 _ rfl
   rw [q4] at S
   refine wl_ev (wn rfl) (ev_loadA tu24 rfl (cs := [.int .i64 y1.Code, .int .i64 y1.Index]) ts24 rfl (box_ptr (cells := [.int .i64 y1.Code, .int .i64 y1.Index]) 0 rfl 0 rfl (lb rfl))) F S rfl rfl ?_; clear F; intro a F
   refine wpList_nil ⟨rfl, F.sz, F.df, _, [], (Le.refl _), ?_, (lst1 (F.get 16 _ rfl))⟩
   refine St0.of_eq ?_ (flat3 c [] [4] fr).symm
   show St0 _ (fl ([] ++ [c 4]) fr) _
   rw [q4]
   exact S
  ·intro a w gd1 c fr hsz hdf hK ld1 hN hI S
   have F : Fr 45 a [] := Fr.of hsz hdf trivial
   replace S : St gd1 [] fr w := S.of_eq (flat2 _ _ _ _)
   refine wl_ev (wn rfl) (ev_assign rfl) F S rfl rfl ?_; clear F; intro a F
   refine wpList_nil ⟨rfl, F.sz, F.df, _, [], (Le.refl _), ?_, (lst1 (F.get 4 _ rfl))⟩
   refine St0.of_eq ?_ (flat3 c [] [] fr).symm
   show St0 _ (fl ([] ++ []) fr) _
   exact S
  ·intro a w gd1 c fr hsz hdf hK ld1 hN hI S
   have F : Fr 45 a [] := Fr.of hsz hdf trivial
   replace S : St gd1 [] fr w := S.of_eq (flat2 _ _ _ _)
   refine wl_ev (wn rfl) (ev_assign rfl) F S rfl rfl ?_; clear F; intro a F
   refine wpList_nil ⟨rfl, F.sz, F.df, _, [], (Le.refl _), ?_, (lst1 (F.get 5 _ rfl))⟩
   refine St0.of_eq ?_ (flat3 c [] [] fr).symm
   show St0 _ (fl ([] ++ []) fr) _
   exact S
  ·intro a w gd1 c fr hsz hdf hK ld1 hN hI S
   have e0 := hN 0 (by decide)
   have e16x : val a 16 = .agg #[.int .i64 y1.Code, .int .i64 y1.Index] := nth e0 0
   have F : Fr 45 a [(6, bp b1 0), (16, .agg #[.int .i64 y1.Code, .int .i64 y1.Index])] := Fr.of hsz hdf ⟨hK 6 (by decide) _ rfl, e16x, trivial⟩
   replace S : St gd1 [c 5] fr w := S.of_eq (flat2 _ _ _ _)
   have q5 : c 5 = [(b1, .cells #[.int .i64 0, .int .i64 0] 24 (0, 0))] := hI 1 _ rfl
   rw [q5] at S
   refine wl_storeC (wn rfl) rfl F S rfl rfl (vs := [.int .i64 y1.Code, .int .i64 y1.Index]) rfl ts24 (one_cons rfl (one_cons rfl one_nil)) (k := 0) rfl (lb rfl) (c' := #[.int .i64 y1.Code, .int .i64 y1.Index]) rfl rfl ?_; clear S; intro w S
   replace S : St gd1 [[(b1, .cells #[.int .i64 y1.Code, .int .i64 y1.Index] 24 (0, 0))]] fr w := S
   refine wpList_nil ⟨rfl, F.sz, F.df, _, [(b1, .cells #[.int .i64 y1.Code, .int .i64 y1.Index] 24 (0, 0))], (Le.refl _), ?_, ⟨rfl, rfl⟩⟩
   refine St0.of_eq ?_ (flat3s c ([(b1, .cells #[.int .i64 y1.Code, .int .i64 y1.Index] 24 (0, 0))]) [] fr).symm
   show St0 _ (fl ([[(b1, .cells #[.int .i64 y1.Code, .int .i64 y1.Index] 24 (0, 0))]] ++ []) fr) _
   exact S
  clear F S; intro a w gd1 c hsz hdf hK ld1 hI S hN
  have e1 := hN 1 (by decide)
  have e4x : val a 4 = nilS := nth e1 0
  have e2 := hN 2 (by decide)
  have e5x : val a 5 = .bool false := nth e2 0
  obtain ⟨e3, q3⟩ := hN 3 (by decide)
  have F : Fr 45 a [(6, bp b1 0), (4, nilS), (5, .bool false)] := Fr.of hsz hdf ⟨hK 6 (by decide) _ rfl, e4x, e5x, trivial⟩
  replace S : St gd1 [c 0, c 1, c 2, c 3, c 4] fr w := S.of_eq (flat_fl _ _ _)
  rw [q3] at S
  have q4 : c 4 = [(b2, .cells #[.int .i64 y1.Code, .int .i64 y1.Index] 24 (0, 0))] := hI 0 _ rfl
  rw [q4] at S
  replace S : St gd1 [[(b1, .cells #[.int .i64 y1.Code, .int .i64 y1.Index] 24 (0, 0))]] fr w := St.tail [[(b1, .cells #[.int .i64 y1.Code, .int .i64 y1.Index] 24 (0, 0))]] _ (S.frontC 3 rfl)
  clear hK hI hN hsz hdf e1 e2 e3 e4x e5x
  refine then_n ?_
  refine wp_ret ?_
  refine then_r ?_
  obtain rfl := sinj hm
  replace S : St gd1 [[], [(b1, .cells #[.int .i64 y1.Code, .int .i64 y1.Index] 24 (0, 0))]] fr w := S
  refine post_r (fn := Try.f12) (rs := [.tmp 4, .tmp 5, .cell 6 24]) [nilS, .bool false, .agg #[.int .i64 y1.Code, .int .i64 y1.Index]] F rfl (ar_cons (resT rfl) (ar_cons (resT rfl) (ar_cons (resA rfl tu24 rfl ts24 (box_ptr (cells := [.int .i64 y1.Code, .int .i64 y1.Index]) 1 rfl 0 rfl (lb rfl) w S)) ar_nil))) ?_
  replace S : St gd1 [[]] fr w := St.tail [[]] _ (S.frontC 0 rfl)
  exact ⟨_, rfl, gd1, (nilS), [], (l1.trans ld1), S, (OwnS.nil _), rfl⟩
 ·refine wp_condF F rfl hc1 ?_
  refine wp_skip ?_
  refine then_n ?_
  refine wp_seq ?_
  refine wp_seq ?_
  refine wp_region_lit ?_
  refine wl_ev (wn rfl) (ev_move rfl) F S rfl rfl ?_; clear F a; intro a F
  refine wl_ev (wn rfl) (ev_int rfl rfl (bo_lss _ _ _ _)) F S rfl rfl ?_; clear F a; intro a F
  refine wl_ev (wn rfl) (ev_move rfl) F S rfl rfl ?_; clear F a; intro a F
  obtain ⟨x1, hx1, hm⟩ := bind_some hm
  refine wl_cut 5 (fun a w' => w = w' ∧ Fr 45 a [(24, .bool x1), (6, bp b1 0), (0, vpatches1), (1, .int .i64 i_)]) ?_ ?_
  ·clear hm; obtain ⟨hc2, hm⟩ | ⟨hc2, hm⟩ := ite_or hx1
   ·refine wl_skip rfl rfl rfl rfl (ne_ft hc2) F rfl rfl ?_; clear F a; intro a F
    refine wl_skip rfl rfl rfl rfl (ne_ft hc2) F rfl rfl ?_; clear F a; intro a F
    refine wl_skip rfl rfl rfl rfl (ne_ft hc2) F rfl rfl ?_; clear F a; intro a F
    refine wl_skip rfl rfl rfl rfl (ne_ft hc2) F rfl rfl ?_; clear F a; intro a F
    refine wl_ev (wn rfl) (ev_pickT rfl hc2 rfl) F S rfl rfl ?_; clear F a; intro a F
    obtain rfl := sinj hm
    refine wpList_nil (then_n ?_); exact ⟨rfl, F.sub ⟨rfl, rfl, rfl, rfl, trivial⟩⟩
   ·refine wl_ev (wg F rfl rfl rfl rfl hc2) (ev_move rfl) F S rfl rfl ?_; clear F a; intro a F
    refine wl_ev (wg F rfl rfl rfl rfl hc2) (ev_move rfl) F S rfl rfl ?_; clear F a; intro a F
    refine wl_ev (wg F rfl rfl rfl rfl hc2) (ev_lenSh hpatches1 rfl tu22) F S rfl rfl ?_; clear F a; intro a F
    refine wl_ev (wg F rfl rfl rfl rfl hc2) (ev_int rfl rfl (bo_geq _ _ _ _)) F S rfl rfl ?_; clear F a; intro a F
    refine wl_ev (wn rfl) (ev_pickF rfl hc2 rfl) F S rfl rfl ?_; clear F a; intro a F
    obtain rfl := sinj hm
    refine wpList_nil (then_n ?_); exact ⟨rfl, F.sub ⟨rfl, rfl, rfl, rfl, trivial⟩⟩
  clear F; rintro a w' ⟨rfl, F⟩
  refine wpList_nil ?_
  refine then_n ?_
  obtain ⟨hc3, hm⟩ | ⟨hc3, hm⟩ := ite_or hm
  ·refine wp_condT F rfl hc3 ?_
   refine wp_seq ?_
   refine wp_region_lit ?_
   refine wl_ev (wn rfl) (ev_build (parts := [(0, .const (.int .i64 3)), (1, .const (.int .i64 (-2)))]) (vs := [(0, .int .i64 3), (1, .int .i64 (-2))]) rfl (fun w => tb24_0_1 3 (-2) w)) F S rfl rfl ?_; clear F a; intro a F
   refine wl_ev (wn rfl) (ev_assign rfl) F S rfl rfl ?_; clear F a; intro a F
   refine wl_ev (wn rfl) (ev_assign rfl) F S rfl rfl ?_; clear F a; intro a F
   refine wl_storeC (wn rfl) rfl F S rfl rfl (vs := [.int .i64 3, .int .i64 (-2)]) rfl ts24 (one_cons rfl (one_cons rfl one_nil)) (k := 1) rfl (lb rfl) (c' := #[.int .i64 3, .int .i64 (-2)]) rfl rfl ?_; clear S; intro w S
   replace S : St g1 [[(b2, .cells #[.int .i64 y1.Code, .int .i64 y1.Index] 24 (0, 0))], [(b1, .cells #[.int .i64 3, .int .i64 (-2)] 24 (0, 0))]] fr w := S
   refine wpList_nil ?_
   replace F := F.sub (e' := [(5, .bool false), (4, nilS), (6, bp b1 0)]) ⟨rfl, rfl, rfl, trivial⟩
   refine then_n ?_
   refine wp_ret ?_
   refine then_r ?_
   obtain rfl := sinj hm
   replace S : St g1 [[], [(b2, .cells #[.int .i64 y1.Code, .int .i64 y1.Index] 24 (0, 0))], [(b1, .cells #[.int .i64 3, .int .i64 (-2)] 24 (0, 0))]] fr w := S
   refine post_r (fn := Try.f12) (rs := [.tmp 4, .tmp 5, .cell 6 24]) [nilS, .bool false, .agg #[.int .i64 3, .int .i64 (-2)]] F rfl (ar_cons (resT rfl) (ar_cons (resT rfl) (ar_cons (resA rfl tu24 rfl ts24 (box_ptr (cells := [.int .i64 3, .int .i64 (-2)]) 2 rfl 0 rfl (lb rfl) w S)) ar_nil))) ?_
   replace S : St g1 [[]] fr w := St.tail [[]] _ (S.frontC 0 rfl)
   exact ⟨_, rfl, g1, (nilS), [], l1, S, (OwnS.nil _), rfl⟩
  ·refine wp_condF F rfl hc3 ?_
   refine wp_skip ?_
   refine then_n ?_
   refine wp_seq ?_
   refine wp_region_lit ?_
   refine wl_ev (wn rfl) (ev_move rfl) F S rfl rfl ?_; clear F a; intro a F
   refine wl_ev (wn rfl) (ev_move rfl) F S rfl rfl ?_; clear F a; intro a F
   refine wl_ev (wn rfl) (ev_move rfl) F S rfl rfl ?_; clear F a; intro a F
   refine wl_ev (wn rfl) (ev_lenSh hpatches1 rfl tu22) F S rfl rfl ?_; clear F a; intro a F
   obtain ⟨z1, hz1, hm⟩ := bind_some hm
   refine wl_ev (wn rfl) (ev_int rfl rfl (bo_sub hz1)) F S rfl rfl ?_; clear F a; intro a F
   obtain ⟨y2, hy2, hm⟩ := bind_some hm
   refine wl_call (wn rfl) rfl (xs := [.tmp 27, .tmp 28, .tmp 31]) (vs := [vpatches1, .int .i64 i_, .int .i64 z1]) (cap := []) F rfl rfl tc24 (stack_move_ok (g := g1) (fr := (fl [[(b2, .cells #[.int .i64 y1.Code, .int .i64 y1.Index] 24 (0, 0))], [(b1, .cells #[.int .i64 0, .int .i64 0] 24 (0, 0))]] fr)) (w := w) patches vpatches1 (hpatches1.mono l1) i_ z1 S hy2) rfl rfl ?_; clear F a S
   rintro _ a w ⟨g2, v1, c1, l2, S, h1, rfl⟩ F; replace S : St g2 [c1, [(b2, .cells #[.int .i64 y1.Code, .int .i64 y1.Index] 24 (0, 0))], [(b1, .cells #[.int .i64 0, .int .i64 0] 24 (0, 0))]] fr w := S
   refine wl_ev (wn rfl) (ev_move rfl) F S rfl rfl ?_; clear F a; intro a F
   refine wl_ev (wn rfl) (ev_extract (vs := [v1, .bool y2.2.1, .agg #[.int .i64 y2.2.2.Code, .int .i64 y2.2.2.Index]]) rfl rfl) F S rfl rfl ?_; clear F a; intro a F
   refine wl_ev (wn rfl) (ev_extract (vs := [v1, .bool y2.2.1, .agg #[.int .i64 y2.2.2.Code, .int .i64 y2.2.2.Index]]) rfl rfl) F S rfl rfl ?_; clear F a; intro a F
   refine wl_ev (wn rfl) (ev_extract (vs := [v1, .bool y2.2.1, .agg #[.int .i64 y2.2.2.Code, .int .i64 y2.2.2.Index]]) rfl rfl) F S rfl rfl ?_; clear F a; intro a F
   refine wl_alloc (wn rfl) rfl tz24 (cs := [.int .i64 0, .int .i64 0]) rfl F S rfl rfl ?_; clear F a S; rintro b3 a w F S
   refine wl_ev (wn rfl) (ev_assign rfl) F S rfl rfl ?_; clear F a; intro a F
   refine wl_ev (wn rfl) (ev_assign rfl) F S rfl rfl ?_; clear F a; intro a F
   refine wl_storeC (wn rfl) rfl F S rfl rfl (vs := [.int .i64 y2.2.2.Code, .int .i64 y2.2.2.Index]) rfl ts24 (one_cons rfl (one_cons rfl one_nil)) (k := 0) rfl (lb rfl) (c' := #[.int .i64 y2.2.2.Code, .int .i64 y2.2.2.Index]) rfl rfl ?_; clear S; intro w S
   replace S : St g2 [[(b3, .cells #[.int .i64 y2.2.2.Code, .int .i64 y2.2.2.Index] 24 (0, 0))], c1, [(b2, .cells #[.int .i64 y1.Code, .int .i64 y1.Index] 24 (0, 0))], [(b1, .cells #[.int .i64 0, .int .i64 0] 24 (0, 0))]] fr w := S
   refine wpList_nil ?_
   replace F := F.sub (e' := [(9, .bool y2.2.1), (8, v1), (10, bp b3 0), (6, bp b1 0)]) ⟨rfl, rfl, rfl, rfl, trivial⟩
   refine then_n ?_
   refine wp_seq ?_
   refine wp_seq ?_
   refine wp_region_lit ?_
   refine wl_ev (wn rfl) (ev_move rfl) F S rfl rfl ?_; clear F a; intro a F
   refine wl_ev (wn rfl) (ev_not rfl) F S rfl rfl ?_; clear F a; intro a F
   refine wpList_nil ?_
   replace F := F.sub (e' := [(37, .bool !y2.2.1), (8, v1), (10, bp b3 0), (6, bp b1 0)]) ⟨rfl, rfl, rfl, rfl, trivial⟩
   refine then_n ?_
   obtain ⟨hc4, hm⟩ | ⟨hc4, hm⟩ := ite_or hm
   ·refine wp_condT F rfl hc4 ?_
    refine wp_seq ?_
    refine wp_drawL ⟨4, [[38], [4], [5], []], [[], [], [], [7]], [[4], [], [], []], [[10], [], [], [6]], [[], [], [], [0]], [6], [0, 1, 2, 3, 4, 5, 6]⟩
     [([38], fun us g c => us = [.agg #[.int .i64 y2.2.2.Code, .int .i64 y2.2.2.Index]]),
      ([4], fun us g c => us = [nilS]),
      ([5], fun us g c => us = [.bool false]),
      ([], fun us g c => us = [] ∧ c = [(b1, .cells #[.int .i64 y2.2.2.Code, .int .i64 y2.2.2.Index] 24 (0, 0))])]
     mo (by kernel_rfl) rfl rfl ⟨fun _ _ _ _ _ h => h, fun _ _ _ _ _ h => h, fun _ _ _ _ _ h => h, fun _ _ _ _ _ h => h, trivial⟩ F S ⟨?_, ?_, ?_, ?_, trivial⟩ ?_
    ·intro a w gd6 c fr hsz hdf hK ld6 hN hI S
     have F : Fr 45 a [(10, bp b3 0)] := Fr.of hsz hdf ⟨hK 10 (by decide) _ rfl, trivial⟩
     replace S : St gd6 [c 4] fr w := S.of_eq (flat2 _ _ _ _)
     have q4 : c 4 = [(b3, .cells #[.int .i64 y2.2.2.Code, .int .i64 y2.2.2.Index] 24 (0, 0))] := hI 0 _ rfl
     rw [q4] at S
     refine wl_ev (wn rfl) (ev_loadA tu24 rfl (cs := [.int .i64 y2.2.2.Code, .int .i64 y2.2.2.Index]) ts24 rfl (box_ptr (cells := [.int .i64 y2.2.2.Code, .int .i64 y2.2.2.Index]) 0 rfl 0 rfl (lb rfl))) F S rfl rfl ?_; clear F; intro a F
     refine wpList_nil ⟨rfl, F.sz, F.df, _, [], (Le.refl _), ?_, (lst1 (F.get 38 _ rfl))⟩
     refine St0.of_eq ?_ (flat3 c [] [4] fr).symm
     show St0 _ (fl ([] ++ [c 4]) fr) _
     rw [q4]
     exact S
    ·intro a w gd6 c fr hsz hdf hK ld6 hN hI S
     have F : Fr 45 a [] := Fr.of hsz hdf trivial
     replace S : St gd6 [] fr w := S.of_eq (flat2 _ _ _ _)
     refine wl_ev (wn rfl) (ev_assign rfl) F S rfl rfl ?_; clear F; intro a F
     refine wpList_nil ⟨rfl, F.sz, F.df, _, [], (Le.refl _), ?_, (lst1 (F.get 4 _ rfl))⟩
     refine St0.of_eq ?_ (flat3 c [] [] fr).symm
     show St0 _ (fl ([] ++ []) fr) _
     exact S
    ·intro a w gd6 c fr hsz hdf hK ld6 hN hI S
     have F : Fr 45 a [] := Fr.of hsz hdf trivial
     replace S : St gd6 [] fr w := S.of_eq (flat2 _ _ _ _)
     refine wl_ev (wn rfl) (ev_assign rfl) F S rfl rfl ?_; clear F; intro a F
     refine wpList_nil ⟨rfl, F.sz, F.df, _, [], (Le.refl _), ?_, (lst1 (F.get 5 _ rfl))⟩
     refine St0.of_eq ?_ (flat3 c [] [] fr).symm
     show St0 _ (fl ([] ++ []) fr) _
     exact S
    ·intro a w gd6 c fr hsz hdf hK ld6 hN hI S
     have e0 := hN 0 (by decide)
     have e38x : val a 38 = .agg #[.int .i64 y2.2.2.Code, .int .i64 y2.2.2.Index] := nth e0 0
     have F : Fr 45 a [(6, bp b1 0), (38, .agg #[.int .i64 y2.2.2.Code, .int .i64 y2.2.2.Index])] := Fr.of hsz hdf ⟨hK 6 (by decide) _ rfl, e38x, trivial⟩
     replace S : St gd6 [c 7] fr w := S.of_eq (flat2 _ _ _ _)
     have q7 : c 7 = [(b1, .cells #[.int .i64 0, .int .i64 0] 24 (0, 0))] := hI 3 _ rfl
     rw [q7] at S
     refine wl_storeC (wn rfl) rfl F S rfl rfl (vs := [.int .i64 y2.2.2.Code, .int .i64 y2.2.2.Index]) rfl ts24 (one_cons rfl (one_cons rfl one_nil)) (k := 0) rfl (lb rfl) (c' := #[.int .i64 y2.2.2.Code, .int .i64 y2.2.2.Index]) rfl rfl ?_; clear S; intro w S
     replace S : St gd6 [[(b1, .cells #[.int .i64 y2.2.2.Code, .int .i64 y2.2.2.Index] 24 (0, 0))]] fr w := S
     refine wpList_nil ⟨rfl, F.sz, F.df, _, [(b1, .cells #[.int .i64 y2.2.2.Code, .int .i64 y2.2.2.Index] 24 (0, 0))], (Le.refl _), ?_, ⟨rfl, rfl⟩⟩
     refine St0.of_eq ?_ (flat3s c ([(b1, .cells #[.int .i64 y2.2.2.Code, .int .i64 y2.2.2.Index] 24 (0, 0))]) [] fr).symm
     show St0 _ (fl ([[(b1, .cells #[.int .i64 y2.2.2.Code, .int .i64 y2.2.2.Index] 24 (0, 0))]] ++ []) fr) _
     exact S
    clear F S; intro a w gd6 c hsz hdf hK ld6 hI S hN
    have e1 := hN 1 (by decide)
    have e4x : val a 4 = nilS := nth e1 0
    have e2 := hN 2 (by decide)
    have e5x : val a 5 = .bool false := nth e2 0
    obtain ⟨e3, q3⟩ := hN 3 (by decide)
    have F : Fr 45 a [(6, bp b1 0), (4, nilS), (5, .bool false)] := Fr.of hsz hdf ⟨hK 6 (by decide) _ rfl, e4x, e5x, trivial⟩
    replace S : St gd6 [c 0, c 1, c 2, c 3, c 4, c 5, c 6] fr w := S.of_eq (flat_fl _ _ _)
    rw [q3] at S
    have q4 : c 4 = [(b3, .cells #[.int .i64 y2.2.2.Code, .int .i64 y2.2.2.Index] 24 (0, 0))] := hI 0 _ rfl
    rw [q4] at S
    have q5 : c 5 = c1 := hI 1 _ rfl
    rw [q5] at S
    have q6 : c 6 = [(b2, .cells #[.int .i64 y1.Code, .int .i64 y1.Index] 24 (0, 0))] := hI 2 _ rfl
    rw [q6] at S
    replace S : St gd6 [[(b1, .cells #[.int .i64 y2.2.2.Code, .int .i64 y2.2.2.Index] 24 (0, 0))]] fr w := St.tail [[(b1, .cells #[.int .i64 y2.2.2.Code, .int .i64 y2.2.2.Index] 24 (0, 0))]] _ (S.frontC 3 rfl)
    clear hK hI hN hsz hdf e1 e2 e3 e4x e5x
    refine then_n ?_
    refine wp_ret ?_
    refine then_r ?_
    obtain rfl := sinj hm
    replace S : St gd6 [[], [(b1, .cells #[.int .i64 y2.2.2.Code, .int .i64 y2.2.2.Index] 24 (0, 0))]] fr w := S
    refine post_r (fn := Try.f12) (rs := [.tmp 4, .tmp 5, .cell 6 24]) [nilS, .bool false, .agg #[.int .i64 y2.2.2.Code, .int .i64 y2.2.2.Index]] F rfl (ar_cons (resT rfl) (ar_cons (resT rfl) (ar_cons (resA rfl tu24 rfl ts24 (box_ptr (cells := [.int .i64 y2.2.2.Code, .int .i64 y2.2.2.Index]) 1 rfl 0 rfl (lb rfl) w S)) ar_nil))) ?_
    replace S : St gd6 [[]] fr w := St.tail [[]] _ (S.frontC 0 rfl)
    exact ⟨_, rfl, gd6, (nilS), [], ((l1.trans l2).trans ld6), S, (OwnS.nil _), rfl⟩
   ·refine wp_condF F rfl hc4 ?_
    refine wp_skip ?_
    refine then_n ?_
    refine wp_seq ?_
    refine wp_region_lit ?_
    refine wl_ev (wn rfl) (ev_move rfl) F S rfl rfl ?_; clear F a; intro a F
    refine wl_ev (wn rfl) (ev_move rfl) F S rfl rfl ?_; clear F a; intro a F
    refine wl_ev (wn rfl) (ev_lenOw h1 rfl tu22) F S rfl rfl ?_; clear F a; intro a F
    obtain ⟨z2, hz2, hm⟩ := bind_some hm
    refine wl_ev (wn rfl) (ev_int rfl rfl (bo_sub hz2)) F S rfl rfl ?_; clear F a; intro a F
    obtain ⟨y3, hy3, hm⟩ := bind_some hm
    refine wl_cutO (wn rfl) rfl h1 hy3 tu22 ts38 rfl (bnd0 _) (bndV rfl) F rfl rfl ?_; clear F a; rintro v2 h2 a F
    refine wl_ev (wn rfl) (ev_build (parts := []) (vs := []) rfl (fun w => tb24_  w)) F S rfl rfl ?_; clear F a; intro a F
    refine wl_ev (wn rfl) (ev_assign rfl) F S rfl rfl ?_; clear F a; intro a F
    refine wl_ev (wn rfl) (ev_assign rfl) F S rfl rfl ?_; clear F a; intro a F
    refine wl_storeC (wn rfl) rfl F S rfl rfl (vs := [.int .i64 0, .int .i64 0]) rfl ts24 (one_cons rfl (one_cons rfl one_nil)) (k := 3) rfl (lb rfl) (c' := #[.int .i64 0, .int .i64 0]) rfl rfl ?_; clear S; intro w S
    replace S : St g2 [[(b3, .cells #[.int .i64 y2.2.2.Code, .int .i64 y2.2.2.Index] 24 (0, 0))], c1, [(b2, .cells #[.int .i64 y1.Code, .int .i64 y1.Index] 24 (0, 0))], [(b1, .cells #[.int .i64 0, .int .i64 0] 24 (0, 0))]] fr w := S
    refine wpList_nil ?_
    replace F := F.sub (e' := [(5, .bool true), (4, v2), (6, bp b1 0)]) ⟨rfl, rfl, rfl, trivial⟩
    refine then_n ?_
    refine wp_ret ?_
    obtain rfl := sinj hm
    refine post_r (fn := Try.f12) (rs := [.tmp 4, .tmp 5, .cell 6 24]) [v2, .bool true, .agg #[.int .i64 0, .int .i64 0]] F rfl (ar_cons (resT rfl) (ar_cons (resT rfl) (ar_cons (resA rfl tu24 rfl ts24 (box_ptr (cells := [.int .i64 0, .int .i64 0]) 3 rfl 0 rfl (lb rfl) w S)) ar_nil))) ?_
    replace S : St g2 [c1] fr w := St.tail [c1] _ (S.frontC 1 rfl)
    exact ⟨_, rfl, g2, v2, c1, (l1.trans l2), S, h2, rfl⟩

theorem changeforgeequal_Strings_ok {g : Gh} {fr : Hl} {w : World} {r : Bool} (a_ : (List ByteArray)) (va_1 : Value) (ha_1 : RepSl g a_ va_1) (b_ : (List ByteArray)) (vb_1 : Value) (hb_1 : RepSl g b_ vb_1) (S : St g [] fr w) (hm : changeforgeequal_Strings a_ b_ = some r) :
  Calls Try.prog 17 [va_1, vb_1].toArray w (fun en w' => ∃ v, en = .returned v ∧ ∃ (g' : Gh), Le g g' ∧ St g' [] fr w' ∧ .bool r = v) := by
 unfold changeforgeequal_Strings at hm
 refine calls_enter (fn := Try.f17) Try.func17 rfl Try.ntmps17 (lb rfl) ?_
 intro a F
 replace F : Fr 26 a [(0, va_1), (1, vb_1)] := F
 refine wp_seq ?_
 refine wp_region_lit ?_
 refine wl_ev (wn rfl) (ev_assign rfl) F S rfl rfl ?_; clear F a; intro a F
 refine wpList_nil ?_
 replace F := F.sub (e' := [(0, va_1), (1, vb_1)]) ⟨rfl, rfl, trivial⟩
 refine then_n ?_
 refine wp_seq ?_
 refine wp_seq ?_
 refine wp_region_lit ?_
 refine wl_ev (wn rfl) (ev_move rfl) F S rfl rfl ?_; clear F a; intro a F
 refine wl_ev (wn rfl) (ev_lenSh ha_1 rfl tu31) F S rfl rfl ?_; clear F a; intro a F
 refine wl_ev (wn rfl) (ev_move rfl) F S rfl rfl ?_; clear F a; intro a F
 refine wl_ev (wn rfl) (ev_lenSh hb_1 rfl tu31) F S rfl rfl ?_; clear F a; intro a F
 refine wl_ev (wn rfl) (ev_int rfl rfl (bo_neq _ _ _ _)) F S rfl rfl ?_; clear F a; intro a F
 refine wpList_nil ?_
 replace F := F.sub (e' := [(10, .bool (!decide ((a_.length : Int) = (b_.length : Int)))), (0, va_1), (1, vb_1)]) ⟨rfl, rfl, rfl, trivial⟩
 refine then_n ?_
 obtain ⟨hc1, hm⟩ | ⟨hc1, hm⟩ := ite_or hm
 ·refine wp_condT F rfl hc1 ?_
  refine wp_seq ?_
  refine wp_region_lit ?_
  refine wl_ev (wn rfl) (ev_assign rfl) F S rfl rfl ?_; clear F a; intro a F
  refine wpList_nil ?_
  replace F := F.sub (e' := [(4, .bool false)]) ⟨rfl, trivial⟩
  refine then_n ?_
  refine wp_ret ?_
  refine then_r ?_
  obtain rfl := sinj hm
  refine post_r (fn := Try.f17) (rs := [.tmp 4]) [.bool false] F rfl (ar_cons (resT rfl) ar_nil) ?_
  exact ⟨_, rfl, g, (Le.refl _), S, rfl⟩
 ·refine wp_condF F rfl hc1 ?_
  refine wp_skip ?_
  refine then_n ?_
  refine wp_cut (fun a w => ∃ (g1 : Gh), Fr 26 a [] ∧ Le g g1 ∧ St g1 [] fr w ∧ changeforgeequal_Strings.j1 = some r) ?_ ?_
  ·refine wp_seq ?_
   refine wp_region_lit ?_
   refine wl_ev (wn rfl) (ev_assign rfl) F S rfl rfl ?_; clear F a; intro a F
   refine wpList_nil ?_
   replace F := F.sub (e' := [(5, .int .i64 0), (0, va_1), (1, vb_1)]) ⟨rfl, rfl, rfl, trivial⟩
   refine then_n ?_
   refine wp_block ?_
   obtain ⟨r1, hr1, hm⟩ := bind_some hm
   have hmo1 := hm; clear hm
   refine wp_iter (σ := Int) (ρ := Bool ⊕ Unit) (m := fun s => changeforgeequal_Strings.l1 a_ b_ s) (I := fun x1 a w => ∃ (g2 : Gh), Fr 26 a [(5, .int .i64 x1), (0, va_1), (1, vb_1)] ∧ Le g g2 ∧ St g2 [] fr w) hr1 ?_ ?_
   ·exact ⟨g, F.sub ⟨rfl, rfl, rfl, trivial⟩, (Le.refl _), S⟩
   ·clear F S; rintro x1 a w x2 ⟨g2, F, l2, S⟩ hx1 hfin1
    have hm : changeforgeequal_Strings.l1 a_ b_ x1 = some x2 := hx1; clear hx1
    unfold changeforgeequal_Strings.l1 at hm
    refine wp_seq ?_
    refine wp_seq ?_
    refine wp_region_lit ?_
    refine wl_ev (wn rfl) (ev_move rfl) F S rfl rfl ?_; clear F a; intro a F
    refine wl_ev (wn rfl) (ev_move rfl) F S rfl rfl ?_; clear F a; intro a F
    refine wl_ev (wn rfl) (ev_lenSh ha_1 rfl tu31) F S rfl rfl ?_; clear F a; intro a F
    refine wl_ev (wn rfl) (ev_int rfl rfl (bo_lss _ _ _ _)) F S rfl rfl ?_; clear F a; intro a F
    refine wpList_nil ?_
    replace F := F.sub (e' := [(14, .bool (decide (x1 < (a_.length : Int)))), (5, .int .i64 x1), (0, va_1), (1, vb_1)]) ⟨rfl, rfl, rfl, rfl, trivial⟩
    refine then_n ?_
    obtain ⟨hc2, hm⟩ | ⟨hc2, hm⟩ := ite_or hm
    ·refine wp_condT F rfl hc2 ?_
     refine wp_skip ?_
     refine then_n ?_
     refine wp_seq ?_
     refine wp_block ?_
     refine wp_seq ?_
     refine wp_quiet mo (by kernel_rfl) S ?_
     refine wq_ev (wn rfl) (ev_move rfl) F rfl rfl ?_; clear F a; intro a F
     refine wq_ev (wn rfl) (ev_move rfl) F rfl rfl ?_; clear F a; intro a F
     obtain ⟨y1, hy1, hm⟩ := bind_some hm
     obtain ⟨cs1, hr2, hp1⟩ := elemS (ha_1.mono l2) hy1
     obtain rfl := rep_str hr2
     refine wq_ev (wn rfl) (ev_idxS (ha_1.mono l2) hy1 tu31 ts9 rfl rfl) F rfl rfl ?_; clear F a; intro a F
     refine wq_ev (wn rfl) (ev_load1 tu9 rfl rfl (ptr_mono (cks := []) (fr := fr) hp1 (Le.refl _))) F rfl rfl ?_; clear F a; intro a F
     refine wq_ev (wn rfl) (ev_move rfl) F rfl rfl ?_; clear F a; intro a F
     refine wq_ev (wn rfl) (ev_move rfl) F rfl rfl ?_; clear F a; intro a F
     obtain ⟨y2, hy2, hm⟩ := bind_some hm
     obtain ⟨cs2, hr3, hp2⟩ := elemS (hb_1.mono l2) hy2
     obtain rfl := rep_str hr3
     refine wq_ev (wn rfl) (ev_idxS (hb_1.mono l2) hy2 tu31 ts9 rfl rfl) F rfl rfl ?_; clear F a; intro a F
     refine wq_ev (wn rfl) (ev_load1 tu9 rfl rfl (ptr_mono (cks := []) (fr := fr) hp2 (Le.refl _))) F rfl rfl ?_; clear F a; intro a F
     refine wq_ev (wn rfl) (ev_str rfl rfl (bs_neq _ _ _)) F rfl rfl ?_; clear F a; intro a F
     refine wq_nil ?_; clear S; intro w S
     replace F := F.sub (e' := [(25, .bool (!decide (y1 = y2))), (5, .int .i64 x1), (0, va_1), (1, vb_1)]) ⟨rfl, rfl, rfl, rfl, trivial⟩
     refine then_n ?_
     obtain ⟨hc3, hm⟩ | ⟨hc3, hm⟩ := ite_or hm
     ·refine wp_condT F rfl hc3 ?_
      refine wp_seq ?_
      refine wp_region_lit ?_
      refine wl_ev (wn rfl) (ev_assign rfl) F S rfl rfl ?_; clear F a; intro a F
      refine wpList_nil ?_
      replace F := F.sub (e' := [(4, .bool false)]) ⟨rfl, trivial⟩
      refine then_n ?_
      refine wp_ret ?_
      refine inb_r ?_
      refine then_r ?_
      refine then_r ?_
      refine inb_r ?_
      refine then_r ?_
      obtain rfl := sinj hm
      obtain rfl := hfin1 _ rfl
      clear hm
      have hm : (some false : Option Bool) = some _ := hmo1
      obtain rfl := sinj hm
      refine post_r (fn := Try.f17) (rs := [.tmp 4]) [.bool false] F rfl (ar_cons (resT rfl) ar_nil) ?_
      exact ⟨_, rfl, g2, l2, S, rfl⟩
     ·refine wp_condF F rfl hc3 ?_
      refine wp_skip ?_
      refine inb_n ?_
      refine then_n ?_
      refine wp_region_lit ?_
      refine wl_ev (wn rfl) (ev_move rfl) F S rfl rfl ?_; clear F a; intro a F
      obtain ⟨z1, hz1, hm⟩ := bind_some hm
      refine wl_ev (wn rfl) (ev_int rfl rfl (bo_add hz1)) F S rfl rfl ?_; clear F a; intro a F
      refine wl_ev (wn rfl) (ev_assign rfl) F S rfl rfl ?_; clear F a; intro a F
      refine wpList_nil ?_
      replace F := F.sub (e' := [(5, .int .i64 z1), (0, va_1), (1, vb_1)]) ⟨rfl, rfl, rfl, trivial⟩
      refine then_n ?_
      obtain rfl := sinj hm
      refine ⟨_, rfl, ?_⟩
      exact ⟨g2, F.sub ⟨rfl, rfl, rfl, trivial⟩, l2, S⟩
    ·refine wp_condF F rfl hc2 ?_
     refine wp_exit ?_
     refine then_e ?_
     refine then_e ?_
     refine inb_x ?_
     refine then_n ?_
     obtain rfl := sinj hm
     obtain rfl := hfin1 _ rfl
     clear hm
     have hm : (changeforgeequal_Strings.j1 : Option Bool) = some _ := hmo1
     exact ⟨g2, F.sub trivial, l2, S, hm⟩
  ·clear F S hm; rintro a w ⟨g1, F, l1, S, hm⟩
   refine wp_seq ?_
   refine wp_region_lit ?_
   refine wl_ev (wn rfl) (ev_assign rfl) F S rfl rfl ?_; clear F a; intro a F
   refine wpList_nil ?_
   refine then_n ?_
   refine wp_ret ?_
   obtain rfl := sinj hm
   refine post_r (fn := Try.f17) (rs := [.tmp 4]) [.bool true] F rfl (ar_cons (resT rfl) ar_nil) ?_
   exact ⟨_, rfl, g1, l1, S, rfl⟩

theorem changeforgeequal_Patch_ok {g : Gh} {fr : Hl} {w : World} {r : Bool} (a_ : Patch) (va_1 : Value) (ha_1 : RepSl g a_.Hunks va_1) (b_ : Patch) (vb_1 : Value) (hb_1 : RepSl g b_.Hunks vb_1) (S : St g [] fr w) (hm : changeforgeequal_Patch a_ b_ = some r) :
  Calls Try.prog 28 [.agg #[va_1], .agg #[vb_1]].toArray w (fun en w' => ∃ v, en = .returned v ∧ ∃ (g' : Gh), Le g g' ∧ St g' [] fr w' ∧ .bool r = v) := by
 unfold changeforgeequal_Patch at hm
 refine calls_enter (fn := Try.f28) Try.func28 rfl Try.ntmps28 (lb rfl) ?_
 intro a F
 replace F : Fr 65 a [(0, .agg #[va_1]), (1, .agg #[vb_1])] := F
 refine wp_seq ?_
 refine wp_region_lit ?_
 refine wl_boxC (wn rfl) rfl rfl rfl F S rfl rfl ?_; clear F a S; rintro b1 a w F S
 refine wl_boxC (wn rfl) rfl rfl rfl F S rfl rfl ?_; clear F a S; rintro b2 a w F S
 refine wl_ev (wn rfl) (ev_assign rfl) F S rfl rfl ?_; clear F a; intro a F
 refine wpList_nil ?_
 replace F := F.sub (e' := [(3, bp b2 0), (2, bp b1 0)]) ⟨rfl, rfl, trivial⟩
 refine then_n ?_
 refine wp_seq ?_
 refine wp_seq ?_
 refine wp_region_lit ?_
 refine wl_ev (wn rfl) (ev_fieldAddr' tu38 tf38_0 (z := 0) ts36 rfl ⟨_, rfl⟩ rfl) F S rfl rfl ?_; clear F a; intro a F
 refine wl_ev (wn rfl) (ev_load1 tu36 rfl rfl (box_ptr (cells := [va_1]) 1 rfl 0 rfl (lb rfl))) F S rfl rfl ?_; clear F a; intro a F
 refine wl_ev (wn rfl) (ev_lenSh ha_1 rfl tu36) F S rfl rfl ?_; clear F a; intro a F
 refine wl_ev (wn rfl) (ev_fieldAddr' tu38 tf38_0 (z := 0) ts36 rfl ⟨_, rfl⟩ rfl) F S rfl rfl ?_; clear F a; intro a F
 refine wl_ev (wn rfl) (ev_load1 tu36 rfl rfl (box_ptr (cells := [vb_1]) 0 rfl 0 rfl (lb rfl))) F S rfl rfl ?_; clear F a; intro a F
 refine wl_ev (wn rfl) (ev_lenSh hb_1 rfl tu36) F S rfl rfl ?_; clear F a; intro a F
 refine wl_ev (wn rfl) (ev_int rfl rfl (bo_neq _ _ _ _)) F S rfl rfl ?_; clear F a; intro a F
 refine wpList_nil ?_
 replace F := F.sub (e' := [(12, .bool (!decide ((a_.Hunks.length : Int) = (b_.Hunks.length : Int)))), (3, bp b2 0), (2, bp b1 0)]) ⟨rfl, rfl, rfl, trivial⟩
 refine then_n ?_
 obtain ⟨hc1, hm⟩ | ⟨hc1, hm⟩ := ite_or hm
 ·refine wp_condT F rfl hc1 ?_
  refine wp_seq ?_
  refine wp_region_lit ?_
  refine wl_ev (wn rfl) (ev_assign rfl) F S rfl rfl ?_; clear F a; intro a F
  refine wpList_nil ?_
  replace F := F.sub (e' := [(4, .bool false)]) ⟨rfl, trivial⟩
  refine then_n ?_
  refine wp_ret ?_
  refine then_r ?_
  obtain rfl := sinj hm
  refine post_r (fn := Try.f28) (rs := [.tmp 4]) [.bool false] F rfl (ar_cons (resT rfl) ar_nil) ?_
  replace S : St g [] fr w := St.tail [] _ S
  exact ⟨_, rfl, g, (Le.refl _), S, rfl⟩
 ·refine wp_condF F rfl hc1 ?_
  refine wp_skip ?_
  refine then_n ?_
  refine wp_cut (fun a w => ∃ (g1 : Gh), Fr 65 a [] ∧ Le g g1 ∧ St g1 [] fr w ∧ changeforgeequal_Patch.j1 = some r) ?_ ?_
  ·refine wp_seq ?_
   refine wp_region_lit ?_
   refine wl_ev (wn rfl) (ev_assign rfl) F S rfl rfl ?_; clear F a; intro a F
   refine wpList_nil ?_
   replace F := F.sub (e' := [(5, .int .i64 0), (3, bp b2 0), (2, bp b1 0)]) ⟨rfl, rfl, rfl, trivial⟩
   refine then_n ?_
   refine wp_block ?_
   obtain ⟨r1, hr1, hm⟩ := bind_some hm
   have hmo1 := hm; clear hm
   refine wp_iter (σ := Int) (ρ := Bool ⊕ Unit) (m := fun s => changeforgeequal_Patch.l1 a_ b_ s) (I := fun x1 a w => ∃ (g2 : Gh), Fr 65 a [(5, .int .i64 x1), (3, bp b2 0), (2, bp b1 0)] ∧ Le g g2 ∧ St g2 [[(b2, .cells #[vb_1] 38 (0, 0))], [(b1, .cells #[va_1] 38 (0, 0))]] fr w) hr1 ?_ ?_
   ·exact ⟨g, F.sub ⟨rfl, rfl, rfl, trivial⟩, (Le.refl _), S⟩
   ·clear F S; rintro x1 a w x2 ⟨g2, F, l2, S⟩ hx1 hfin1
    have hm : changeforgeequal_Patch.l1 a_ b_ x1 = some x2 := hx1; clear hx1
    unfold changeforgeequal_Patch.l1 at hm
    refine wp_seq ?_
    refine wp_seq ?_
    refine wp_region_lit ?_
    refine wl_ev (wn rfl) (ev_move rfl) F S rfl rfl ?_; clear F a; intro a F
    refine wl_ev (wn rfl) (ev_fieldAddr' tu38 tf38_0 (z := 0) ts36 rfl ⟨_, rfl⟩ rfl) F S rfl rfl ?_; clear F a; intro a F
    refine wl_ev (wn rfl) (ev_load1 tu36 rfl rfl (box_ptr (cells := [va_1]) 1 rfl 0 rfl (lb rfl))) F S rfl rfl ?_; clear F a; intro a F
    refine wl_ev (wn rfl) (ev_lenSh ha_1 rfl tu36) F S rfl rfl ?_; clear F a; intro a F
    refine wl_ev (wn rfl) (ev_int rfl rfl (bo_lss _ _ _ _)) F S rfl rfl ?_; clear F a; intro a F
    refine wpList_nil ?_
    replace F := F.sub (e' := [(17, .bool (decide (x1 < (a_.Hunks.length : Int)))), (5, .int .i64 x1), (3, bp b2 0), (2, bp b1 0)]) ⟨rfl, rfl, rfl, rfl, trivial⟩
    refine then_n ?_
    obtain ⟨hc2, hm⟩ | ⟨hc2, hm⟩ := ite_or hm
    ·refine wp_condT F rfl hc2 ?_
     refine wp_skip ?_
     refine then_n ?_
     refine wp_seq ?_
     refine wp_block ?_
     refine wp_seq ?_
     refine wp_quiet mo (by kernel_rfl) S ?_
     refine wq_ev (wn rfl) (ev_fieldAddr' tu38 tf38_0 (z := 0) ts36 rfl ⟨_, rfl⟩ rfl) F rfl rfl ?_; clear F a; intro a F
     refine wq_ev (wn rfl) (ev_load1 tu36 rfl rfl (box_ptr (cells := [va_1]) 1 rfl 0 rfl (lb rfl))) F rfl rfl ?_; clear F a; intro a F
     refine wq_ev (wn rfl) (ev_move rfl) F rfl rfl ?_; clear F a; intro a F
     obtain ⟨y1, hy1, hm⟩ := bind_some hm
     obtain ⟨cs1, hr2, hp1⟩ := elemS (ha_1.mono l2) hy1
     obtain ⟨v1, v2, rfl, h1, h2⟩ := rep_Hunk hr2
     refine wq_ev (wn rfl) (ev_idxS (ha_1.mono l2) hy1 tu36 ts60 rfl rfl) F rfl rfl ?_; clear F a; intro a F
     have hp2 := PtrC.field hp1 0 1 (lb rfl)
     have hp2 : PtrC g2 (addP (elemP va_1 x1 3) 0) [.int .i64 y1.At] := hp2
     refine wq_ev (wn rfl) (ev_fieldAddr' tu60 tf60_0 (z := 0) ts3 rfl hp1.ptr rfl) F rfl rfl ?_; clear F a; intro a F
     refine wq_ev (wn rfl) (ev_load1 tu3 rfl rfl (ptr_mono (cks := [[(b2, .cells #[vb_1] 38 (0, 0))], [(b1, .cells #[va_1] 38 (0, 0))]]) (fr := fr) hp2 (Le.refl _))) F rfl rfl ?_; clear F a; intro a F
     refine wq_ev (wn rfl) (ev_fieldAddr' tu38 tf38_0 (z := 0) ts36 rfl ⟨_, rfl⟩ rfl) F rfl rfl ?_; clear F a; intro a F
     refine wq_ev (wn rfl) (ev_load1 tu36 rfl rfl (box_ptr (cells := [vb_1]) 0 rfl 0 rfl (lb rfl))) F rfl rfl ?_; clear F a; intro a F
     refine wq_ev (wn rfl) (ev_move rfl) F rfl rfl ?_; clear F a; intro a F
     obtain ⟨y2, hy2, hm⟩ := bind_some hm
     obtain ⟨cs2, hr3, hp3⟩ := elemS (hb_1.mono l2) hy2
     obtain ⟨v3, v4, rfl, h3, h4⟩ := rep_Hunk hr3
     refine wq_ev (wn rfl) (ev_idxS (hb_1.mono l2) hy2 tu36 ts60 rfl rfl) F rfl rfl ?_; clear F a; intro a F
     have hp4 := PtrC.field hp3 0 1 (lb rfl)
     have hp4 : PtrC g2 (addP (elemP vb_1 x1 3) 0) [.int .i64 y2.At] := hp4
     refine wq_ev (wn rfl) (ev_fieldAddr' tu60 tf60_0 (z := 0) ts3 rfl hp3.ptr rfl) F rfl rfl ?_; clear F a; intro a F
     refine wq_ev (wn rfl) (ev_load1 tu3 rfl rfl (ptr_mono (cks := [[(b2, .cells #[vb_1] 38 (0, 0))], [(b1, .cells #[va_1] 38 (0, 0))]]) (fr := fr) hp4 (Le.refl _))) F rfl rfl ?_; clear F a; intro a F
     refine wq_ev (wn rfl) (ev_int rfl rfl (bo_neq _ _ _ _)) F rfl rfl ?_; clear F a; intro a F
     refine wq_ev (wn rfl) (ev_move rfl) F rfl rfl ?_; clear F a; intro a F
     obtain ⟨x3, hx2, hm⟩ := bind_some hm
     refine wq_cut 15 (fun a => Fr 65 a [(48, .bool x3), (5, .int .i64 x1), (3, bp b2 0), (2, bp b1 0)]) ?_ ?_
     ·clear hm; obtain ⟨hc3, hm⟩ | ⟨hc3, hm⟩ := ite_or hx2
      ·refine wq_skip rfl rfl rfl rfl (ne_ft hc3) F rfl rfl ?_; clear F a; intro a F
       refine wq_skip rfl rfl rfl rfl (ne_ft hc3) F rfl rfl ?_; clear F a; intro a F
       refine wq_skip rfl rfl rfl rfl (ne_ft hc3) F rfl rfl ?_; clear F a; intro a F
       refine wq_skip rfl rfl rfl rfl (ne_ft hc3) F rfl rfl ?_; clear F a; intro a F
       refine wq_skip rfl rfl rfl rfl (ne_ft hc3) F rfl rfl ?_; clear F a; intro a F
       refine wq_skip rfl rfl rfl rfl (ne_ft hc3) F rfl rfl ?_; clear F a; intro a F
       refine wq_skip rfl rfl rfl rfl (ne_ft hc3) F rfl rfl ?_; clear F a; intro a F
       refine wq_skip rfl rfl rfl rfl (ne_ft hc3) F rfl rfl ?_; clear F a; intro a F
       refine wq_skip rfl rfl rfl rfl (ne_ft hc3) F rfl rfl ?_; clear F a; intro a F
       refine wq_skip rfl rfl rfl rfl (ne_ft hc3) F rfl rfl ?_; clear F a; intro a F
       refine wq_skip rfl rfl rfl rfl (ne_ft hc3) F rfl rfl ?_; clear F a; intro a F
       refine wq_skip rfl rfl rfl rfl (ne_ft hc3) F rfl rfl ?_; clear F a; intro a F
       refine wq_skip rfl rfl rfl rfl (ne_ft hc3) F rfl rfl ?_; clear F a; intro a F
       refine wq_skip rfl rfl rfl rfl (ne_ft hc3) F rfl rfl ?_; clear F a; intro a F
       refine wq_ev (wn rfl) (ev_pickT rfl hc3 rfl) F rfl rfl ?_; clear F a; intro a F
       obtain rfl := sinj hm
       refine wq_nil ?_; exact F.sub ⟨rfl, rfl, rfl, rfl, trivial⟩
      ·refine wq_ev (wg F rfl rfl rfl rfl hc3) (ev_fieldAddr' tu38 tf38_0 (z := 0) ts36 rfl ⟨_, rfl⟩ rfl) F rfl rfl ?_; clear F a; intro a F
       refine wq_ev (wg F rfl rfl rfl rfl hc3) (ev_load1 tu36 rfl rfl (box_ptr (cells := [va_1]) 1 rfl 0 rfl (lb rfl))) F rfl rfl ?_; clear F a; intro a F
       refine wq_ev (wg F rfl rfl rfl rfl hc3) (ev_move rfl) F rfl rfl ?_; clear F a; intro a F
       obtain ⟨y3, hy3, hm⟩ := bind_some hm
       obtain ⟨cs3, hr4, hp5⟩ := elemS (ha_1.mono l2) hy3
       obtain ⟨v5, v6, rfl, h5, h6⟩ := rep_Hunk hr4
       refine wq_ev (wg F rfl rfl rfl rfl hc3) (ev_idxS (ha_1.mono l2) hy3 tu36 ts60 rfl rfl) F rfl rfl ?_; clear F a; intro a F
       have hp6 := PtrC.field hp5 1 1 (lb rfl)
       have hp6 : PtrC g2 (addP (elemP va_1 x1 3) 1) [v5] := hp6
       refine wq_ev (wg F rfl rfl rfl rfl hc3) (ev_fieldAddr' tu60 tf60_1 (z := 0) ts31 rfl hp5.ptr rfl) F rfl rfl ?_; clear F a; intro a F
       refine wq_ev (wg F rfl rfl rfl rfl hc3) (ev_load1 tu31 rfl rfl (ptr_mono (cks := [[(b2, .cells #[vb_1] 38 (0, 0))], [(b1, .cells #[va_1] 38 (0, 0))]]) (fr := fr) hp6 (Le.refl _))) F rfl rfl ?_; clear F a; intro a F
       refine wq_ev (wg F rfl rfl rfl rfl hc3) (ev_fieldAddr' tu38 tf38_0 (z := 0) ts36 rfl ⟨_, rfl⟩ rfl) F rfl rfl ?_; clear F a; intro a F
       refine wq_ev (wg F rfl rfl rfl rfl hc3) (ev_load1 tu36 rfl rfl (box_ptr (cells := [vb_1]) 0 rfl 0 rfl (lb rfl))) F rfl rfl ?_; clear F a; intro a F
       refine wq_ev (wg F rfl rfl rfl rfl hc3) (ev_move rfl) F rfl rfl ?_; clear F a; intro a F
       obtain ⟨y4, hy4, hm⟩ := bind_some hm
       obtain ⟨cs4, hr5, hp7⟩ := elemS (hb_1.mono l2) hy4
       obtain ⟨v7, v8, rfl, h7, h8⟩ := rep_Hunk hr5
       refine wq_ev (wg F rfl rfl rfl rfl hc3) (ev_idxS (hb_1.mono l2) hy4 tu36 ts60 rfl rfl) F rfl rfl ?_; clear F a; intro a F
       have hp8 := PtrC.field hp7 1 1 (lb rfl)
       have hp8 : PtrC g2 (addP (elemP vb_1 x1 3) 1) [v7] := hp8
       refine wq_ev (wg F rfl rfl rfl rfl hc3) (ev_fieldAddr' tu60 tf60_1 (z := 0) ts31 rfl hp7.ptr rfl) F rfl rfl ?_; clear F a; intro a F
       refine wq_ev (wg F rfl rfl rfl rfl hc3) (ev_load1 tu31 rfl rfl (ptr_mono (cks := [[(b2, .cells #[vb_1] 38 (0, 0))], [(b1, .cells #[va_1] 38 (0, 0))]]) (fr := fr) hp8 (Le.refl _))) F rfl rfl ?_; clear F a; intro a F
       obtain ⟨y5, hy5, hm⟩ := bind_some hm
       refine wq_call (wg F rfl rfl rfl rfl hc3) rfl (xs := [.tmp 39, .tmp 45]) (vs := [v5, v7]) (cap := []) F rfl rfl tc17 (v := .bool y5) (fun w S => (changeforgeequal_Strings_ok (g := g2) (fr := (fl [[(b2, .cells #[vb_1] 38 (0, 0))], [(b1, .cells #[va_1] 38 (0, 0))]] fr)) (w := w) y3.Old v5 h5 y4.Old v7 h7 S hy5).mono (by rintro en w' ⟨_, rfl, g2, l2, S2, rfl⟩; exact ⟨rfl, S2.weak l2⟩)) rfl rfl ?_; clear F a; intro a F
       refine wq_ev (wg F rfl rfl rfl rfl hc3) (ev_not rfl) F rfl rfl ?_; clear F a; intro a F
       refine wq_ev (wn rfl) (ev_pickF rfl hc3 rfl) F rfl rfl ?_; clear F a; intro a F
       obtain rfl := sinj hm
       refine wq_nil ?_; exact F.sub ⟨rfl, rfl, rfl, rfl, trivial⟩
     clear F; intro a F
     refine wq_ev (wn rfl) (ev_move rfl) F rfl rfl ?_; clear F a; intro a F
     obtain ⟨x4, hx3, hm⟩ := bind_some hm
     refine wq_cut 15 (fun a => Fr 65 a [(64, .bool x4), (5, .int .i64 x1), (3, bp b2 0), (2, bp b1 0)]) ?_ ?_
     ·clear hm; obtain ⟨hc4, hm⟩ | ⟨hc4, hm⟩ := ite_or hx3
      ·refine wq_skip rfl rfl rfl rfl (ne_ft hc4) F rfl rfl ?_; clear F a; intro a F
       refine wq_skip rfl rfl rfl rfl (ne_ft hc4) F rfl rfl ?_; clear F a; intro a F
       refine wq_skip rfl rfl rfl rfl (ne_ft hc4) F rfl rfl ?_; clear F a; intro a F
       refine wq_skip rfl rfl rfl rfl (ne_ft hc4) F rfl rfl ?_; clear F a; intro a F
       refine wq_skip rfl rfl rfl rfl (ne_ft hc4) F rfl rfl ?_; clear F a; intro a F
       refine wq_skip rfl rfl rfl rfl (ne_ft hc4) F rfl rfl ?_; clear F a; intro a F
       refine wq_skip rfl rfl rfl rfl (ne_ft hc4) F rfl rfl ?_; clear F a; intro a F
       refine wq_skip rfl rfl rfl rfl (ne_ft hc4) F rfl rfl ?_; clear F a; intro a F
       refine wq_skip rfl rfl rfl rfl (ne_ft hc4) F rfl rfl ?_; clear F a; intro a F
       refine wq_skip rfl rfl rfl rfl (ne_ft hc4) F rfl rfl ?_; clear F a; intro a F
       refine wq_skip rfl rfl rfl rfl (ne_ft hc4) F rfl rfl ?_; clear F a; intro a F
       refine wq_skip rfl rfl rfl rfl (ne_ft hc4) F rfl rfl ?_; clear F a; intro a F
       refine wq_skip rfl rfl rfl rfl (ne_ft hc4) F rfl rfl ?_; clear F a; intro a F
       refine wq_skip rfl rfl rfl rfl (ne_ft hc4) F rfl rfl ?_; clear F a; intro a F
       refine wq_ev (wn rfl) (ev_pickT rfl hc4 rfl) F rfl rfl ?_; clear F a; intro a F
       obtain rfl := sinj hm
       refine wq_nil ?_; exact F.sub ⟨rfl, rfl, rfl, rfl, trivial⟩
      ·refine wq_ev (wg F rfl rfl rfl rfl hc4) (ev_fieldAddr' tu38 tf38_0 (z := 0) ts36 rfl ⟨_, rfl⟩ rfl) F rfl rfl ?_; clear F a; intro a F
       refine wq_ev (wg F rfl rfl rfl rfl hc4) (ev_load1 tu36 rfl rfl (box_ptr (cells := [va_1]) 1 rfl 0 rfl (lb rfl))) F rfl rfl ?_; clear F a; intro a F
       refine wq_ev (wg F rfl rfl rfl rfl hc4) (ev_move rfl) F rfl rfl ?_; clear F a; intro a F
       obtain ⟨y6, hy6, hm⟩ := bind_some hm
       obtain ⟨cs5, hr6, hp9⟩ := elemS (ha_1.mono l2) hy6
       obtain ⟨v9, v10, rfl, h9, h10⟩ := rep_Hunk hr6
       refine wq_ev (wg F rfl rfl rfl rfl hc4) (ev_idxS (ha_1.mono l2) hy6 tu36 ts60 rfl rfl) F rfl rfl ?_; clear F a; intro a F
       have hp10 := PtrC.field hp9 2 1 (lb rfl)
       have hp10 : PtrC g2 (addP (elemP va_1 x1 3) 2) [v10] := hp10
       refine wq_ev (wg F rfl rfl rfl rfl hc4) (ev_fieldAddr' tu60 tf60_2 (z := 0) ts31 rfl hp9.ptr rfl) F rfl rfl ?_; clear F a; intro a F
       refine wq_ev (wg F rfl rfl rfl rfl hc4) (ev_load1 tu31 rfl rfl (ptr_mono (cks := [[(b2, .cells #[vb_1] 38 (0, 0))], [(b1, .cells #[va_1] 38 (0, 0))]]) (fr := fr) hp10 (Le.refl _))) F rfl rfl ?_; clear F a; intro a F
       refine wq_ev (wg F rfl rfl rfl rfl hc4) (ev_fieldAddr' tu38 tf38_0 (z := 0) ts36 rfl ⟨_, rfl⟩ rfl) F rfl rfl ?_; clear F a; intro a F
       refine wq_ev (wg F rfl rfl rfl rfl hc4) (ev_load1 tu36 rfl rfl (box_ptr (cells := [vb_1]) 0 rfl 0 rfl (lb rfl))) F rfl rfl ?_; clear F a; intro a F
       refine wq_ev (wg F rfl rfl rfl rfl hc4) (ev_move rfl) F rfl rfl ?_; clear F a; intro a F
       obtain ⟨y7, hy7, hm⟩ := bind_some hm
       obtain ⟨cs6, hr7, hp11⟩ := elemS (hb_1.mono l2) hy7
       obtain ⟨v11, v12, rfl, h11, h12⟩ := rep_Hunk hr7
       refine wq_ev (wg F rfl rfl rfl rfl hc4) (ev_idxS (hb_1.mono l2) hy7 tu36 ts60 rfl rfl) F rfl rfl ?_; clear F a; intro a F
       have hp12 := PtrC.field hp11 2 1 (lb rfl)
       have hp12 : PtrC g2 (addP (elemP vb_1 x1 3) 2) [v12] := hp12
       refine wq_ev (wg F rfl rfl rfl rfl hc4) (ev_fieldAddr' tu60 tf60_2 (z := 0) ts31 rfl hp11.ptr rfl) F rfl rfl ?_; clear F a; intro a F
       refine wq_ev (wg F rfl rfl rfl rfl hc4) (ev_load1 tu31 rfl rfl (ptr_mono (cks := [[(b2, .cells #[vb_1] 38 (0, 0))], [(b1, .cells #[va_1] 38 (0, 0))]]) (fr := fr) hp12 (Le.refl _))) F rfl rfl ?_; clear F a; intro a F
       obtain ⟨y8, hy8, hm⟩ := bind_some hm
       refine wq_call (wg F rfl rfl rfl rfl hc4) rfl (xs := [.tmp 55, .tmp 61]) (vs := [v10, v12]) (cap := []) F rfl rfl tc17 (v := .bool y8) (fun w S => (changeforgeequal_Strings_ok (g := g2) (fr := (fl [[(b2, .cells #[vb_1] 38 (0, 0))], [(b1, .cells #[va_1] 38 (0, 0))]] fr)) (w := w) y6.New v10 h10 y7.New v12 h12 S hy8).mono (by rintro en w' ⟨_, rfl, g2, l2, S2, rfl⟩; exact ⟨rfl, S2.weak l2⟩)) rfl rfl ?_; clear F a; intro a F
       refine wq_ev (wg F rfl rfl rfl rfl hc4) (ev_not rfl) F rfl rfl ?_; clear F a; intro a F
       refine wq_ev (wn rfl) (ev_pickF rfl hc4 rfl) F rfl rfl ?_; clear F a; intro a F
       obtain rfl := sinj hm
       refine wq_nil ?_; exact F.sub ⟨rfl, rfl, rfl, rfl, trivial⟩
     clear F; intro a F
     refine wq_nil ?_; clear S; intro w S
     refine then_n ?_
     obtain ⟨hc5, hm⟩ | ⟨hc5, hm⟩ := ite_or hm
     ·refine wp_condT F rfl hc5 ?_
      refine wp_seq ?_
      refine wp_region_lit ?_
      refine wl_ev (wn rfl) (ev_assign rfl) F S rfl rfl ?_; clear F a; intro a F
      refine wpList_nil ?_
      replace F := F.sub (e' := [(4, .bool false)]) ⟨rfl, trivial⟩
      refine then_n ?_
      refine wp_ret ?_
      refine inb_r ?_
      refine then_r ?_
      refine then_r ?_
      refine inb_r ?_
      refine then_r ?_
      obtain rfl := sinj hm
      obtain rfl := hfin1 _ rfl
      clear hm
      have hm : (some false : Option Bool) = some _ := hmo1
      obtain rfl := sinj hm
      refine post_r (fn := Try.f28) (rs := [.tmp 4]) [.bool false] F rfl (ar_cons (resT rfl) ar_nil) ?_
      replace S : St g2 [] fr w := St.tail [] _ S
      exact ⟨_, rfl, g2, l2, S, rfl⟩
     ·refine wp_condF F rfl hc5 ?_
      refine wp_skip ?_
      refine inb_n ?_
      refine then_n ?_
      refine wp_region_lit ?_
      refine wl_ev (wn rfl) (ev_move rfl) F S rfl rfl ?_; clear F a; intro a F
      obtain ⟨z1, hz1, hm⟩ := bind_some hm
      refine wl_ev (wn rfl) (ev_int rfl rfl (bo_add hz1)) F S rfl rfl ?_; clear F a; intro a F
      refine wl_ev (wn rfl) (ev_assign rfl) F S rfl rfl ?_; clear F a; intro a F
      refine wpList_nil ?_
      replace F := F.sub (e' := [(5, .int .i64 z1), (3, bp b2 0), (2, bp b1 0)]) ⟨rfl, rfl, rfl, trivial⟩
      refine then_n ?_
      obtain rfl := sinj hm
      refine ⟨_, rfl, ?_⟩
      exact ⟨g2, F.sub ⟨rfl, rfl, rfl, trivial⟩, l2, S⟩
    ·refine wp_condF F rfl hc2 ?_
     refine wp_exit ?_
     refine then_e ?_
     refine then_e ?_
     refine inb_x ?_
     refine then_n ?_
     obtain rfl := sinj hm
     obtain rfl := hfin1 _ rfl
     clear hm
     have hm : (changeforgeequal_Patch.j1 : Option Bool) = some _ := hmo1
     replace S : St g2 [] fr w := St.tail [] _ S
     exact ⟨g2, F.sub trivial, l2, S, hm⟩
  ·clear F S hm; rintro a w ⟨g1, F, l1, S, hm⟩
   refine wp_seq ?_
   refine wp_region_lit ?_
   refine wl_ev (wn rfl) (ev_assign rfl) F S rfl rfl ?_; clear F a; intro a F
   refine wpList_nil ?_
   refine then_n ?_
   refine wp_ret ?_
   obtain rfl := sinj hm
   refine post_r (fn := Try.f28) (rs := [.tmp 4]) [.bool true] F rfl (ar_cons (resT rfl) ar_nil) ?_
   exact ⟨_, rfl, g1, l1, S, rfl⟩
end Go.Dc
