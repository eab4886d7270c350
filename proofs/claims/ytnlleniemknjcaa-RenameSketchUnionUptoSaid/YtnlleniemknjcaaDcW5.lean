/- Walks: each function comes to what its model says. -/
import Derived.Test.YtnlleniemknjcaaDcTab
import Derived.Test.YtnlleniemknjcaaDcM
import Derived.Test.YtnlleniemknjcaaDcW4
namespace Go.Dc
open Go Go.Proofs
set_option maxRecDepth 100000
set_option linter.unusedVariables false
theorem digest_Pair_ok {g : Gh} {fr : Hl} {w : World} {r : Int × Fault} (a_ : Int) (b_ : Int) (S : St g [] fr w) (hm : digest_Pair a_ b_ = some r) :
    Calls Try.prog 35 [.int .i64 a_, .int .i64 b_].toArray w (fun en w' => ∃ v, en = .returned v ∧ ∃ (g' : Gh), Le g g' ∧ St g' [] fr w' ∧ .tuple #[.int .i64 r.1, .agg #[.int .i64 r.2.Code, .int .i64 r.2.Index]] = v) := by
  unfold digest_Pair at hm
  refine calls_enter (fn := Try.f35) Try.func35 rfl Try.ntmps35 (Nat.le_of_ble_eq_true rfl) ?_
  intro a F
  replace F : Fr 25 a [(0, .int .i64 a_), (1, .int .i64 b_)] := F
  refine wp_seq ?_
  refine wp_region_lit ?_
  refine wl_ev (wn rfl) (ev_assign rfl) F S rfl rfl ?_; clear F a; intro a F
  refine wl_alloc (wn rfl) rfl tz25 (cs := [.int .i64 0, .int .i64 0]) rfl F S rfl rfl ?_; clear F a S; rintro b1 a w F S
  refine wpList_nil ?_
  replace F := F.sub (e' := [(5, .pointer (some ⟨b1, 0, Option.none⟩)), (0, .int .i64 a_), (1, .int .i64 b_)]) ⟨rfl, rfl, rfl, trivial⟩
  refine then_n ?_
  refine wp_cut (fun a w => ∃ (g1 : Gh), Fr 25 a [(5, .pointer (some ⟨b1, 0, Option.none⟩)), (0, .int .i64 a_), (1, .int .i64 b_)] ∧ Le g g1 ∧ St g1 [[(b1, .cells #[.int .i64 0, .int .i64 0] 25 (0, 0))]] fr w ∧ digest_Pair.j1 a_ b_ = some r) ?_ ?_
  · refine wp_seq ?_
    refine wp_region_lit ?_
    refine wl_ev (wn rfl) (ev_move rfl) F S rfl rfl ?_; clear F a; intro a F
    refine wl_ev (wn rfl) (ev_move rfl) F S rfl rfl ?_; clear F a; intro a F
    refine wl_ev (wn rfl) (ev_build (parts := [(0, .tmp 8), (1, .tmp 9)]) (vs := [(0, .int .i64 a_), (1, .int .i64 b_)]) rfl (fun w => tb77_0_1 a_ b_ w)) F S rfl rfl ?_; clear F a; intro a F
    refine wl_ev (wn rfl) (ev_move rfl) F S rfl rfl ?_; clear F a; intro a F
    refine wpList_nil ?_
    replace F := F.sub (e' := [(11, .int .i64 0), (10, .agg #[.int .i64 a_, .int .i64 b_]), (5, .pointer (some ⟨b1, 0, Option.none⟩)), (0, .int .i64 a_), (1, .int .i64 b_)]) ⟨rfl, rfl, rfl, rfl, rfl, trivial⟩
    refine then_n ?_
    refine wp_block ?_
    obtain ⟨r1, hr1, hm⟩ := bind_some hm
    have hmo1 := hm; clear hm
    refine wp_iter (σ := Int) (ρ := (Int × Fault) ⊕ Unit) (m := fun s => digest_Pair.l1 a_ b_ s) (I := fun x1 a w => ∃ (g3 : Gh), Fr 25 a [(11, .int .i64 x1), (10, .agg #[.int .i64 a_, .int .i64 b_]), (5, .pointer (some ⟨b1, 0, Option.none⟩)), (0, .int .i64 a_), (1, .int .i64 b_)] ∧ Le g g3 ∧ St g3 [[(b1, .cells #[.int .i64 0, .int .i64 0] 25 (0, 0))]] fr w) hr1 ?_ ?_
    · exact ⟨g, F.sub ⟨rfl, rfl, rfl, rfl, rfl, trivial⟩, (Le.refl _), S⟩
    · clear F S; rintro x1 a w x2 ⟨g3, F, l3, S⟩ hx1 hfin1
      have hm : digest_Pair.l1 a_ b_ x1 = some x2 := hx1; clear hx1
      unfold digest_Pair.l1 at hm
      refine wp_seq ?_
      refine wp_region_lit ?_
      refine wl_ev (wn rfl) (ev_int rfl rfl (bo_lss _ _ _ _)) F S rfl rfl ?_; clear F a; intro a F
      refine wpList_nil ?_
      refine then_n ?_
      refine wp_seq ?_
      obtain ⟨hc1, hm⟩ | ⟨hc1, hm⟩ := ite_or hm
      · refine wp_condT F rfl hc1 ?_
        refine wp_skip ?_
        refine then_n ?_
        refine wp_seq ?_
        refine wp_block ?_
        refine wp_seq ?_
        refine wp_region_lit ?_
        refine wl_ev (wn rfl) (ev_move rfl) F S rfl rfl ?_; clear F a; intro a F
        obtain ⟨y2, hy2, hm⟩ := bind_some hm
        refine wl_ev (wn rfl) (ev_indexAI hy2 tu77 tu3 ts3 rfl rfl rfl rfl) F S rfl rfl ?_; clear F a; intro a F
        refine wl_ev (wn rfl) (ev_assign rfl) F S rfl rfl ?_; clear F a; intro a F
        refine wl_ev (wn rfl) (ev_assign rfl) F S rfl rfl ?_; clear F a; intro a F
        refine wpList_nil ?_
        replace F := F.sub (e' := [(7, .int .i64 y2), (6, .int .i64 x1), (11, .int .i64 x1), (10, .agg #[.int .i64 a_, .int .i64 b_]), (5, .pointer (some ⟨b1, 0, Option.none⟩)), (0, .int .i64 a_), (1, .int .i64 b_)]) ⟨rfl, rfl, rfl, rfl, rfl, rfl, rfl, trivial⟩
        refine then_n ?_
        refine wp_seq ?_
        refine wp_region_lit ?_
        refine wl_ev (wn rfl) (ev_move rfl) F S rfl rfl ?_; clear F a; intro a F
        obtain ⟨y3, hy3, hm⟩ := bind_some hm
        refine wl_call (wn rfl) rfl (xs := [.tmp 15]) (vs := [.int .i64 y2]) (cap := []) F rfl rfl tc44 (digest_is_ok (g := g3) (fr := (fl [[(b1, .cells #[.int .i64 0, .int .i64 0] 25 (0, 0))]] fr)) (w := w) y2 S hy3) rfl rfl ?_; clear F a S
        rintro _ a w ⟨g4, l4, S, rfl⟩ F; replace S : St g4 [[(b1, .cells #[.int .i64 0, .int .i64 0] 25 (0, 0))]] fr w := S
        refine wl_ev (wn rfl) (ev_not rfl) F S rfl rfl ?_; clear F a; intro a F
        refine wpList_nil ?_
        replace F := F.sub (e' := [(17, .bool !y3), (6, .int .i64 x1), (11, .int .i64 x1), (10, .agg #[.int .i64 a_, .int .i64 b_]), (5, .pointer (some ⟨b1, 0, Option.none⟩)), (0, .int .i64 a_), (1, .int .i64 b_)]) ⟨rfl, rfl, rfl, rfl, rfl, rfl, rfl, trivial⟩
        refine then_n ?_
        obtain ⟨hc2, hm⟩ | ⟨hc2, hm⟩ := ite_or hm
        · refine wp_condT F rfl hc2 ?_
          refine wp_seq ?_
          refine wp_region_lit ?_
          refine wl_ev (wn rfl) (ev_move rfl) F S rfl rfl ?_; clear F a; intro a F
          refine wl_ev (wn rfl) (ev_build (parts := [(0, .const (.int .i64 3)), (1, .tmp 18)]) (vs := [(0, .int .i64 3), (1, .int .i64 x1)]) rfl (fun w => tb25_0_1 3 x1 w)) F S rfl rfl ?_; clear F a; intro a F
          refine wl_ev (wn rfl) (ev_assign rfl) F S rfl rfl ?_; clear F a; intro a F
          refine wl_storeC (wn rfl) rfl F S rfl rfl (vs := [.int .i64 3, .int .i64 x1]) rfl ts25 (one_cons rfl (one_cons rfl one_nil)) (k := 0) rfl (Nat.le_of_ble_eq_true rfl) (c' := #[.int .i64 3, .int .i64 x1]) rfl rfl ?_; clear S; intro w S
          replace S : St g4 [[(b1, .cells #[.int .i64 3, .int .i64 x1] 25 (0, 0))]] fr w := S
          refine wpList_nil ?_
          replace F := F.sub (e' := [(4, .int .i64 0), (5, .pointer (some ⟨b1, 0, Option.none⟩))]) ⟨rfl, rfl, trivial⟩
          refine then_n ?_
          refine wp_ret ?_
          refine inb_r ?_
          refine then_r ?_
          refine then_r ?_
          refine inb_r ?_
          refine then_r ?_
          obtain rfl := Option.some.inj hm
          obtain rfl := hfin1 _ rfl
          clear hm
          have hm : (some (0, ({ Code := 3, Index := x1 } : Fault)) : Option (Int × Fault)) = some _ := hmo1
          obtain rfl := Option.some.inj hm
          refine post_r (fn := Try.f35) (rs := [.tmp 4, .cell 5 25]) [.int .i64 0, .agg #[.int .i64 3, .int .i64 x1]] F rfl (ar_cons (resT rfl) (ar_cons (resA rfl tu25 rfl ts25 (box_ptr (cells := [.int .i64 3, .int .i64 x1]) 0 rfl 0 rfl (Nat.le_of_ble_eq_true rfl) w S)) ar_nil)) ?_
          replace S : St g4 [] fr w := St.tail [] _ S
          exact ⟨_, rfl, g4, (l3.trans l4), S, rfl⟩
        · refine wp_condF F rfl hc2 ?_
          refine wp_skip ?_
          refine inb_n ?_
          refine then_n ?_
          refine wp_region_lit ?_
          obtain ⟨z1, hz1, hm⟩ := bind_some hm
          refine wl_ev (wn rfl) (ev_int rfl rfl (bo_add hz1)) F S rfl rfl ?_; clear F a; intro a F
          refine wl_ev (wn rfl) (ev_move rfl) F S rfl rfl ?_; clear F a; intro a F
          refine wpList_nil ?_
          replace F := F.sub (e' := [(11, .int .i64 z1), (10, .agg #[.int .i64 a_, .int .i64 b_]), (5, .pointer (some ⟨b1, 0, Option.none⟩)), (0, .int .i64 a_), (1, .int .i64 b_)]) ⟨rfl, rfl, rfl, rfl, rfl, trivial⟩
          refine then_n ?_
          obtain rfl := Option.some.inj hm
          refine ⟨_, rfl, ?_⟩
          exact ⟨g4, F.sub ⟨rfl, rfl, rfl, rfl, rfl, trivial⟩, (l3.trans l4), S⟩
      · refine wp_condF F rfl hc1 ?_
        refine wp_exit ?_
        refine then_e ?_
        refine then_e ?_
        refine inb_x ?_
        refine then_n ?_
        obtain rfl := Option.some.inj hm
        obtain rfl := hfin1 _ rfl
        clear hm
        have hm : (digest_Pair.j1 a_ b_ : Option (Int × Fault)) = some _ := hmo1
        exact ⟨g3, F.sub ⟨rfl, rfl, rfl, trivial⟩, l3, S, hm⟩
  · clear F S hm; rintro a w ⟨g1, F, l1, S, hm⟩
    refine wp_seq ?_
    refine wp_region_lit ?_
    refine wl_ev (wn rfl) (ev_move rfl) F S rfl rfl ?_; clear F a; intro a F
    refine wl_ev (wn rfl) (ev_move rfl) F S rfl rfl ?_; clear F a; intro a F
    obtain ⟨y1, hy1, hm⟩ := bind_some hm
    refine wl_call (wn rfl) rfl (xs := [.tmp 21, .tmp 22]) (vs := [.int .i64 a_, .int .i64 b_]) (cap := []) F rfl rfl tc45 (digest_pair_ok (g := g1) (fr := (fl [[(b1, .cells #[.int .i64 0, .int .i64 0] 25 (0, 0))]] fr)) (w := w) a_ b_ S hy1) rfl rfl ?_; clear F a S
    rintro _ a w ⟨g2, l2, S, rfl⟩ F; replace S : St g2 [[(b1, .cells #[.int .i64 0, .int .i64 0] 25 (0, 0))]] fr w := S
    refine wl_ev (wn rfl) (ev_build (parts := []) (vs := []) rfl (fun w => tb25_  w)) F S rfl rfl ?_; clear F a; intro a F
    refine wl_ev (wn rfl) (ev_assign rfl) F S rfl rfl ?_; clear F a; intro a F
    refine wl_storeC (wn rfl) rfl F S rfl rfl (vs := [.int .i64 0, .int .i64 0]) rfl ts25 (one_cons rfl (one_cons rfl one_nil)) (k := 0) rfl (Nat.le_of_ble_eq_true rfl) (c' := #[.int .i64 0, .int .i64 0]) rfl rfl ?_; clear S; intro w S
    replace S : St g2 [[(b1, .cells #[.int .i64 0, .int .i64 0] 25 (0, 0))]] fr w := S
    refine wpList_nil ?_
    replace F := F.sub (e' := [(4, .int .i64 y1), (5, .pointer (some ⟨b1, 0, Option.none⟩))]) ⟨rfl, rfl, trivial⟩
    refine then_n ?_
    refine wp_ret ?_
    obtain rfl := Option.some.inj hm
    refine post_r (fn := Try.f35) (rs := [.tmp 4, .cell 5 25]) [.int .i64 y1, .agg #[.int .i64 0, .int .i64 0]] F rfl (ar_cons (resT rfl) (ar_cons (resA rfl tu25 rfl ts25 (box_ptr (cells := [.int .i64 0, .int .i64 0]) 0 rfl 0 rfl (Nat.le_of_ble_eq_true rfl) w S)) ar_nil)) ?_
    replace S : St g2 [] fr w := St.tail [] _ S
    exact ⟨_, rfl, g2, (l1.trans l2), S, rfl⟩

theorem rename_Sketch_ok {g : Gh} {fr : Hl} {w : World} {r : (List Int) × Fault} (text : (List ByteArray)) (vtext1 : Value) (htext1 : RepSl g text vtext1) (S : St g [] fr w) (hm : rename_Sketch text = some r) :
    Calls Try.prog 21 [vtext1].toArray w (fun en w' => ∃ v, en = .returned v ∧ ∃ (g' : Gh) (v1 : Value), Le g g' ∧ St g' [] fr w' ∧ RepSl g' r.1 v1 ∧ .tuple #[v1, .agg #[.int .i64 r.2.Code, .int .i64 r.2.Index]] = v) := by
  unfold rename_Sketch at hm
  refine calls_enter (fn := Try.f21) Try.func21 rfl Try.ntmps21 (Nat.le_of_ble_eq_true rfl) ?_
  intro a F
  replace F : Fr 62 a [(0, vtext1)] := F
  refine wp_seq ?_
  refine wp_region_lit ?_
  refine wl_ev (wn rfl) (ev_assign rfl) F S rfl rfl ?_; clear F a; intro a F
  refine wl_alloc (wn rfl) rfl tz25 (cs := [.int .i64 0, .int .i64 0]) rfl F S rfl rfl ?_; clear F a S; rintro b1 a w F S
  refine wpList_nil ?_
  replace F := F.sub (e' := [(3, .pointer (some ⟨b1, 0, Option.none⟩)), (0, vtext1)]) ⟨rfl, rfl, trivial⟩
  refine then_n ?_
  refine wp_seq ?_
  refine wp_seq ?_
  refine wp_region_lit ?_
  refine wl_ev (wn rfl) (ev_move rfl) F S rfl rfl ?_; clear F a; intro a F
  obtain ⟨y1, hy1, hm⟩ := bind_some hm
  refine wl_call (wn rfl) rfl (xs := [.tmp 13]) (vs := [vtext1]) (cap := []) F rfl rfl tc33 (lines_Validate_ok (g := g) (fr := (fl [[(b1, .cells #[.int .i64 0, .int .i64 0] 25 (0, 0))]] fr)) (w := w) text vtext1 htext1 S hy1) rfl rfl ?_; clear F a S
  rintro _ a w ⟨g1, l1, S, rfl⟩ F; replace S : St g1 [[(b1, .cells #[.int .i64 0, .int .i64 0] 25 (0, 0))]] fr w := S
  refine wl_alloc (wn rfl) rfl tz25 (cs := [.int .i64 0, .int .i64 0]) rfl F S rfl rfl ?_; clear F a S; rintro b2 a w F S
  refine wl_storeC (wn rfl) rfl F S rfl rfl (vs := [.int .i64 y1.Code, .int .i64 y1.Index]) rfl ts25 (one_cons rfl (one_cons rfl one_nil)) (k := 0) rfl (Nat.le_of_ble_eq_true rfl) (c' := #[.int .i64 y1.Code, .int .i64 y1.Index]) rfl rfl ?_; clear S; intro w S
  replace S : St g1 [[(b2, .cells #[.int .i64 y1.Code, .int .i64 y1.Index] 25 (0, 0))], [(b1, .cells #[.int .i64 0, .int .i64 0] 25 (0, 0))]] fr w := S
  refine wpList_nil ?_
  replace F := F.sub (e' := [(4, .pointer (some ⟨b2, 0, Option.none⟩)), (3, .pointer (some ⟨b1, 0, Option.none⟩)), (0, vtext1)]) ⟨rfl, rfl, rfl, trivial⟩
  refine then_n ?_
  refine wp_seq ?_
  refine wp_region_lit ?_
  refine wl_ev (wn rfl) (ev_loadA tu25 rfl (cs := [.int .i64 y1.Code, .int .i64 y1.Index]) ts25 rfl (box_ptr (cells := [.int .i64 y1.Code, .int .i64 y1.Index]) 0 rfl 0 rfl (Nat.le_of_ble_eq_true rfl))) F S rfl rfl ?_; clear F a; intro a F
  refine wl_ev (wn rfl) (ev_build (parts := []) (vs := []) rfl (fun w => tb25_  w)) F S rfl rfl ?_; clear F a; intro a F
  refine wl_ev (wn rfl) (ev_neS tu25 tqa25 tqb25 tqc25 (xs := [.int .i64 y1.Code, .int .i64 y1.Index]) (ys := [.int .i64 0, .int .i64 0]) rfl rfl ⟨_, _, rfl, by decide, ⟨_, _, rfl, rfl, leaf_int tu3⟩, ⟨_, _, rfl, by decide, ⟨_, _, rfl, rfl, leaf_int tu3⟩, rfl⟩⟩) F S rfl rfl ?_; clear F a; intro a F
  refine wpList_nil ?_
  replace F := F.sub (e' := [(17, .bool (!(decide (y1.Code = 0) && decide (y1.Index = 0)))), (4, .pointer (some ⟨b2, 0, Option.none⟩)), (3, .pointer (some ⟨b1, 0, Option.none⟩)), (0, vtext1)]) ⟨rfl, rfl, rfl, rfl, trivial⟩
  refine then_n ?_
  obtain ⟨hc1, hm⟩ | ⟨hc1, hm⟩ := ite_or hm
  · refine wp_condT F rfl hc1 ?_
    refine wp_seq ?_
    refine wp_drawL ⟨2, [[18], [2], []], [[], [], [4]], [[3], [], []], [[4], [], [3]], [[], [], [0]], [3], [0, 1, 2, 3]⟩
      [([18], fun us g c => us = [.agg #[.int .i64 y1.Code, .int .i64 y1.Index]]),
       ([2], fun us g c => us = [.slice Option.none 0 0]),
       ([], fun us g c => us = [] ∧ c = [(b1, .cells #[.int .i64 y1.Code, .int .i64 y1.Index] 25 (0, 0))])]
      mo (by kernel_rfl) rfl rfl ⟨fun _ _ _ _ _ h => h, fun _ _ _ _ _ h => h, fun _ _ _ _ _ h => h, trivial⟩ F S ⟨?_, ?_, ?_, trivial⟩ ?_
    · intro a w gd1 c fr hsz hdf hK ld1 hN hI S
      have F : Fr 62 a [(4, .pointer (some ⟨b2, 0, Option.none⟩))] := Fr.of hsz hdf ⟨hK 4 (by decide) _ rfl, trivial⟩
      replace S : St gd1 [c 3] fr w := S.of_eq (flat2 _ _ _ _)
      have q3 : c 3 = [(b2, .cells #[.int .i64 y1.Code, .int .i64 y1.Index] 25 (0, 0))] := hI 0 _ rfl
      rw [q3] at S
      refine wl_ev (wn rfl) (ev_loadA tu25 rfl (cs := [.int .i64 y1.Code, .int .i64 y1.Index]) ts25 rfl (box_ptr (cells := [.int .i64 y1.Code, .int .i64 y1.Index]) 0 rfl 0 rfl (Nat.le_of_ble_eq_true rfl))) F S rfl rfl ?_; clear F; intro a F
      refine wpList_nil ⟨rfl, F.sz, F.df, _, [], (Le.refl _), ?_, (lst1 (F.get 18 _ rfl))⟩
      refine St0.of_eq ?_ (flat3 c [] [3] fr).symm
      show St0 _ (fl ([] ++ [c 3]) fr) _
      rw [q3]
      exact S
    · intro a w gd1 c fr hsz hdf hK ld1 hN hI S
      have F : Fr 62 a [] := Fr.of hsz hdf trivial
      replace S : St gd1 [] fr w := S.of_eq (flat2 _ _ _ _)
      refine wl_ev (wn rfl) (ev_assign rfl) F S rfl rfl ?_; clear F; intro a F
      refine wpList_nil ⟨rfl, F.sz, F.df, _, [], (Le.refl _), ?_, (lst1 (F.get 2 _ rfl))⟩
      refine St0.of_eq ?_ (flat3 c [] [] fr).symm
      show St0 _ (fl ([] ++ []) fr) _
      exact S
    · intro a w gd1 c fr hsz hdf hK ld1 hN hI S
      have e0 := hN 0 (by decide)
      have e18x : val a 18 = .agg #[.int .i64 y1.Code, .int .i64 y1.Index] := nth e0 0
      have F : Fr 62 a [(3, .pointer (some ⟨b1, 0, Option.none⟩)), (18, .agg #[.int .i64 y1.Code, .int .i64 y1.Index])] := Fr.of hsz hdf ⟨hK 3 (by decide) _ rfl, e18x, trivial⟩
      replace S : St gd1 [c 4] fr w := S.of_eq (flat2 _ _ _ _)
      have q4 : c 4 = [(b1, .cells #[.int .i64 0, .int .i64 0] 25 (0, 0))] := hI 1 _ rfl
      rw [q4] at S
      refine wl_storeC (wn rfl) rfl F S rfl rfl (vs := [.int .i64 y1.Code, .int .i64 y1.Index]) rfl ts25 (one_cons rfl (one_cons rfl one_nil)) (k := 0) rfl (Nat.le_of_ble_eq_true rfl) (c' := #[.int .i64 y1.Code, .int .i64 y1.Index]) rfl rfl ?_; clear S; intro w S
      replace S : St gd1 [[(b1, .cells #[.int .i64 y1.Code, .int .i64 y1.Index] 25 (0, 0))]] fr w := S
      refine wpList_nil ⟨rfl, F.sz, F.df, _, [(b1, .cells #[.int .i64 y1.Code, .int .i64 y1.Index] 25 (0, 0))], (Le.refl _), ?_, ⟨rfl, rfl⟩⟩
      refine St0.of_eq ?_ (flat3s c ([(b1, .cells #[.int .i64 y1.Code, .int .i64 y1.Index] 25 (0, 0))]) [] fr).symm
      show St0 _ (fl ([[(b1, .cells #[.int .i64 y1.Code, .int .i64 y1.Index] 25 (0, 0))]] ++ []) fr) _
      exact S
    clear F S; intro a w gd1 c hsz hdf hK ld1 hI S hN
    have e1 := hN 1 (by decide)
    have e2x : val a 2 = .slice Option.none 0 0 := nth e1 0
    obtain ⟨e2, q2⟩ := hN 2 (by decide)
    have F : Fr 62 a [(3, .pointer (some ⟨b1, 0, Option.none⟩)), (2, .slice Option.none 0 0)] := Fr.of hsz hdf ⟨hK 3 (by decide) _ rfl, e2x, trivial⟩
    replace S : St gd1 [c 0, c 1, c 2, c 3] fr w := S.of_eq (flat_fl _ _ _)
    rw [q2] at S
    have q3 : c 3 = [(b2, .cells #[.int .i64 y1.Code, .int .i64 y1.Index] 25 (0, 0))] := hI 0 _ rfl
    rw [q3] at S
    replace S : St gd1 [[(b1, .cells #[.int .i64 y1.Code, .int .i64 y1.Index] 25 (0, 0))]] fr w := St.tail [[(b1, .cells #[.int .i64 y1.Code, .int .i64 y1.Index] 25 (0, 0))]] _ (S.frontC 2 rfl)
    clear hK hI hN hsz hdf e1 e2 e2x
    refine then_n ?_
    refine wp_ret ?_
    refine then_r ?_
    obtain rfl := Option.some.inj hm
    refine post_r (fn := Try.f21) (rs := [.tmp 2, .cell 3 25]) [.slice Option.none 0 0, .agg #[.int .i64 y1.Code, .int .i64 y1.Index]] F rfl (ar_cons (resT rfl) (ar_cons (resA rfl tu25 rfl ts25 (box_ptr (cells := [.int .i64 y1.Code, .int .i64 y1.Index]) 0 rfl 0 rfl (Nat.le_of_ble_eq_true rfl) w S)) ar_nil)) ?_
    replace S : St gd1 [] fr w := St.tail [] _ S
    exact ⟨_, rfl, gd1, (.slice Option.none 0 0), (l1.trans ld1), S, (RepSl.nil _), rfl⟩
  · refine wp_condF F rfl hc1 ?_
    refine wp_skip ?_
    refine then_n ?_
    refine wp_seq ?_
    refine wp_seq ?_
    refine wp_region_lit ?_
    refine wl_ev (wn rfl) (ev_move rfl) F S rfl rfl ?_; clear F a; intro a F
    refine wl_ev (wn rfl) (ev_lenSh htext1 rfl tu31) F S rfl rfl ?_; clear F a; intro a F
    refine wl_ev (wn rfl) (ev_int rfl rfl (bo_eql _ _ _ _)) F S rfl rfl ?_; clear F a; intro a F
    refine wpList_nil ?_
    replace F := F.sub (e' := [(21, .bool (decide ((text.length : Int) = 0))), (3, .pointer (some ⟨b1, 0, Option.none⟩)), (0, vtext1)]) ⟨rfl, rfl, rfl, trivial⟩
    refine then_n ?_
    obtain ⟨hc2, hm⟩ | ⟨hc2, hm⟩ := ite_or hm
    · refine wp_condT F rfl hc2 ?_
      refine wp_seq ?_
      refine wp_region_lit ?_
      refine wl_ev (wn rfl) (ev_build (parts := []) (vs := []) rfl (fun w => tb25_  w)) F S rfl rfl ?_; clear F a; intro a F
      refine wl_ev (wn rfl) (ev_assign rfl) F S rfl rfl ?_; clear F a; intro a F
      refine wl_storeC (wn rfl) rfl F S rfl rfl (vs := [.int .i64 0, .int .i64 0]) rfl ts25 (one_cons rfl (one_cons rfl one_nil)) (k := 1) rfl (Nat.le_of_ble_eq_true rfl) (c' := #[.int .i64 0, .int .i64 0]) rfl rfl ?_; clear S; intro w S
      replace S : St g1 [[(b2, .cells #[.int .i64 y1.Code, .int .i64 y1.Index] 25 (0, 0))], [(b1, .cells #[.int .i64 0, .int .i64 0] 25 (0, 0))]] fr w := S
      refine wpList_nil ?_
      replace F := F.sub (e' := [(2, .slice Option.none 0 0), (3, .pointer (some ⟨b1, 0, Option.none⟩))]) ⟨rfl, rfl, trivial⟩
      refine then_n ?_
      refine wp_ret ?_
      refine then_r ?_
      obtain rfl := Option.some.inj hm
      refine post_r (fn := Try.f21) (rs := [.tmp 2, .cell 3 25]) [.slice Option.none 0 0, .agg #[.int .i64 0, .int .i64 0]] F rfl (ar_cons (resT rfl) (ar_cons (resA rfl tu25 rfl ts25 (box_ptr (cells := [.int .i64 0, .int .i64 0]) 1 rfl 0 rfl (Nat.le_of_ble_eq_true rfl) w S)) ar_nil)) ?_
      replace S : St g1 [] fr w := St.tail [] _ S
      exact ⟨_, rfl, g1, (.slice Option.none 0 0), l1, S, (RepSl.nil _), rfl⟩
    · refine wp_condF F rfl hc2 ?_
      refine wp_skip ?_
      refine then_n ?_
      refine wp_seq ?_
      refine wp_region_lit ?_
      refine wl_alloc (wn rfl) rfl tz62 (cs := [.int .i64 0, .int .i64 0, .int .i64 0, .int .i64 0, .int .i64 0, .int .i64 0, .int .i64 0, .int .i64 0]) rfl F S rfl rfl ?_; clear F a S; rintro b3 a w F S
      have hz1 : ∃ v1 c1, OwnS g1 ([0, 0, 0, 0, 0, 0, 0, 0] : List Int) v1 c1 ∧ Fr 62 a [(5, baseP v1), (21, .bool (decide ((text.length : Int) = 0))), (3, .pointer (some ⟨b1, 0, Option.none⟩)), (0, vtext1)] ∧ St g1 [c1, [(b2, .cells #[.int .i64 y1.Code, .int .i64 y1.Index] 25 (0, 0))], [(b1, .cells #[.int .i64 0, .int .i64 0] 25 (0, 0))]] fr w := ⟨.slice (some ⟨b3, 0, Option.none⟩) 8 8, _, OwnS.lit (Cat.cons (show Rep.rep _ 0 _ from rfl) (Cat.cons (show Rep.rep _ 0 _ from rfl) (Cat.cons (show Rep.rep _ 0 _ from rfl) (Cat.cons (show Rep.rep _ 0 _ from rfl) (Cat.cons (show Rep.rep _ 0 _ from rfl) (Cat.cons (show Rep.rep _ 0 _ from rfl) (Cat.cons (show Rep.rep _ 0 _ from rfl) (Cat.cons (show Rep.rep _ 0 _ from rfl) (Cat.nil _))))))))) rfl, F, S⟩; clear F S; obtain ⟨v1, c1, h1, F, S⟩ := hz1
      refine wpList_nil ?_
      replace F := F.sub (e' := [(5, baseP v1), (3, .pointer (some ⟨b1, 0, Option.none⟩)), (0, vtext1)]) ⟨rfl, rfl, rfl, trivial⟩
      refine then_n ?_
      refine wp_cut (fun a w => ∃ (x1 : List Int) (v2 : Value) (c2 : Hl) (g2 : Gh), Fr 62 a [(5, baseP v2), (3, .pointer (some ⟨b1, 0, Option.none⟩))] ∧ Le g1 g2 ∧ St g2 [c2, [(b1, .cells #[.int .i64 0, .int .i64 0] 25 (0, 0))]] fr w ∧ OwnS g2 x1 v2 c2 ∧ rename_Sketch.j1 x1 = some r) ?_ ?_
      · refine wp_seq ?_
        refine wp_region_lit ?_
        refine wl_ev (wn rfl) (ev_move rfl) F S rfl rfl ?_; clear F a; intro a F
        refine wl_ev (wn rfl) (ev_lenSh htext1 rfl tu31) F S rfl rfl ?_; clear F a; intro a F
        refine wl_ev (wn rfl) (ev_move rfl) F S rfl rfl ?_; clear F a; intro a F
        refine wpList_nil ?_
        replace F := F.sub (e' := [(25, .int .i64 0), (24, .int .i64 (text.length : Int)), (23, vtext1), (5, baseP v1), (3, .pointer (some ⟨b1, 0, Option.none⟩))]) ⟨rfl, rfl, rfl, rfl, rfl, trivial⟩
        refine then_n ?_
        refine wp_block ?_
        obtain ⟨r1, hr1, hm⟩ := bind_some hm
        have hmo1 := hm; clear hm
        refine wp_iter (σ := Int × (List Int)) (ρ := (List Int)) (m := fun s => rename_Sketch.l1 text s.1 s.2) (I := fun s a w => match s with | (x2, x3) => ∃ (v4 : Value) (c3 : Hl) (g4 : Gh), Fr 62 a [(25, .int .i64 x2), (24, .int .i64 (text.length : Int)), (23, vtext1), (5, baseP v4), (3, .pointer (some ⟨b1, 0, Option.none⟩))] ∧ Le g1 g4 ∧ St g4 [c3, [(b1, .cells #[.int .i64 0, .int .i64 0] 25 (0, 0))]] fr w ∧ OwnS g4 x3 v4 c3) hr1 ?_ ?_
        · dsimp only
          replace S : St g1 [c1, [(b1, .cells #[.int .i64 0, .int .i64 0] 25 (0, 0))]] fr w := St.tail [c1, [(b1, .cells #[.int .i64 0, .int .i64 0] 25 (0, 0))]] _ ((S.frontC 2 rfl).frontC 1 rfl)
          exact ⟨v1, c1, g1, F.sub ⟨rfl, rfl, rfl, rfl, rfl, trivial⟩, (Le.refl _), S, h1⟩
        · clear F S; rintro ⟨x2, x3⟩ a w x4 ⟨v4, c3, g4, F, l4, S, h5⟩ hx1 hfin1
          have hm : rename_Sketch.l1 text x2 x3 = some x4 := hx1; clear hx1
          unfold rename_Sketch.l1 at hm
          refine wp_seq ?_
          refine wp_region_lit ?_
          refine wl_ev (wn rfl) (ev_int rfl rfl (bo_lss _ _ _ _)) F S rfl rfl ?_; clear F a; intro a F
          refine wpList_nil ?_
          refine then_n ?_
          refine wp_seq ?_
          obtain ⟨hc3, hm⟩ | ⟨hc3, hm⟩ := ite_or hm
          · refine wp_condT F rfl hc3 ?_
            refine wp_skip ?_
            refine then_n ?_
            refine wp_cut (fun a w => ∃ (x5 : List Int) (v5 : Value) (c4 : Hl) (g5 : Gh), Fr 62 a [(25, .int .i64 x2), (24, .int .i64 (text.length : Int)), (23, vtext1), (5, baseP v5), (3, .pointer (some ⟨b1, 0, Option.none⟩))] ∧ Le g4 g5 ∧ St g5 [c4, [(b1, .cells #[.int .i64 0, .int .i64 0] 25 (0, 0))]] fr w ∧ OwnS g5 x5 v5 c4 ∧ rename_Sketch.j2 x2 x5 = some x4) ?_ ?_
            · refine wp_block ?_
              refine wp_seq ?_
              refine wp_region_lit ?_
              refine wl_ev (wn rfl) (ev_move rfl) F S rfl rfl ?_; clear F a; intro a F
              obtain ⟨y3, hy3, hm⟩ := bind_some hm
              obtain ⟨cs1, hr2, hp1⟩ := elemS (htext1.mono (l1.trans l4)) hy3
              obtain rfl := rep_str hr2
              refine wl_ev (wn rfl) (ev_idxS (htext1.mono (l1.trans l4)) hy3 tu31 ts9 rfl rfl) F S rfl rfl ?_; clear F a; intro a F
              refine wl_ev (wn rfl) (ev_load1 tu9 rfl rfl (ptr_mono (cks := [c3, [(b1, .cells #[.int .i64 0, .int .i64 0] 25 (0, 0))]]) (fr := fr) hp1 (Le.refl _))) F S rfl rfl ?_; clear F a; intro a F
              refine wl_ev (wn rfl) (ev_assign rfl) F S rfl rfl ?_; clear F a; intro a F
              refine wl_ev (wn rfl) (ev_assign rfl) F S rfl rfl ?_; clear F a; intro a F
              refine wpList_nil ?_
              replace F := F.sub (e' := [(7, .string y3), (6, .int .i64 x2), (25, .int .i64 x2), (24, .int .i64 (text.length : Int)), (23, vtext1), (5, baseP v4), (3, .pointer (some ⟨b1, 0, Option.none⟩))]) ⟨rfl, rfl, rfl, rfl, rfl, rfl, rfl, trivial⟩
              refine then_n ?_
              refine wp_seq ?_
              refine wp_region_lit ?_
              refine wl_ev (wn rfl) (ev_move rfl) F S rfl rfl ?_; clear F a; intro a F
              refine wl_s2b (wn rfl) rfl tu9 tu64 tu5 rfl F S rfl rfl ?_; clear F a S; rintro g6 v6 a w l6 h7 F S
              replace S : St g6 [c3, [(b1, .cells #[.int .i64 0, .int .i64 0] 25 (0, 0))]] fr w := S
              obtain ⟨y4, hy4, hm⟩ := bind_some hm
              refine wl_call (wn rfl) rfl (xs := [.tmp 32]) (vs := [v6]) (cap := []) F rfl rfl tc34 (digest_Of_ok (g := g6) (fr := (fl [c3, [(b1, .cells #[.int .i64 0, .int .i64 0] 25 (0, 0))]] fr)) (w := w) y3.data.toList v6 h7 S hy4) rfl rfl ?_; clear F a S
              rintro _ a w ⟨g7, l7, S, rfl⟩ F; replace S : St g7 [c3, [(b1, .cells #[.int .i64 0, .int .i64 0] 25 (0, 0))]] fr w := S
              refine wl_ev (wn rfl) (ev_move rfl) F S rfl rfl ?_; clear F a; intro a F
              refine wl_ev (wn rfl) (ev_extract (vs := [.int .i64 y4.1, .agg #[.int .i64 y4.2.Code, .int .i64 y4.2.Index]]) rfl rfl) F S rfl rfl ?_; clear F a; intro a F
              refine wl_ev (wn rfl) (ev_extract (vs := [.int .i64 y4.1, .agg #[.int .i64 y4.2.Code, .int .i64 y4.2.Index]]) rfl rfl) F S rfl rfl ?_; clear F a; intro a F
              refine wl_alloc (wn rfl) rfl tz25 (cs := [.int .i64 0, .int .i64 0]) rfl F S rfl rfl ?_; clear F a S; rintro b4 a w F S
              refine wl_ev (wn rfl) (ev_assign rfl) F S rfl rfl ?_; clear F a; intro a F
              refine wl_storeC (wn rfl) rfl F S rfl rfl (vs := [.int .i64 y4.2.Code, .int .i64 y4.2.Index]) rfl ts25 (one_cons rfl (one_cons rfl one_nil)) (k := 0) rfl (Nat.le_of_ble_eq_true rfl) (c' := #[.int .i64 y4.2.Code, .int .i64 y4.2.Index]) rfl rfl ?_; clear S; intro w S
              replace S : St g7 [[(b4, .cells #[.int .i64 y4.2.Code, .int .i64 y4.2.Index] 25 (0, 0))], c3, [(b1, .cells #[.int .i64 0, .int .i64 0] 25 (0, 0))]] fr w := S
              refine wpList_nil ?_
              replace F := F.sub (e' := [(8, .int .i64 y4.1), (6, .int .i64 x2), (25, .int .i64 x2), (24, .int .i64 (text.length : Int)), (23, vtext1), (5, baseP v4), (3, .pointer (some ⟨b1, 0, Option.none⟩))]) ⟨rfl, rfl, rfl, rfl, rfl, rfl, rfl, trivial⟩
              refine then_n ?_
              refine wp_seq ?_
              refine wp_region_lit ?_
              refine wl_ev (wn rfl) (ev_move rfl) F S rfl rfl ?_; clear F a; intro a F
              refine wpList_nil ?_
              refine then_n ?_
              refine wp_cut1 (fun a w => ∃ (x6 : List Int) (v7 : Value) (c5 : Hl) (g8 : Gh), Fr 62 a [(25, .int .i64 x2), (24, .int .i64 (text.length : Int)), (23, vtext1), (5, baseP v7), (3, .pointer (some ⟨b1, 0, Option.none⟩))] ∧ Le g7 g8 ∧ St g8 [c5, [(b1, .cells #[.int .i64 0, .int .i64 0] 25 (0, 0))]] fr w ∧ OwnS g8 x6 v7 c5 ∧ rename_Sketch.j3 x2 x6 = some x4) ?_ ?_
              · refine wp_block ?_
                obtain ⟨r2, hr3, hm⟩ := bind_some hm
                have hmo2 := hm; clear hm
                refine wp_iter (σ := Int × (List Int)) (ρ := (List Int)) (m := fun s => rename_Sketch.l2 x2 y4 s.1 s.2) (I := fun s a w => match s with | (x7, x8) => ∃ (v8 : Value) (c6 : Hl) (g9 : Gh), Fr 62 a [(36, .int .i64 x7), (8, .int .i64 y4.1), (6, .int .i64 x2), (25, .int .i64 x2), (24, .int .i64 (text.length : Int)), (23, vtext1), (5, baseP v8), (3, .pointer (some ⟨b1, 0, Option.none⟩))] ∧ Le g7 g9 ∧ St g9 [c6, [(b1, .cells #[.int .i64 0, .int .i64 0] 25 (0, 0))]] fr w ∧ OwnS g9 x8 v8 c6) hr3 ?_ ?_
                · dsimp only
                  replace S : St g7 [c3, [(b1, .cells #[.int .i64 0, .int .i64 0] 25 (0, 0))]] fr w := St.tail [c3, [(b1, .cells #[.int .i64 0, .int .i64 0] 25 (0, 0))]] _ ((S.frontC 2 rfl).frontC 2 rfl)
                  exact ⟨v4, c3, g7, F.sub ⟨rfl, rfl, rfl, rfl, rfl, rfl, rfl, rfl, trivial⟩, (Le.refl _), S, (h5.mono (l6.trans l7))⟩
                · clear F S; rintro ⟨x7, x8⟩ a w x9 ⟨v8, c6, g9, F, l9, S, h9⟩ hx2 hfin2
                  have hm : rename_Sketch.l2 x2 y4 x7 x8 = some x9 := hx2; clear hx2
                  unfold rename_Sketch.l2 at hm
                  refine wp_seq ?_
                  refine wp_region_lit ?_
                  refine wl_ev (wn rfl) (ev_int rfl rfl (bo_lss _ _ _ _)) F S rfl rfl ?_; clear F a; intro a F
                  refine wpList_nil ?_
                  refine then_n ?_
                  refine wp_seq ?_
                  obtain ⟨hc4, hm⟩ | ⟨hc4, hm⟩ := ite_or hm
                  · refine wp_condT F rfl hc4 ?_
                    refine wp_skip ?_
                    refine then_n ?_
                    refine wp_cut (fun a w => ∃ (x10 : List Int) (v9 : Value) (c7 : Hl) (g10 : Gh), Fr 62 a [(36, .int .i64 x7), (8, .int .i64 y4.1), (6, .int .i64 x2), (25, .int .i64 x2), (24, .int .i64 (text.length : Int)), (23, vtext1), (5, baseP v9), (3, .pointer (some ⟨b1, 0, Option.none⟩))] ∧ Le g9 g10 ∧ St g10 [c7, [(b1, .cells #[.int .i64 0, .int .i64 0] 25 (0, 0))]] fr w ∧ OwnS g10 x10 v9 c7 ∧ rename_Sketch.j4 x7 x10 = some x9) ?_ ?_
                    · refine wp_block ?_
                      refine wp_seq ?_
                      refine wp_region_lit ?_
                      refine wl_ev (wn rfl) (ev_move rfl) F S rfl rfl ?_; clear F a; intro a F
                      refine wl_ev (wn rfl) (ev_assign rfl) F S rfl rfl ?_; clear F a; intro a F
                      refine wpList_nil ?_
                      replace F := F.sub (e' := [(10, .int .i64 x7), (36, .int .i64 x7), (8, .int .i64 y4.1), (6, .int .i64 x2), (25, .int .i64 x2), (24, .int .i64 (text.length : Int)), (23, vtext1), (5, baseP v8), (3, .pointer (some ⟨b1, 0, Option.none⟩))]) ⟨rfl, rfl, rfl, rfl, rfl, rfl, rfl, rfl, rfl, trivial⟩
                      refine then_n ?_
                      refine wp_seq ?_
                      refine wp_region_lit ?_
                      refine wl_ev (wn rfl) (ev_move rfl) F S rfl rfl ?_; clear F a; intro a F
                      obtain ⟨z3, hz4, hm⟩ := bind_some hm
                      refine wl_ev (wn rfl) (ev_int rfl rfl (bo_add hz4)) F S rfl rfl ?_; clear F a; intro a F
                      refine wl_ev (wn rfl) (ev_move rfl) F S rfl rfl ?_; clear F a; intro a F
                      obtain ⟨y5, hy5, hm⟩ := bind_some hm
                      refine wl_call (wn rfl) rfl (xs := [.tmp 41, .tmp 42]) (vs := [.int .i64 z3, .int .i64 y4.1]) (cap := []) F rfl rfl tc35 (digest_Pair_ok (g := g9) (fr := (fl [c6, [(b1, .cells #[.int .i64 0, .int .i64 0] 25 (0, 0))]] fr)) (w := w) z3 y4.1 S hy5) rfl rfl ?_; clear F a S
                      rintro _ a w ⟨g11, l11, S, rfl⟩ F; replace S : St g11 [c6, [(b1, .cells #[.int .i64 0, .int .i64 0] 25 (0, 0))]] fr w := S
                      refine wl_ev (wn rfl) (ev_move rfl) F S rfl rfl ?_; clear F a; intro a F
                      refine wl_ev (wn rfl) (ev_extract (vs := [.int .i64 y5.1, .agg #[.int .i64 y5.2.Code, .int .i64 y5.2.Index]]) rfl rfl) F S rfl rfl ?_; clear F a; intro a F
                      refine wl_ev (wn rfl) (ev_extract (vs := [.int .i64 y5.1, .agg #[.int .i64 y5.2.Code, .int .i64 y5.2.Index]]) rfl rfl) F S rfl rfl ?_; clear F a; intro a F
                      refine wl_alloc (wn rfl) rfl tz25 (cs := [.int .i64 0, .int .i64 0]) rfl F S rfl rfl ?_; clear F a S; rintro b5 a w F S
                      refine wl_ev (wn rfl) (ev_assign rfl) F S rfl rfl ?_; clear F a; intro a F
                      refine wl_storeC (wn rfl) rfl F S rfl rfl (vs := [.int .i64 y5.2.Code, .int .i64 y5.2.Index]) rfl ts25 (one_cons rfl (one_cons rfl one_nil)) (k := 0) rfl (Nat.le_of_ble_eq_true rfl) (c' := #[.int .i64 y5.2.Code, .int .i64 y5.2.Index]) rfl rfl ?_; clear S; intro w S
                      replace S : St g11 [[(b5, .cells #[.int .i64 y5.2.Code, .int .i64 y5.2.Index] 25 (0, 0))], c6, [(b1, .cells #[.int .i64 0, .int .i64 0] 25 (0, 0))]] fr w := S
                      refine wpList_nil ?_
                      replace F := F.sub (e' := [(11, .int .i64 y5.1), (10, .int .i64 x7), (36, .int .i64 x7), (8, .int .i64 y4.1), (6, .int .i64 x2), (25, .int .i64 x2), (24, .int .i64 (text.length : Int)), (23, vtext1), (5, baseP v8), (3, .pointer (some ⟨b1, 0, Option.none⟩))]) ⟨rfl, rfl, rfl, rfl, rfl, rfl, rfl, rfl, rfl, rfl, trivial⟩
                      refine then_n ?_
                      refine wp_seq ?_
                      refine wp_region_lit ?_
                      refine wl_ev (wn rfl) (ev_move rfl) F S rfl rfl ?_; clear F a; intro a F
                      refine wl_ev (wn rfl) (ev_int rfl rfl (bo_eql _ _ _ _)) F S rfl rfl ?_; clear F a; intro a F
                      refine wl_ev (wn rfl) (ev_move rfl) F S rfl rfl ?_; clear F a; intro a F
                      obtain ⟨x11, hx3, hm⟩ := bind_some hm
                      refine wl_cut 6 (fun a w' => w = w' ∧ Fr 62 a [(54, .bool x11), (11, .int .i64 y5.1), (10, .int .i64 x7), (36, .int .i64 x7), (8, .int .i64 y4.1), (6, .int .i64 x2), (25, .int .i64 x2), (24, .int .i64 (text.length : Int)), (23, vtext1), (5, baseP v8), (3, .pointer (some ⟨b1, 0, Option.none⟩))]) ?_ ?_
                      · clear hm; obtain ⟨hc5, hm⟩ | ⟨hc5, hm⟩ := ite_or hx3
                        · refine wl_skip rfl rfl rfl rfl (ne_ft hc5) F rfl rfl ?_; clear F a; intro a F
                          refine wl_skip rfl rfl rfl rfl (ne_ft hc5) F rfl rfl ?_; clear F a; intro a F
                          refine wl_skip rfl rfl rfl rfl (ne_ft hc5) F rfl rfl ?_; clear F a; intro a F
                          refine wl_skip rfl rfl rfl rfl (ne_ft hc5) F rfl rfl ?_; clear F a; intro a F
                          refine wl_skip rfl rfl rfl rfl (ne_ft hc5) F rfl rfl ?_; clear F a; intro a F
                          refine wl_ev (wn rfl) (ev_pickT rfl hc5 rfl) F S rfl rfl ?_; clear F a; intro a F
                          obtain rfl := Option.some.inj hm
                          refine wpList_nil (then_n ?_); exact ⟨rfl, F.sub ⟨rfl, rfl, rfl, rfl, rfl, rfl, rfl, rfl, rfl, rfl, rfl, trivial⟩⟩
                        · refine wl_ev (wg F rfl rfl rfl rfl hc5) (ev_move rfl) F S rfl rfl ?_; clear F a; intro a F
                          refine wl_ev (wg F rfl rfl rfl rfl hc5) (ev_move rfl) F S rfl rfl ?_; clear F a; intro a F
                          obtain ⟨y6, hy6, hm⟩ := bind_some hm
                          have hy7 := (arr?_some hy6).2
                          refine wl_ev (wg F rfl rfl rfl rfl hc5) (ev_idxPA (h9.mono l11) hy6 tu62 ts3 rfl rfl) F S rfl rfl ?_; clear F a; intro a F
                          obtain ⟨cs2, hr4, hq1⟩ := elemO (h9.mono l11) hy7
                          obtain rfl := rep_int hr4
                          refine wl_ev (wg F rfl rfl rfl rfl hc5) (ev_load1 tu3 rfl rfl (hq1 _ _ 1 rfl)) F S rfl rfl ?_; clear F a; intro a F
                          refine wl_ev (wg F rfl rfl rfl rfl hc5) (ev_int rfl rfl (bo_lss _ _ _ _)) F S rfl rfl ?_; clear F a; intro a F
                          refine wl_ev (wn rfl) (ev_pickF rfl hc5 rfl) F S rfl rfl ?_; clear F a; intro a F
                          obtain rfl := Option.some.inj hm
                          refine wpList_nil (then_n ?_); exact ⟨rfl, F.sub ⟨rfl, rfl, rfl, rfl, rfl, rfl, rfl, rfl, rfl, rfl, rfl, trivial⟩⟩
                      clear F; rintro a w' ⟨rfl, F⟩
                      refine wpList_nil ?_
                      refine then_n ?_
                      obtain ⟨hc6, hm⟩ | ⟨hc6, hm⟩ := ite_or hm
                      · refine wp_condT F rfl hc6 ?_
                        refine wp_region_lit ?_
                        refine wl_ev (wn rfl) (ev_move rfl) F S rfl rfl ?_; clear F a; intro a F
                        refine wl_ev (wn rfl) (ev_move rfl) F S rfl rfl ?_; clear F a; intro a F
                        obtain ⟨y7, hy8, hm⟩ := bind_some hm
                        have hy9 := (arr?_some hy8).2
                        refine wl_ev (wn rfl) (ev_idxPA (h9.mono l11) hy8 tu62 ts3 rfl rfl) F S rfl rfl ?_; clear F a; intro a F
                        obtain ⟨y8, hy10, hm⟩ := bind_some hm
                        refine wl_storeW (z' := y5.1) (wn rfl) rfl F S (h9.mono l11) hy9 rfl rfl (us := [.int .i64 y5.1]) rfl ts3 (one_cons rfl one_nil) (k := 1) rfl rfl (show Rep.rep _ y5.1 _ from rfl) rfl ?_; clear S
                        rintro c8 w h11 S; replace S : St g11 [[(b5, .cells #[.int .i64 y5.2.Code, .int .i64 y5.2.Index] 25 (0, 0))], c8, [(b1, .cells #[.int .i64 0, .int .i64 0] 25 (0, 0))]] fr w := S; replace h11 : OwnS g11 y8 v8 c8 := Option.some.inj hy10 ▸ h11
                        replace F := F.sub (e' := [(56, .int .i64 y5.1), (55, .int .i64 x7), (54, .bool x11), (11, .int .i64 y5.1), (10, .int .i64 x7), (36, .int .i64 x7), (8, .int .i64 y4.1), (6, .int .i64 x2), (25, .int .i64 x2), (24, .int .i64 (text.length : Int)), (23, vtext1), (5, baseP v8), (3, .pointer (some ⟨b1, 0, Option.none⟩))]) ⟨rfl, rfl, rfl, rfl, rfl, rfl, rfl, rfl, rfl, rfl, rfl, rfl, rfl, trivial⟩
                        refine wpList_nil ?_
                        replace F := F.sub (e' := [(36, .int .i64 x7), (8, .int .i64 y4.1), (6, .int .i64 x2), (25, .int .i64 x2), (24, .int .i64 (text.length : Int)), (23, vtext1), (5, baseP v8), (3, .pointer (some ⟨b1, 0, Option.none⟩))]) ⟨rfl, rfl, rfl, rfl, rfl, rfl, rfl, rfl, trivial⟩
                        refine inb_n ?_
                        refine then_n ?_
                        replace S : St g11 [c8, [(b1, .cells #[.int .i64 0, .int .i64 0] 25 (0, 0))]] fr w := St.tail [c8, [(b1, .cells #[.int .i64 0, .int .i64 0] 25 (0, 0))]] _ ((S.frontC 2 rfl).frontC 2 rfl)
                        exact ⟨y8, v8, c8, g11, F.sub ⟨rfl, rfl, rfl, rfl, rfl, rfl, rfl, rfl, trivial⟩, l11, S, h11, hm⟩
                      · refine wp_condF F rfl hc6 ?_
                        refine wp_skip ?_
                        refine inb_n ?_
                        refine then_n ?_
                        replace S : St g11 [c6, [(b1, .cells #[.int .i64 0, .int .i64 0] 25 (0, 0))]] fr w := St.tail [c6, [(b1, .cells #[.int .i64 0, .int .i64 0] 25 (0, 0))]] _ ((S.frontC 2 rfl).frontC 2 rfl)
                        exact ⟨x8, v8, c6, g11, F.sub ⟨rfl, rfl, rfl, rfl, rfl, rfl, rfl, rfl, trivial⟩, l11, S, (h9.mono l11), hm⟩
                    · clear F S hm; rintro a w ⟨x10, v9, c7, g10, F, l10, S, h10, hm⟩
                      refine wp_region_lit ?_
                      obtain ⟨z2, hz3, hm⟩ := bind_some hm
                      refine wl_ev (wn rfl) (ev_int rfl rfl (bo_add hz3)) F S rfl rfl ?_; clear F a; intro a F
                      refine wl_ev (wn rfl) (ev_move rfl) F S rfl rfl ?_; clear F a; intro a F
                      refine wpList_nil ?_
                      replace F := F.sub (e' := [(36, .int .i64 z2), (8, .int .i64 y4.1), (6, .int .i64 x2), (25, .int .i64 x2), (24, .int .i64 (text.length : Int)), (23, vtext1), (5, baseP v9), (3, .pointer (some ⟨b1, 0, Option.none⟩))]) ⟨rfl, rfl, rfl, rfl, rfl, rfl, rfl, rfl, trivial⟩
                      refine then_n ?_
                      obtain rfl := Option.some.inj hm
                      refine ⟨_, rfl, ?_⟩
                      dsimp only
                      exact ⟨v9, c7, g10, F.sub ⟨rfl, rfl, rfl, rfl, rfl, rfl, rfl, rfl, trivial⟩, (l9.trans l10), S, h10⟩
                  · refine wp_condF F rfl hc4 ?_
                    refine wp_exit ?_
                    refine then_e ?_
                    refine then_e ?_
                    refine inb_x ?_
                    refine then_n ?_
                    obtain rfl := Option.some.inj hm
                    obtain rfl := hfin2 _ rfl
                    clear hm
                    have hm : (rename_Sketch.j3 x2 x8 : Option (Step (Int × (List Int)) (List Int))) = some _ := hmo2
                    exact ⟨x8, v8, c6, g9, F.sub ⟨rfl, rfl, rfl, rfl, rfl, trivial⟩, l9, S, h9, hm⟩
              · clear F S hm; rintro a w ⟨x6, v7, c5, g8, F, l8, S, h8, hm⟩
                refine inb_n ?_
                refine then_n ?_
                exact ⟨x6, v7, c5, g8, F.sub ⟨rfl, rfl, rfl, rfl, rfl, trivial⟩, ((l6.trans l7).trans l8), S, h8, hm⟩
            · clear F S hm; rintro a w ⟨x5, v5, c4, g5, F, l5, S, h6, hm⟩
              refine wp_region_lit ?_
              obtain ⟨z1, hz2, hm⟩ := bind_some hm
              refine wl_ev (wn rfl) (ev_int rfl rfl (bo_add hz2)) F S rfl rfl ?_; clear F a; intro a F
              refine wl_ev (wn rfl) (ev_move rfl) F S rfl rfl ?_; clear F a; intro a F
              refine wpList_nil ?_
              replace F := F.sub (e' := [(25, .int .i64 z1), (24, .int .i64 (text.length : Int)), (23, vtext1), (5, baseP v5), (3, .pointer (some ⟨b1, 0, Option.none⟩))]) ⟨rfl, rfl, rfl, rfl, rfl, trivial⟩
              refine then_n ?_
              obtain rfl := Option.some.inj hm
              refine ⟨_, rfl, ?_⟩
              dsimp only
              exact ⟨v5, c4, g5, F.sub ⟨rfl, rfl, rfl, rfl, rfl, trivial⟩, (l4.trans l5), S, h6⟩
          · refine wp_condF F rfl hc3 ?_
            refine wp_exit ?_
            refine then_e ?_
            refine then_e ?_
            refine inb_x ?_
            refine then_n ?_
            obtain rfl := Option.some.inj hm
            obtain rfl := hfin1 _ rfl
            clear hm
            have hm : (rename_Sketch.j1 x3 : Option ((List Int) × Fault)) = some _ := hmo1
            exact ⟨x3, v4, c3, g4, F.sub ⟨rfl, rfl, trivial⟩, l4, S, h5, hm⟩
      · clear F S hm; rintro a w ⟨x1, v2, c2, g2, F, l2, S, h2, hm⟩
        refine wp_seq ?_
        refine wp_region_lit ?_
        obtain ⟨y2, hy2, hm⟩ := bind_some hm
        have hv1 := OwnS.hv h2 hy2 (by decide)
        obtain ⟨g3, l3, S, h3⟩ : ∃ gz, Le g2 gz ∧ St gz [[(b1, .cells #[.int .i64 0, .int .i64 0] 25 (0, 0))]] fr w ∧ RepSl gz x1 v2 := ⟨_, Le.add _ _, S.freeze 0 rfl, OwnS.freeze (S.front 0 rfl) h2⟩
        obtain ⟨v3, h4, he1⟩ := ev_cutPA (P := Try.prog) (n := 62) (e := [(5, baseP v2), (3, .pointer (some ⟨b1, 0, Option.none⟩))]) (C := fun w => St g3 [[(b1, .cells #[.int .i64 0, .int .i64 0] 25 (0, 0))]] fr w) (x := .tmp 5) h3 hv1 hy2 tu62 ts3 rfl
        refine wl_ev (wn rfl) he1 F S rfl rfl ?_; clear F a; intro a F
        refine wl_ev (wn rfl) (ev_build (parts := []) (vs := []) rfl (fun w => tb25_  w)) F S rfl rfl ?_; clear F a; intro a F
        refine wl_ev (wn rfl) (ev_assign rfl) F S rfl rfl ?_; clear F a; intro a F
        refine wl_storeC (wn rfl) rfl F S rfl rfl (vs := [.int .i64 0, .int .i64 0]) rfl ts25 (one_cons rfl (one_cons rfl one_nil)) (k := 0) rfl (Nat.le_of_ble_eq_true rfl) (c' := #[.int .i64 0, .int .i64 0]) rfl rfl ?_; clear S; intro w S
        replace S : St g3 [[(b1, .cells #[.int .i64 0, .int .i64 0] 25 (0, 0))]] fr w := S
        refine wpList_nil ?_
        replace F := F.sub (e' := [(2, v3), (3, .pointer (some ⟨b1, 0, Option.none⟩))]) ⟨rfl, rfl, trivial⟩
        refine then_n ?_
        refine wp_ret ?_
        obtain rfl := Option.some.inj hm
        refine post_r (fn := Try.f21) (rs := [.tmp 2, .cell 3 25]) [v3, .agg #[.int .i64 0, .int .i64 0]] F rfl (ar_cons (resT rfl) (ar_cons (resA rfl tu25 rfl ts25 (box_ptr (cells := [.int .i64 0, .int .i64 0]) 0 rfl 0 rfl (Nat.le_of_ble_eq_true rfl) w S)) ar_nil)) ?_
        replace S : St g3 [] fr w := St.tail [] _ S
        exact ⟨_, rfl, g3, v3, ((l1.trans l2).trans l3), S, h4, rfl⟩

theorem changeforgelaw2_RenameSketchUnion_ok {g : Gh} {fr : Hl} {w : World} {r : Bool} (a_ : (List ByteArray)) (va_1 : Value) (ha_1 : RepSl g a_ va_1) (b_ : (List ByteArray)) (vb_1 : Value) (hb_1 : RepSl g b_ vb_1) (S : St g [] fr w) (hm : changeforgelaw2_RenameSketchUnion a_ b_ = some r) :
    Calls Try.prog 8 [va_1, vb_1].toArray w (fun en w' => ∃ v, en = .returned v ∧ ∃ (g' : Gh), Le g g' ∧ St g' [] fr w' ∧ .bool r = v) := by
  unfold changeforgelaw2_RenameSketchUnion at hm
  refine calls_enter (fn := Try.f8) Try.func8 rfl Try.ntmps8 (Nat.le_of_ble_eq_true rfl) ?_
  intro a F
  replace F : Fr 115 a [(0, va_1), (1, vb_1)] := F
  refine wp_seq ?_
  refine wp_region_lit ?_
  refine wl_ev (wn rfl) (ev_assign rfl) F S rfl rfl ?_; clear F a; intro a F
  refine wpList_nil ?_
  replace F := F.sub (e' := [(0, va_1), (1, vb_1)]) ⟨rfl, rfl, trivial⟩
  refine then_n ?_
  refine wp_seq ?_
  refine wp_region_lit ?_
  refine wl_ev (wn rfl) (ev_move rfl) F S rfl rfl ?_; clear F a; intro a F
  obtain ⟨y1, hy1, hm⟩ := bind_some hm
  refine wl_call (wn rfl) rfl (xs := [.tmp 13]) (vs := [va_1]) (cap := []) F rfl rfl tc21 (rename_Sketch_ok (g := g) (fr := fr) (w := w) a_ va_1 ha_1 S hy1) rfl rfl ?_; clear F a S
  rintro _ a w ⟨g1, v1, l1, S, h1, rfl⟩ F; replace S : St g1 [] fr w := S
  refine wl_ev (wn rfl) (ev_move rfl) F S rfl rfl ?_; clear F a; intro a F
  refine wl_ev (wn rfl) (ev_extract (vs := [v1, .agg #[.int .i64 y1.2.Code, .int .i64 y1.2.Index]]) rfl rfl) F S rfl rfl ?_; clear F a; intro a F
  refine wl_ev (wn rfl) (ev_extract (vs := [v1, .agg #[.int .i64 y1.2.Code, .int .i64 y1.2.Index]]) rfl rfl) F S rfl rfl ?_; clear F a; intro a F
  refine wl_alloc (wn rfl) rfl tz25 (cs := [.int .i64 0, .int .i64 0]) rfl F S rfl rfl ?_; clear F a S; rintro b1 a w F S
  refine wl_ev (wn rfl) (ev_assign rfl) F S rfl rfl ?_; clear F a; intro a F
  refine wl_storeC (wn rfl) rfl F S rfl rfl (vs := [.int .i64 y1.2.Code, .int .i64 y1.2.Index]) rfl ts25 (one_cons rfl (one_cons rfl one_nil)) (k := 0) rfl (Nat.le_of_ble_eq_true rfl) (c' := #[.int .i64 y1.2.Code, .int .i64 y1.2.Index]) rfl rfl ?_; clear S; intro w S
  replace S : St g1 [[(b1, .cells #[.int .i64 y1.2.Code, .int .i64 y1.2.Index] 25 (0, 0))]] fr w := S
  refine wpList_nil ?_
  replace F := F.sub (e' := [(5, v1), (6, .pointer (some ⟨b1, 0, Option.none⟩)), (0, va_1), (1, vb_1)]) ⟨rfl, rfl, rfl, rfl, trivial⟩
  refine then_n ?_
  refine wp_seq ?_
  refine wp_region_lit ?_
  refine wl_ev (wn rfl) (ev_move rfl) F S rfl rfl ?_; clear F a; intro a F
  obtain ⟨y2, hy2, hm⟩ := bind_some hm
  refine wl_call (wn rfl) rfl (xs := [.tmp 18]) (vs := [vb_1]) (cap := []) F rfl rfl tc21 (rename_Sketch_ok (g := g1) (fr := (fl [[(b1, .cells #[.int .i64 y1.2.Code, .int .i64 y1.2.Index] 25 (0, 0))]] fr)) (w := w) b_ vb_1 (hb_1.mono l1) S hy2) rfl rfl ?_; clear F a S
  rintro _ a w ⟨g2, v2, l2, S, h2, rfl⟩ F; replace S : St g2 [[(b1, .cells #[.int .i64 y1.2.Code, .int .i64 y1.2.Index] 25 (0, 0))]] fr w := S
  refine wl_ev (wn rfl) (ev_move rfl) F S rfl rfl ?_; clear F a; intro a F
  refine wl_ev (wn rfl) (ev_extract (vs := [v2, .agg #[.int .i64 y2.2.Code, .int .i64 y2.2.Index]]) rfl rfl) F S rfl rfl ?_; clear F a; intro a F
  refine wl_ev (wn rfl) (ev_extract (vs := [v2, .agg #[.int .i64 y2.2.Code, .int .i64 y2.2.Index]]) rfl rfl) F S rfl rfl ?_; clear F a; intro a F
  refine wl_alloc (wn rfl) rfl tz25 (cs := [.int .i64 0, .int .i64 0]) rfl F S rfl rfl ?_; clear F a S; rintro b2 a w F S
  refine wl_ev (wn rfl) (ev_assign rfl) F S rfl rfl ?_; clear F a; intro a F
  refine wl_storeC (wn rfl) rfl F S rfl rfl (vs := [.int .i64 y2.2.Code, .int .i64 y2.2.Index]) rfl ts25 (one_cons rfl (one_cons rfl one_nil)) (k := 0) rfl (Nat.le_of_ble_eq_true rfl) (c' := #[.int .i64 y2.2.Code, .int .i64 y2.2.Index]) rfl rfl ?_; clear S; intro w S
  replace S : St g2 [[(b2, .cells #[.int .i64 y2.2.Code, .int .i64 y2.2.Index] 25 (0, 0))], [(b1, .cells #[.int .i64 y1.2.Code, .int .i64 y1.2.Index] 25 (0, 0))]] fr w := S
  refine wpList_nil ?_
  replace F := F.sub (e' := [(7, v2), (8, .pointer (some ⟨b2, 0, Option.none⟩)), (5, v1), (6, .pointer (some ⟨b1, 0, Option.none⟩)), (0, va_1), (1, vb_1)]) ⟨rfl, rfl, rfl, rfl, rfl, rfl, trivial⟩
  refine then_n ?_
  refine wp_seq ?_
  refine wp_region_lit ?_
  refine wl_lit (l := ([] : List ByteArray)) (vs := []) (parts := []) (wn rfl) rfl rfl rfl tu31 te9 sz_nil rfl (Cat.nil _) coa_nil rfl F S rfl rfl ?_; clear F a S
  rintro v3 c1 a w h3 F S
  refine wl_ev (wn rfl) (ev_move rfl) F S rfl rfl ?_; clear F a; intro a F
  obtain ⟨cs1, hk1, hr1⟩ := RepSl.reads (ha_1.mono (l1.trans l2))
  obtain ⟨y3, hy3, hm⟩ := bind_some hm
  refine wl_append (wn rfl) rfl tu31 tu31 te9 (by decide) (by decide) F S rfl rfl (k := 0) rfl h3 hk1 rfl (hr1 _ _ S) hy3 rfl rfl ?_; clear F a S
  rintro v4 c2 a w h4 S F; replace S : St g2 [c2, [(b2, .cells #[.int .i64 y2.2.Code, .int .i64 y2.2.Index] 25 (0, 0))], [(b1, .cells #[.int .i64 y1.2.Code, .int .i64 y1.2.Index] 25 (0, 0))]] fr w := S
  refine wl_ev (wn rfl) (ev_move rfl) F S rfl rfl ?_; clear F a; intro a F
  obtain ⟨cs2, hk2, hr2⟩ := RepSl.reads (hb_1.mono (l1.trans l2))
  obtain ⟨y4, hy4, hm⟩ := bind_some hm
  refine wl_append (wn rfl) rfl tu31 tu31 te9 (by decide) (by decide) F S rfl rfl (k := 0) rfl h4 hk2 rfl (hr2 _ _ S) hy4 rfl rfl ?_; clear F a S
  rintro v5 c3 a w h5 S F; replace S : St g2 [c3, [(b2, .cells #[.int .i64 y2.2.Code, .int .i64 y2.2.Index] 25 (0, 0))], [(b1, .cells #[.int .i64 y1.2.Code, .int .i64 y1.2.Index] 25 (0, 0))]] fr w := S
  obtain ⟨g3, l3, S, h6⟩ : ∃ gz, Le g2 gz ∧ St gz [[(b2, .cells #[.int .i64 y2.2.Code, .int .i64 y2.2.Index] 25 (0, 0))], [(b1, .cells #[.int .i64 y1.2.Code, .int .i64 y1.2.Index] 25 (0, 0))]] fr w ∧ RepSl gz y4 v5 := ⟨_, Le.add _ _, S.freeze 0 rfl, OwnS.freeze (S.front 0 rfl) h5⟩
  obtain ⟨y5, hy5, hm⟩ := bind_some hm
  refine wl_call (wn rfl) rfl (xs := [.tmp 27]) (vs := [v5]) (cap := []) F rfl rfl tc21 (rename_Sketch_ok (g := g3) (fr := (fl [[(b2, .cells #[.int .i64 y2.2.Code, .int .i64 y2.2.Index] 25 (0, 0))], [(b1, .cells #[.int .i64 y1.2.Code, .int .i64 y1.2.Index] 25 (0, 0))]] fr)) (w := w) y4 v5 h6 S hy5) rfl rfl ?_; clear F a S
  rintro _ a w ⟨g4, v6, l4, S, h7, rfl⟩ F; replace S : St g4 [[(b2, .cells #[.int .i64 y2.2.Code, .int .i64 y2.2.Index] 25 (0, 0))], [(b1, .cells #[.int .i64 y1.2.Code, .int .i64 y1.2.Index] 25 (0, 0))]] fr w := S
  refine wl_ev (wn rfl) (ev_move rfl) F S rfl rfl ?_; clear F a; intro a F
  refine wl_ev (wn rfl) (ev_extract (vs := [v6, .agg #[.int .i64 y5.2.Code, .int .i64 y5.2.Index]]) rfl rfl) F S rfl rfl ?_; clear F a; intro a F
  refine wl_ev (wn rfl) (ev_extract (vs := [v6, .agg #[.int .i64 y5.2.Code, .int .i64 y5.2.Index]]) rfl rfl) F S rfl rfl ?_; clear F a; intro a F
  refine wl_alloc (wn rfl) rfl tz25 (cs := [.int .i64 0, .int .i64 0]) rfl F S rfl rfl ?_; clear F a S; rintro b3 a w F S
  refine wl_ev (wn rfl) (ev_assign rfl) F S rfl rfl ?_; clear F a; intro a F
  refine wl_storeC (wn rfl) rfl F S rfl rfl (vs := [.int .i64 y5.2.Code, .int .i64 y5.2.Index]) rfl ts25 (one_cons rfl (one_cons rfl one_nil)) (k := 0) rfl (Nat.le_of_ble_eq_true rfl) (c' := #[.int .i64 y5.2.Code, .int .i64 y5.2.Index]) rfl rfl ?_; clear S; intro w S
  replace S : St g4 [[(b3, .cells #[.int .i64 y5.2.Code, .int .i64 y5.2.Index] 25 (0, 0))], [(b2, .cells #[.int .i64 y2.2.Code, .int .i64 y2.2.Index] 25 (0, 0))], [(b1, .cells #[.int .i64 y1.2.Code, .int .i64 y1.2.Index] 25 (0, 0))]] fr w := S
  refine wpList_nil ?_
  replace F := F.sub (e' := [(9, v6), (10, .pointer (some ⟨b3, 0, Option.none⟩)), (7, v2), (8, .pointer (some ⟨b2, 0, Option.none⟩)), (5, v1), (6, .pointer (some ⟨b1, 0, Option.none⟩))]) ⟨rfl, rfl, rfl, rfl, rfl, rfl, trivial⟩
  refine then_n ?_
  refine wp_seq ?_
  refine wp_seq ?_
  refine wp_region_lit ?_
  refine wl_ev (wn rfl) (ev_fieldAddr' tu25 tf25_0 (z := 0) ts3 rfl ⟨_, rfl⟩ rfl) F S rfl rfl ?_; clear F a; intro a F
  refine wl_ev (wn rfl) (ev_load1 tu3 rfl rfl (box_ptr (cells := [.int .i64 y1.2.Code]) 2 rfl 0 rfl (Nat.le_of_ble_eq_true rfl))) F S rfl rfl ?_; clear F a; intro a F
  refine wl_ev (wn rfl) (ev_int rfl rfl (bo_neq _ _ _ _)) F S rfl rfl ?_; clear F a; intro a F
  refine wl_ev (wn rfl) (ev_move rfl) F S rfl rfl ?_; clear F a; intro a F
  obtain ⟨x1, hx1, hm⟩ := bind_some hm
  refine wl_cut 4 (fun a w' => w = w' ∧ Fr 115 a [(38, .bool x1), (9, v6), (10, .pointer (some ⟨b3, 0, Option.none⟩)), (7, v2), (5, v1)]) ?_ ?_
  · clear hm; obtain ⟨hc1, hm⟩ | ⟨hc1, hm⟩ := ite_or hx1
    · refine wl_skip rfl rfl rfl rfl (ne_ft hc1) F rfl rfl ?_; clear F a; intro a F
      refine wl_skip rfl rfl rfl rfl (ne_ft hc1) F rfl rfl ?_; clear F a; intro a F
      refine wl_skip rfl rfl rfl rfl (ne_ft hc1) F rfl rfl ?_; clear F a; intro a F
      refine wl_ev (wn rfl) (ev_pickT rfl hc1 rfl) F S rfl rfl ?_; clear F a; intro a F
      obtain rfl := Option.some.inj hm
      refine wpList_nil (then_n ?_); exact ⟨rfl, F.sub ⟨rfl, rfl, rfl, rfl, rfl, trivial⟩⟩
    · refine wl_ev (wg F rfl rfl rfl rfl hc1) (ev_fieldAddr' tu25 tf25_0 (z := 0) ts3 rfl ⟨_, rfl⟩ rfl) F S rfl rfl ?_; clear F a; intro a F
      refine wl_ev (wg F rfl rfl rfl rfl hc1) (ev_load1 tu3 rfl rfl (box_ptr (cells := [.int .i64 y2.2.Code]) 1 rfl 0 rfl (Nat.le_of_ble_eq_true rfl))) F S rfl rfl ?_; clear F a; intro a F
      refine wl_ev (wg F rfl rfl rfl rfl hc1) (ev_int rfl rfl (bo_neq _ _ _ _)) F S rfl rfl ?_; clear F a; intro a F
      refine wl_ev (wn rfl) (ev_pickF rfl hc1 rfl) F S rfl rfl ?_; clear F a; intro a F
      obtain rfl := Option.some.inj hm
      refine wpList_nil (then_n ?_); exact ⟨rfl, F.sub ⟨rfl, rfl, rfl, rfl, rfl, trivial⟩⟩
  clear F; rintro a w' ⟨rfl, F⟩
  refine wl_ev (wn rfl) (ev_move rfl) F S rfl rfl ?_; clear F a; intro a F
  obtain ⟨x2, hx2, hm⟩ := bind_some hm
  refine wl_cut 4 (fun a w' => w = w' ∧ Fr 115 a [(43, .bool x2), (9, v6), (7, v2), (5, v1)]) ?_ ?_
  · clear hm; obtain ⟨hc2, hm⟩ | ⟨hc2, hm⟩ := ite_or hx2
    · refine wl_skip rfl rfl rfl rfl (ne_ft hc2) F rfl rfl ?_; clear F a; intro a F
      refine wl_skip rfl rfl rfl rfl (ne_ft hc2) F rfl rfl ?_; clear F a; intro a F
      refine wl_skip rfl rfl rfl rfl (ne_ft hc2) F rfl rfl ?_; clear F a; intro a F
      refine wl_ev (wn rfl) (ev_pickT rfl hc2 rfl) F S rfl rfl ?_; clear F a; intro a F
      obtain rfl := Option.some.inj hm
      refine wpList_nil (then_n ?_); exact ⟨rfl, F.sub ⟨rfl, rfl, rfl, rfl, trivial⟩⟩
    · refine wl_ev (wg F rfl rfl rfl rfl hc2) (ev_fieldAddr' tu25 tf25_0 (z := 0) ts3 rfl ⟨_, rfl⟩ rfl) F S rfl rfl ?_; clear F a; intro a F
      refine wl_ev (wg F rfl rfl rfl rfl hc2) (ev_load1 tu3 rfl rfl (box_ptr (cells := [.int .i64 y5.2.Code]) 0 rfl 0 rfl (Nat.le_of_ble_eq_true rfl))) F S rfl rfl ?_; clear F a; intro a F
      refine wl_ev (wg F rfl rfl rfl rfl hc2) (ev_int rfl rfl (bo_neq _ _ _ _)) F S rfl rfl ?_; clear F a; intro a F
      refine wl_ev (wn rfl) (ev_pickF rfl hc2 rfl) F S rfl rfl ?_; clear F a; intro a F
      obtain rfl := Option.some.inj hm
      refine wpList_nil (then_n ?_); exact ⟨rfl, F.sub ⟨rfl, rfl, rfl, rfl, trivial⟩⟩
  clear F; rintro a w' ⟨rfl, F⟩
  refine wl_ev (wn rfl) (ev_move rfl) F S rfl rfl ?_; clear F a; intro a F
  obtain ⟨x3, hx3, hm⟩ := bind_some hm
  refine wl_cut 4 (fun a w' => w = w' ∧ Fr 115 a [(48, .bool x3), (9, v6), (7, v2), (5, v1)]) ?_ ?_
  · clear hm; obtain ⟨hc3, hm⟩ | ⟨hc3, hm⟩ := ite_or hx3
    · refine wl_skip rfl rfl rfl rfl (ne_ft hc3) F rfl rfl ?_; clear F a; intro a F
      refine wl_skip rfl rfl rfl rfl (ne_ft hc3) F rfl rfl ?_; clear F a; intro a F
      refine wl_skip rfl rfl rfl rfl (ne_ft hc3) F rfl rfl ?_; clear F a; intro a F
      refine wl_ev (wn rfl) (ev_pickT rfl hc3 rfl) F S rfl rfl ?_; clear F a; intro a F
      obtain rfl := Option.some.inj hm
      refine wpList_nil (then_n ?_); exact ⟨rfl, F.sub ⟨rfl, rfl, rfl, rfl, trivial⟩⟩
    · refine wl_ev (wg F rfl rfl rfl rfl hc3) (ev_move rfl) F S rfl rfl ?_; clear F a; intro a F
      refine wl_ev (wg F rfl rfl rfl rfl hc3) (ev_lenSh h1 rfl tu23) F S rfl rfl ?_; clear F a; intro a F
      refine wl_ev (wg F rfl rfl rfl rfl hc3) (ev_int rfl rfl (bo_eql _ _ _ _)) F S rfl rfl ?_; clear F a; intro a F
      refine wl_ev (wn rfl) (ev_pickF rfl hc3 rfl) F S rfl rfl ?_; clear F a; intro a F
      obtain rfl := Option.some.inj hm
      refine wpList_nil (then_n ?_); exact ⟨rfl, F.sub ⟨rfl, rfl, rfl, rfl, trivial⟩⟩
  clear F; rintro a w' ⟨rfl, F⟩
  refine wl_ev (wn rfl) (ev_move rfl) F S rfl rfl ?_; clear F a; intro a F
  obtain ⟨x4, hx4, hm⟩ := bind_some hm
  refine wl_cut 4 (fun a w' => w = w' ∧ Fr 115 a [(53, .bool x4), (9, v6), (7, v2), (5, v1)]) ?_ ?_
  · clear hm; obtain ⟨hc4, hm⟩ | ⟨hc4, hm⟩ := ite_or hx4
    · refine wl_skip rfl rfl rfl rfl (ne_ft hc4) F rfl rfl ?_; clear F a; intro a F
      refine wl_skip rfl rfl rfl rfl (ne_ft hc4) F rfl rfl ?_; clear F a; intro a F
      refine wl_skip rfl rfl rfl rfl (ne_ft hc4) F rfl rfl ?_; clear F a; intro a F
      refine wl_ev (wn rfl) (ev_pickT rfl hc4 rfl) F S rfl rfl ?_; clear F a; intro a F
      obtain rfl := Option.some.inj hm
      refine wpList_nil (then_n ?_); exact ⟨rfl, F.sub ⟨rfl, rfl, rfl, rfl, trivial⟩⟩
    · refine wl_ev (wg F rfl rfl rfl rfl hc4) (ev_move rfl) F S rfl rfl ?_; clear F a; intro a F
      refine wl_ev (wg F rfl rfl rfl rfl hc4) (ev_lenSh h2 rfl tu23) F S rfl rfl ?_; clear F a; intro a F
      refine wl_ev (wg F rfl rfl rfl rfl hc4) (ev_int rfl rfl (bo_eql _ _ _ _)) F S rfl rfl ?_; clear F a; intro a F
      refine wl_ev (wn rfl) (ev_pickF rfl hc4 rfl) F S rfl rfl ?_; clear F a; intro a F
      obtain rfl := Option.some.inj hm
      refine wpList_nil (then_n ?_); exact ⟨rfl, F.sub ⟨rfl, rfl, rfl, rfl, trivial⟩⟩
  clear F; rintro a w' ⟨rfl, F⟩
  refine wpList_nil ?_
  refine then_n ?_
  obtain ⟨hc5, hm⟩ | ⟨hc5, hm⟩ := ite_or hm
  · refine wp_condT F rfl hc5 ?_
    refine wp_seq ?_
    refine wp_region_lit ?_
    obtain ⟨y6, hy6, hm⟩ := bind_some hm
    refine wl_call (wn rfl) rfl (xs := []) (vs := []) (cap := []) F rfl rfl tc18 (changeforgelaw2_half_ok (g := g4) (fr := (fl [[(b3, .cells #[.int .i64 y5.2.Code, .int .i64 y5.2.Index] 25 (0, 0))], [(b2, .cells #[.int .i64 y2.2.Code, .int .i64 y2.2.Index] 25 (0, 0))], [(b1, .cells #[.int .i64 y1.2.Code, .int .i64 y1.2.Index] 25 (0, 0))]] fr)) (w := w)  S hy6) rfl rfl ?_; clear F a S
    rintro _ a w ⟨g5, l5, S, rfl⟩ F; replace S : St g5 [[(b3, .cells #[.int .i64 y5.2.Code, .int .i64 y5.2.Index] 25 (0, 0))], [(b2, .cells #[.int .i64 y2.2.Code, .int .i64 y2.2.Index] 25 (0, 0))], [(b1, .cells #[.int .i64 y1.2.Code, .int .i64 y1.2.Index] 25 (0, 0))]] fr w := S
    refine wl_ev (wn rfl) (ev_assign rfl) F S rfl rfl ?_; clear F a; intro a F
    refine wpList_nil ?_
    replace F := F.sub (e' := [(4, .bool y6)]) ⟨rfl, trivial⟩
    refine then_n ?_
    refine wp_ret ?_
    refine then_r ?_
    obtain rfl := Option.some.inj hm
    refine post_r (fn := Try.f8) (rs := [.tmp 4]) [.bool y6] F rfl (ar_cons (resT rfl) ar_nil) ?_
    replace S : St g5 [] fr w := St.tail [] _ S
    exact ⟨_, rfl, g5, ((((l1.trans l2).trans l3).trans l4).trans l5), S, rfl⟩
  · refine wp_condF F rfl hc5 ?_
    refine wp_skip ?_
    refine then_n ?_
    refine wp_seq ?_
    refine wp_seq ?_
    refine wp_region_lit ?_
    refine wl_ev (wn rfl) (ev_move rfl) F S rfl rfl ?_; clear F a; intro a F
    refine wl_ev (wn rfl) (ev_lenSh h1 rfl tu23) F S rfl rfl ?_; clear F a; intro a F
    refine wl_ev (wn rfl) (ev_int rfl rfl (bo_neq _ _ _ _)) F S rfl rfl ?_; clear F a; intro a F
    refine wl_ev (wn rfl) (ev_move rfl) F S rfl rfl ?_; clear F a; intro a F
    obtain ⟨x5, hx5, hm⟩ := bind_some hm
    refine wl_cut 4 (fun a w' => w = w' ∧ Fr 115 a [(62, .bool x5), (9, v6), (7, v2), (5, v1)]) ?_ ?_
    · clear hm; obtain ⟨hc6, hm⟩ | ⟨hc6, hm⟩ := ite_or hx5
      · refine wl_skip rfl rfl rfl rfl (ne_ft hc6) F rfl rfl ?_; clear F a; intro a F
        refine wl_skip rfl rfl rfl rfl (ne_ft hc6) F rfl rfl ?_; clear F a; intro a F
        refine wl_skip rfl rfl rfl rfl (ne_ft hc6) F rfl rfl ?_; clear F a; intro a F
        refine wl_ev (wn rfl) (ev_pickT rfl hc6 rfl) F S rfl rfl ?_; clear F a; intro a F
        obtain rfl := Option.some.inj hm
        refine wpList_nil (then_n ?_); exact ⟨rfl, F.sub ⟨rfl, rfl, rfl, rfl, trivial⟩⟩
      · refine wl_ev (wg F rfl rfl rfl rfl hc6) (ev_move rfl) F S rfl rfl ?_; clear F a; intro a F
        refine wl_ev (wg F rfl rfl rfl rfl hc6) (ev_lenSh h2 rfl tu23) F S rfl rfl ?_; clear F a; intro a F
        refine wl_ev (wg F rfl rfl rfl rfl hc6) (ev_int rfl rfl (bo_neq _ _ _ _)) F S rfl rfl ?_; clear F a; intro a F
        refine wl_ev (wn rfl) (ev_pickF rfl hc6 rfl) F S rfl rfl ?_; clear F a; intro a F
        obtain rfl := Option.some.inj hm
        refine wpList_nil (then_n ?_); exact ⟨rfl, F.sub ⟨rfl, rfl, rfl, rfl, trivial⟩⟩
    clear F; rintro a w' ⟨rfl, F⟩
    refine wl_ev (wn rfl) (ev_move rfl) F S rfl rfl ?_; clear F a; intro a F
    obtain ⟨x6, hx6, hm⟩ := bind_some hm
    refine wl_cut 4 (fun a w' => w = w' ∧ Fr 115 a [(67, .bool x6), (9, v6), (7, v2), (5, v1)]) ?_ ?_
    · clear hm; obtain ⟨hc7, hm⟩ | ⟨hc7, hm⟩ := ite_or hx6
      · refine wl_skip rfl rfl rfl rfl (ne_ft hc7) F rfl rfl ?_; clear F a; intro a F
        refine wl_skip rfl rfl rfl rfl (ne_ft hc7) F rfl rfl ?_; clear F a; intro a F
        refine wl_skip rfl rfl rfl rfl (ne_ft hc7) F rfl rfl ?_; clear F a; intro a F
        refine wl_ev (wn rfl) (ev_pickT rfl hc7 rfl) F S rfl rfl ?_; clear F a; intro a F
        obtain rfl := Option.some.inj hm
        refine wpList_nil (then_n ?_); exact ⟨rfl, F.sub ⟨rfl, rfl, rfl, rfl, trivial⟩⟩
      · refine wl_ev (wg F rfl rfl rfl rfl hc7) (ev_move rfl) F S rfl rfl ?_; clear F a; intro a F
        refine wl_ev (wg F rfl rfl rfl rfl hc7) (ev_lenSh h7 rfl tu23) F S rfl rfl ?_; clear F a; intro a F
        refine wl_ev (wg F rfl rfl rfl rfl hc7) (ev_int rfl rfl (bo_neq _ _ _ _)) F S rfl rfl ?_; clear F a; intro a F
        refine wl_ev (wn rfl) (ev_pickF rfl hc7 rfl) F S rfl rfl ?_; clear F a; intro a F
        obtain rfl := Option.some.inj hm
        refine wpList_nil (then_n ?_); exact ⟨rfl, F.sub ⟨rfl, rfl, rfl, rfl, trivial⟩⟩
    clear F; rintro a w' ⟨rfl, F⟩
    refine wpList_nil ?_
    refine then_n ?_
    obtain ⟨hc8, hm⟩ | ⟨hc8, hm⟩ := ite_or hm
    · refine wp_condT F rfl hc8 ?_
      refine wp_seq ?_
      refine wp_region_lit ?_
      refine wl_ev (wn rfl) (ev_assign rfl) F S rfl rfl ?_; clear F a; intro a F
      refine wpList_nil ?_
      replace F := F.sub (e' := [(4, .bool false)]) ⟨rfl, trivial⟩
      refine then_n ?_
      refine wp_ret ?_
      refine then_r ?_
      obtain rfl := Option.some.inj hm
      refine post_r (fn := Try.f8) (rs := [.tmp 4]) [.bool false] F rfl (ar_cons (resT rfl) ar_nil) ?_
      replace S : St g4 [] fr w := St.tail [] _ S
      exact ⟨_, rfl, g4, (((l1.trans l2).trans l3).trans l4), S, rfl⟩
    · refine wp_condF F rfl hc8 ?_
      refine wp_skip ?_
      refine then_n ?_
      refine wp_cut (fun a w => ∃ (g6 : Gh), Fr 115 a [] ∧ Le g4 g6 ∧ St g6 [] fr w ∧ changeforgelaw2_RenameSketchUnion.j1 = some r) ?_ ?_
      · refine wp_seq ?_
        refine wp_region_lit ?_
        refine wl_ev (wn rfl) (ev_assign rfl) F S rfl rfl ?_; clear F a; intro a F
        refine wpList_nil ?_
        replace F := F.sub (e' := [(11, .int .i64 0), (9, v6), (7, v2), (5, v1)]) ⟨rfl, rfl, rfl, rfl, trivial⟩
        refine then_n ?_
        refine wp_block ?_
        obtain ⟨r1, hr3, hm⟩ := bind_some hm
        have hmo1 := hm; clear hm
        refine wp_iter (σ := Int) (ρ := Bool ⊕ Unit) (m := fun s => changeforgelaw2_RenameSketchUnion.l1 y1 y2 y5 s) (I := fun x7 a w => ∃ (g8 : Gh), Fr 115 a [(11, .int .i64 x7), (9, v6), (7, v2), (5, v1)] ∧ Le g4 g8 ∧ St g8 [] fr w) hr3 ?_ ?_
        · replace S : St g4 [] fr w := St.tail [] _ S
          exact ⟨g4, F.sub ⟨rfl, rfl, rfl, rfl, trivial⟩, (Le.refl _), S⟩
        · clear F S; rintro x7 a w x8 ⟨g8, F, l8, S⟩ hx7 hfin1
          have hm : changeforgelaw2_RenameSketchUnion.l1 y1 y2 y5 x7 = some x8 := hx7; clear hx7
          unfold changeforgelaw2_RenameSketchUnion.l1 at hm
          refine wp_seq ?_
          refine wp_seq ?_
          refine wp_region_lit ?_
          refine wl_ev (wn rfl) (ev_move rfl) F S rfl rfl ?_; clear F a; intro a F
          refine wl_ev (wn rfl) (ev_int rfl rfl (bo_lss _ _ _ _)) F S rfl rfl ?_; clear F a; intro a F
          refine wpList_nil ?_
          replace F := F.sub (e' := [(69, .bool (decide (x7 < 8))), (11, .int .i64 x7), (9, v6), (7, v2), (5, v1)]) ⟨rfl, rfl, rfl, rfl, rfl, trivial⟩
          refine then_n ?_
          obtain ⟨hc9, hm⟩ | ⟨hc9, hm⟩ := ite_or hm
          · refine wp_condT F rfl hc9 ?_
            refine wp_skip ?_
            refine then_n ?_
            refine wp_seq ?_
            refine wp_block ?_
            refine wp_seq ?_
            refine wp_quiet mo (by kernel_rfl) S ?_
            refine wq_ev (wn rfl) (ev_move rfl) F rfl rfl ?_; clear F a; intro a F
            refine wq_ev (wn rfl) (ev_move rfl) F rfl rfl ?_; clear F a; intro a F
            obtain ⟨y8, hy8, hm⟩ := bind_some hm
            obtain ⟨cs3, hr4, hp1⟩ := elemS (h7.mono l8) hy8
            obtain rfl := rep_int hr4
            refine wq_ev (wn rfl) (ev_idxS (h7.mono l8) hy8 tu23 ts3 rfl rfl) F rfl rfl ?_; clear F a; intro a F
            refine wq_ev (wn rfl) (ev_load1 tu3 rfl rfl (ptr_mono (cks := []) (fr := fr) hp1 (Le.refl _))) F rfl rfl ?_; clear F a; intro a F
            refine wq_ev (wn rfl) (ev_move rfl) F rfl rfl ?_; clear F a; intro a F
            refine wq_ev (wn rfl) (ev_move rfl) F rfl rfl ?_; clear F a; intro a F
            obtain ⟨y9, hy9, hm⟩ := bind_some hm
            obtain ⟨cs4, hr5, hp2⟩ := elemS (h1.mono (((l2.trans l3).trans l4).trans l8)) hy9
            obtain rfl := rep_int hr5
            refine wq_ev (wn rfl) (ev_idxS (h1.mono (((l2.trans l3).trans l4).trans l8)) hy9 tu23 ts3 rfl rfl) F rfl rfl ?_; clear F a; intro a F
            refine wq_ev (wn rfl) (ev_load1 tu3 rfl rfl (ptr_mono (cks := []) (fr := fr) hp2 (Le.refl _))) F rfl rfl ?_; clear F a; intro a F
            refine wq_ev (wn rfl) (ev_int rfl rfl (bo_gtr _ _ _ _)) F rfl rfl ?_; clear F a; intro a F
            refine wq_ev (wn rfl) (ev_move rfl) F rfl rfl ?_; clear F a; intro a F
            obtain ⟨x9, hx8, hm⟩ := bind_some hm
            refine wq_cut 10 (fun a => Fr 115 a [(91, .bool x9), (11, .int .i64 x7), (9, v6), (7, v2), (5, v1)]) ?_ ?_
            · clear hm; obtain ⟨hc10, hm⟩ | ⟨hc10, hm⟩ := ite_or hx8
              · refine wq_skip rfl rfl rfl rfl (ne_ft hc10) F rfl rfl ?_; clear F a; intro a F
                refine wq_skip rfl rfl rfl rfl (ne_ft hc10) F rfl rfl ?_; clear F a; intro a F
                refine wq_skip rfl rfl rfl rfl (ne_ft hc10) F rfl rfl ?_; clear F a; intro a F
                refine wq_skip rfl rfl rfl rfl (ne_ft hc10) F rfl rfl ?_; clear F a; intro a F
                refine wq_skip rfl rfl rfl rfl (ne_ft hc10) F rfl rfl ?_; clear F a; intro a F
                refine wq_skip rfl rfl rfl rfl (ne_ft hc10) F rfl rfl ?_; clear F a; intro a F
                refine wq_skip rfl rfl rfl rfl (ne_ft hc10) F rfl rfl ?_; clear F a; intro a F
                refine wq_skip rfl rfl rfl rfl (ne_ft hc10) F rfl rfl ?_; clear F a; intro a F
                refine wq_skip rfl rfl rfl rfl (ne_ft hc10) F rfl rfl ?_; clear F a; intro a F
                refine wq_ev (wn rfl) (ev_pickT rfl hc10 rfl) F rfl rfl ?_; clear F a; intro a F
                obtain rfl := Option.some.inj hm
                refine wq_nil ?_; exact F.sub ⟨rfl, rfl, rfl, rfl, rfl, trivial⟩
              · refine wq_ev (wg F rfl rfl rfl rfl hc10) (ev_move rfl) F rfl rfl ?_; clear F a; intro a F
                refine wq_ev (wg F rfl rfl rfl rfl hc10) (ev_move rfl) F rfl rfl ?_; clear F a; intro a F
                obtain ⟨y10, hy10, hm⟩ := bind_some hm
                obtain ⟨cs5, hr6, hp3⟩ := elemS (h7.mono l8) hy10
                obtain rfl := rep_int hr6
                refine wq_ev (wg F rfl rfl rfl rfl hc10) (ev_idxS (h7.mono l8) hy10 tu23 ts3 rfl rfl) F rfl rfl ?_; clear F a; intro a F
                refine wq_ev (wg F rfl rfl rfl rfl hc10) (ev_load1 tu3 rfl rfl (ptr_mono (cks := []) (fr := fr) hp3 (Le.refl _))) F rfl rfl ?_; clear F a; intro a F
                refine wq_ev (wg F rfl rfl rfl rfl hc10) (ev_move rfl) F rfl rfl ?_; clear F a; intro a F
                refine wq_ev (wg F rfl rfl rfl rfl hc10) (ev_move rfl) F rfl rfl ?_; clear F a; intro a F
                obtain ⟨y11, hy11, hm⟩ := bind_some hm
                obtain ⟨cs6, hr7, hp4⟩ := elemS (h2.mono ((l3.trans l4).trans l8)) hy11
                obtain rfl := rep_int hr7
                refine wq_ev (wg F rfl rfl rfl rfl hc10) (ev_idxS (h2.mono ((l3.trans l4).trans l8)) hy11 tu23 ts3 rfl rfl) F rfl rfl ?_; clear F a; intro a F
                refine wq_ev (wg F rfl rfl rfl rfl hc10) (ev_load1 tu3 rfl rfl (ptr_mono (cks := []) (fr := fr) hp4 (Le.refl _))) F rfl rfl ?_; clear F a; intro a F
                refine wq_ev (wg F rfl rfl rfl rfl hc10) (ev_int rfl rfl (bo_gtr _ _ _ _)) F rfl rfl ?_; clear F a; intro a F
                refine wq_ev (wn rfl) (ev_pickF rfl hc10 rfl) F rfl rfl ?_; clear F a; intro a F
                obtain rfl := Option.some.inj hm
                refine wq_nil ?_; exact F.sub ⟨rfl, rfl, rfl, rfl, rfl, trivial⟩
            clear F; intro a F
            refine wq_ev (wn rfl) (ev_move rfl) F rfl rfl ?_; clear F a; intro a F
            obtain ⟨x10, hx9, hm⟩ := bind_some hm
            refine wq_cut 21 (fun a => Fr 115 a [(113, .bool x10), (11, .int .i64 x7), (9, v6), (7, v2), (5, v1)]) ?_ ?_
            · clear hm; obtain ⟨hc11, hm⟩ | ⟨hc11, hm⟩ := ite_or hx9
              · refine wq_skip rfl rfl rfl rfl (ne_ft hc11) F rfl rfl ?_; clear F a; intro a F
                refine wq_skip rfl rfl rfl rfl (ne_ft hc11) F rfl rfl ?_; clear F a; intro a F
                refine wq_skip rfl rfl rfl rfl (ne_ft hc11) F rfl rfl ?_; clear F a; intro a F
                refine wq_skip rfl rfl rfl rfl (ne_ft hc11) F rfl rfl ?_; clear F a; intro a F
                refine wq_skip rfl rfl rfl rfl (ne_ft hc11) F rfl rfl ?_; clear F a; intro a F
                refine wq_skip rfl rfl rfl rfl (ne_ft hc11) F rfl rfl ?_; clear F a; intro a F
                refine wq_skip rfl rfl rfl rfl (ne_ft hc11) F rfl rfl ?_; clear F a; intro a F
                refine wq_skip rfl rfl rfl rfl (ne_ft hc11) F rfl rfl ?_; clear F a; intro a F
                refine wq_skip rfl rfl rfl rfl (ne_ft hc11) F rfl rfl ?_; clear F a; intro a F
                refine wq_skip rfl rfl rfl rfl (ne_ft hc11) F rfl rfl ?_; clear F a; intro a F
                refine wq_skipu rfl rfl rfl rfl F rfl rfl ?_; clear F a; intro a F
                refine wq_skipu rfl rfl rfl rfl F rfl rfl ?_; clear F a; intro a F
                refine wq_skipu rfl rfl rfl rfl F rfl rfl ?_; clear F a; intro a F
                refine wq_skipu rfl rfl rfl rfl F rfl rfl ?_; clear F a; intro a F
                refine wq_skipu rfl rfl rfl rfl F rfl rfl ?_; clear F a; intro a F
                refine wq_skipu rfl rfl rfl rfl F rfl rfl ?_; clear F a; intro a F
                refine wq_skipu rfl rfl rfl rfl F rfl rfl ?_; clear F a; intro a F
                refine wq_skipu rfl rfl rfl rfl F rfl rfl ?_; clear F a; intro a F
                refine wq_skipu rfl rfl rfl rfl F rfl rfl ?_; clear F a; intro a F
                refine wq_skip rfl rfl rfl rfl (ne_ft hc11) F rfl rfl ?_; clear F a; intro a F
                refine wq_ev (wn rfl) (ev_pickT rfl hc11 rfl) F rfl rfl ?_; clear F a; intro a F
                obtain rfl := Option.some.inj hm
                refine wq_nil ?_; exact F.sub ⟨rfl, rfl, rfl, rfl, rfl, trivial⟩
              · refine wq_ev (wg F rfl rfl rfl rfl hc11) (ev_move rfl) F rfl rfl ?_; clear F a; intro a F
                refine wq_ev (wg F rfl rfl rfl rfl hc11) (ev_move rfl) F rfl rfl ?_; clear F a; intro a F
                obtain ⟨y12, hy12, hm⟩ := bind_some hm
                obtain ⟨cs7, hr8, hp5⟩ := elemS (h7.mono l8) hy12
                obtain rfl := rep_int hr8
                refine wq_ev (wg F rfl rfl rfl rfl hc11) (ev_idxS (h7.mono l8) hy12 tu23 ts3 rfl rfl) F rfl rfl ?_; clear F a; intro a F
                refine wq_ev (wg F rfl rfl rfl rfl hc11) (ev_load1 tu3 rfl rfl (ptr_mono (cks := []) (fr := fr) hp5 (Le.refl _))) F rfl rfl ?_; clear F a; intro a F
                refine wq_ev (wg F rfl rfl rfl rfl hc11) (ev_move rfl) F rfl rfl ?_; clear F a; intro a F
                refine wq_ev (wg F rfl rfl rfl rfl hc11) (ev_move rfl) F rfl rfl ?_; clear F a; intro a F
                obtain ⟨y13, hy13, hm⟩ := bind_some hm
                obtain ⟨cs8, hr9, hp6⟩ := elemS (h1.mono (((l2.trans l3).trans l4).trans l8)) hy13
                obtain rfl := rep_int hr9
                refine wq_ev (wg F rfl rfl rfl rfl hc11) (ev_idxS (h1.mono (((l2.trans l3).trans l4).trans l8)) hy13 tu23 ts3 rfl rfl) F rfl rfl ?_; clear F a; intro a F
                refine wq_ev (wg F rfl rfl rfl rfl hc11) (ev_load1 tu3 rfl rfl (ptr_mono (cks := []) (fr := fr) hp6 (Le.refl _))) F rfl rfl ?_; clear F a; intro a F
                refine wq_ev (wg F rfl rfl rfl rfl hc11) (ev_int rfl rfl (bo_neq _ _ _ _)) F rfl rfl ?_; clear F a; intro a F
                refine wq_ev (wg F rfl rfl rfl rfl hc11) (ev_move rfl) F rfl rfl ?_; clear F a; intro a F
                obtain ⟨x11, hx10, hm⟩ := bind_some hm
                refine wq_cut 10 (fun a => Fr 115 a [(112, .bool x11), (102, .bool (!decide (y12 = y13))), (101, .bool (!decide (y12 = y13))), (100, .int .i64 y13), (99, (elemP v1 x7 1)), (98, .int .i64 x7), (97, v1), (96, .int .i64 y12), (95, (elemP v6 x7 1)), (94, .int .i64 x7), (93, v6), (92, .bool x9), (11, .int .i64 x7), (9, v6), (7, v2), (5, v1)]) ?_ ?_
                · clear hm; obtain ⟨hc12, hm⟩ | ⟨hc12, hm⟩ := ite_or hx10
                  · refine wq_ev (wg F rfl rfl rfl rfl hc12) (ev_move rfl) F rfl rfl ?_; clear F a; intro a F
                    refine wq_ev (wg F rfl rfl rfl rfl hc12) (ev_move rfl) F rfl rfl ?_; clear F a; intro a F
                    obtain ⟨y14, hy14, hm⟩ := bind_some hm
                    obtain ⟨cs9, hr10, hp7⟩ := elemS (h7.mono l8) hy14
                    obtain rfl := rep_int hr10
                    refine wq_ev (wg F rfl rfl rfl rfl hc12) (ev_idxS (h7.mono l8) hy14 tu23 ts3 rfl rfl) F rfl rfl ?_; clear F a; intro a F
                    refine wq_ev (wg F rfl rfl rfl rfl hc12) (ev_load1 tu3 rfl rfl (ptr_mono (cks := []) (fr := fr) hp7 (Le.refl _))) F rfl rfl ?_; clear F a; intro a F
                    refine wq_ev (wg F rfl rfl rfl rfl hc12) (ev_move rfl) F rfl rfl ?_; clear F a; intro a F
                    refine wq_ev (wg F rfl rfl rfl rfl hc12) (ev_move rfl) F rfl rfl ?_; clear F a; intro a F
                    obtain ⟨y15, hy15, hm⟩ := bind_some hm
                    obtain ⟨cs10, hr11, hp8⟩ := elemS (h2.mono ((l3.trans l4).trans l8)) hy15
                    obtain rfl := rep_int hr11
                    refine wq_ev (wg F rfl rfl rfl rfl hc12) (ev_idxS (h2.mono ((l3.trans l4).trans l8)) hy15 tu23 ts3 rfl rfl) F rfl rfl ?_; clear F a; intro a F
                    refine wq_ev (wg F rfl rfl rfl rfl hc12) (ev_load1 tu3 rfl rfl (ptr_mono (cks := []) (fr := fr) hp8 (Le.refl _))) F rfl rfl ?_; clear F a; intro a F
                    refine wq_ev (wg F rfl rfl rfl rfl hc12) (ev_int rfl rfl (bo_neq _ _ _ _)) F rfl rfl ?_; clear F a; intro a F
                    refine wq_ev (wg F rfl rfl rfl rfl hc11) (ev_pickT rfl hc12 rfl) F rfl rfl ?_; clear F a; intro a F
                    obtain rfl := Option.some.inj hm
                    refine wq_nil ?_; exact F.sub ⟨rfl, rfl, rfl, rfl, rfl, rfl, rfl, rfl, rfl, rfl, rfl, rfl, rfl, rfl, rfl, rfl, trivial⟩
                  · refine wq_skip rfl rfl rfl rfl (ne_tf hc12) F rfl rfl ?_; clear F a; intro a F
                    refine wq_skip rfl rfl rfl rfl (ne_tf hc12) F rfl rfl ?_; clear F a; intro a F
                    refine wq_skip rfl rfl rfl rfl (ne_tf hc12) F rfl rfl ?_; clear F a; intro a F
                    refine wq_skip rfl rfl rfl rfl (ne_tf hc12) F rfl rfl ?_; clear F a; intro a F
                    refine wq_skip rfl rfl rfl rfl (ne_tf hc12) F rfl rfl ?_; clear F a; intro a F
                    refine wq_skip rfl rfl rfl rfl (ne_tf hc12) F rfl rfl ?_; clear F a; intro a F
                    refine wq_skip rfl rfl rfl rfl (ne_tf hc12) F rfl rfl ?_; clear F a; intro a F
                    refine wq_skip rfl rfl rfl rfl (ne_tf hc12) F rfl rfl ?_; clear F a; intro a F
                    refine wq_skip rfl rfl rfl rfl (ne_tf hc12) F rfl rfl ?_; clear F a; intro a F
                    refine wq_ev (wg F rfl rfl rfl rfl hc11) (ev_pickF rfl hc12 rfl) F rfl rfl ?_; clear F a; intro a F
                    obtain rfl := Option.some.inj hm
                    refine wq_nil ?_; exact F.sub ⟨rfl, rfl, rfl, rfl, rfl, rfl, rfl, rfl, rfl, rfl, rfl, rfl, rfl, rfl, rfl, rfl, trivial⟩
                clear F; intro a F
                refine wq_ev (wn rfl) (ev_pickF rfl hc11 rfl) F rfl rfl ?_; clear F a; intro a F
                obtain rfl := Option.some.inj hm
                refine wq_nil ?_; exact F.sub ⟨rfl, rfl, rfl, rfl, rfl, trivial⟩
            clear F; intro a F
            refine wq_nil ?_; clear S; intro w S
            refine then_n ?_
            obtain ⟨hc13, hm⟩ | ⟨hc13, hm⟩ := ite_or hm
            · refine wp_condT F rfl hc13 ?_
              refine wp_seq ?_
              refine wp_region_lit ?_
              refine wl_ev (wn rfl) (ev_assign rfl) F S rfl rfl ?_; clear F a; intro a F
              refine wpList_nil ?_
              replace F := F.sub (e' := [(4, .bool false)]) ⟨rfl, trivial⟩
              refine then_n ?_
              refine wp_ret ?_
              refine inb_r ?_
              refine then_r ?_
              refine then_r ?_
              refine inb_r ?_
              refine then_r ?_
              obtain rfl := Option.some.inj hm
              obtain rfl := hfin1 _ rfl
              clear hm
              have hm : (some false : Option Bool) = some _ := hmo1
              obtain rfl := Option.some.inj hm
              refine post_r (fn := Try.f8) (rs := [.tmp 4]) [.bool false] F rfl (ar_cons (resT rfl) ar_nil) ?_
              exact ⟨_, rfl, g8, ((((l1.trans l2).trans l3).trans l4).trans l8), S, rfl⟩
            · refine wp_condF F rfl hc13 ?_
              refine wp_skip ?_
              refine inb_n ?_
              refine then_n ?_
              refine wp_region_lit ?_
              refine wl_ev (wn rfl) (ev_move rfl) F S rfl rfl ?_; clear F a; intro a F
              obtain ⟨z1, hz1, hm⟩ := bind_some hm
              refine wl_ev (wn rfl) (ev_int rfl rfl (bo_add hz1)) F S rfl rfl ?_; clear F a; intro a F
              refine wl_ev (wn rfl) (ev_assign rfl) F S rfl rfl ?_; clear F a; intro a F
              refine wpList_nil ?_
              replace F := F.sub (e' := [(11, .int .i64 z1), (9, v6), (7, v2), (5, v1)]) ⟨rfl, rfl, rfl, rfl, trivial⟩
              refine then_n ?_
              obtain rfl := Option.some.inj hm
              refine ⟨_, rfl, ?_⟩
              exact ⟨g8, F.sub ⟨rfl, rfl, rfl, rfl, trivial⟩, l8, S⟩
          · refine wp_condF F rfl hc9 ?_
            refine wp_exit ?_
            refine then_e ?_
            refine then_e ?_
            refine inb_x ?_
            refine then_n ?_
            obtain rfl := Option.some.inj hm
            obtain rfl := hfin1 _ rfl
            clear hm
            have hm : (changeforgelaw2_RenameSketchUnion.j1 : Option Bool) = some _ := hmo1
            exact ⟨g8, F.sub trivial, l8, S, hm⟩
      · clear F S hm; rintro a w ⟨g6, F, l6, S, hm⟩
        refine wp_seq ?_
        refine wp_region_lit ?_
        obtain ⟨y7, hy7, hm⟩ := bind_some hm
        refine wl_call (wn rfl) rfl (xs := []) (vs := []) (cap := []) F rfl rfl tc18 (changeforgelaw2_half_ok (g := g6) (fr := fr) (w := w)  S hy7) rfl rfl ?_; clear F a S
        rintro _ a w ⟨g7, l7, S, rfl⟩ F; replace S : St g7 [] fr w := S
        refine wl_ev (wn rfl) (ev_assign rfl) F S rfl rfl ?_; clear F a; intro a F
        refine wpList_nil ?_
        replace F := F.sub (e' := [(4, .bool y7)]) ⟨rfl, trivial⟩
        refine then_n ?_
        refine wp_ret ?_
        obtain rfl := Option.some.inj hm
        refine post_r (fn := Try.f8) (rs := [.tmp 4]) [.bool y7] F rfl (ar_cons (resT rfl) ar_nil) ?_
        exact ⟨_, rfl, g7, (((((l1.trans l2).trans l3).trans l4).trans l6).trans l7), S, rfl⟩

theorem textpatch_End_ok {g : Gh} {fr : Hl} {w : World} {r : Int} (h_ : Hunk) (vh_1 : Value) (hh_1 : RepSl g h_.Old vh_1) (vh_2 : Value) (hh_2 : RepSl g h_.New vh_2) (S : St g [] fr w) (hm : textpatch_End h_ = some r) :
    Calls Try.prog 47 [.agg #[.int .i64 h_.At, vh_1, vh_2]].toArray w (fun en w' => ∃ v, en = .returned v ∧ ∃ (g' : Gh), Le g g' ∧ St g' [] fr w' ∧ .int .i64 r = v) := by
  unfold textpatch_End at hm
  refine calls_enter (fn := Try.f47) Try.func47 rfl Try.ntmps47 (Nat.le_of_ble_eq_true rfl) ?_
  intro a F
  replace F : Fr 9 a [(0, .agg #[.int .i64 h_.At, vh_1, vh_2])] := F
  refine wp_seq ?_
  refine wp_region_lit ?_
  refine wl_boxC (wn rfl) rfl rfl rfl F S rfl rfl ?_; clear F a S; rintro b1 a w F S
  refine wl_ev (wn rfl) (ev_assign rfl) F S rfl rfl ?_; clear F a; intro a F
  refine wpList_nil ?_
  replace F := F.sub (e' := [(1, .pointer (some ⟨b1, 0, Option.none⟩))]) ⟨rfl, trivial⟩
  refine then_n ?_
  refine wp_seq ?_
  refine wp_region_lit ?_
  refine wl_ev (wn rfl) (ev_fieldAddr' tu44 tf44_0 (z := 0) ts3 rfl ⟨_, rfl⟩ rfl) F S rfl rfl ?_; clear F a; intro a F
  refine wl_ev (wn rfl) (ev_load1 tu3 rfl rfl (box_ptr (cells := [.int .i64 h_.At]) 0 rfl 0 rfl (Nat.le_of_ble_eq_true rfl))) F S rfl rfl ?_; clear F a; intro a F
  refine wl_ev (wn rfl) (ev_fieldAddr' tu44 tf44_1 (z := 0) ts31 rfl ⟨_, rfl⟩ rfl) F S rfl rfl ?_; clear F a; intro a F
  refine wl_ev (wn rfl) (ev_load1 tu31 rfl rfl (box_ptr (cells := [vh_1]) 0 rfl 1 rfl (Nat.le_of_ble_eq_true rfl))) F S rfl rfl ?_; clear F a; intro a F
  refine wl_ev (wn rfl) (ev_lenSh hh_1 rfl tu31) F S rfl rfl ?_; clear F a; intro a F
  obtain ⟨z1, hz1, hm⟩ := bind_some hm
  refine wl_ev (wn rfl) (ev_int rfl rfl (bo_add hz1)) F S rfl rfl ?_; clear F a; intro a F
  refine wl_ev (wn rfl) (ev_assign rfl) F S rfl rfl ?_; clear F a; intro a F
  refine wpList_nil ?_
  replace F := F.sub (e' := [(2, .int .i64 z1)]) ⟨rfl, trivial⟩
  refine then_n ?_
  refine wp_ret ?_
  obtain rfl := Option.some.inj hm
  refine post_r (fn := Try.f47) (rs := [.tmp 2]) [.int .i64 z1] F rfl (ar_cons (resT rfl) ar_nil) ?_
  replace S : St g [] fr w := St.tail [] _ S
  exact ⟨_, rfl, g, (Le.refl _), S, rfl⟩

theorem textpatch_hunk_ok {g : Gh} {fr : Hl} {w : World} {r : Int} (h_ : Hunk) (vh_1 : Value) (hh_1 : RepSl g h_.Old vh_1) (vh_2 : Value) (hh_2 : RepSl g h_.New vh_2) (end_ : Int) (S : St g [] fr w) (hm : textpatch_hunk h_ end_ = some r) :
    Calls Try.prog 46 [.agg #[.int .i64 h_.At, vh_1, vh_2], .int .i64 end_].toArray w (fun en w' => ∃ v, en = .returned v ∧ ∃ (g' : Gh), Le g g' ∧ St g' [] fr w' ∧ .int .i64 r = v) := by
  unfold textpatch_hunk at hm
  refine calls_enter (fn := Try.f46) Try.func46 rfl Try.ntmps46 (Nat.le_of_ble_eq_true rfl) ?_
  intro a F
  replace F : Fr 49 a [(0, .agg #[.int .i64 h_.At, vh_1, vh_2]), (1, .int .i64 end_)] := F
  refine wp_seq ?_
  refine wp_region_lit ?_
  refine wl_boxC (wn rfl) rfl rfl rfl F S rfl rfl ?_; clear F a S; rintro b1 a w F S
  refine wl_ev (wn rfl) (ev_assign rfl) F S rfl rfl ?_; clear F a; intro a F
  refine wpList_nil ?_
  replace F := F.sub (e' := [(2, .pointer (some ⟨b1, 0, Option.none⟩)), (1, .int .i64 end_)]) ⟨rfl, rfl, trivial⟩
  refine then_n ?_
  refine wp_seq ?_
  refine wp_seq ?_
  refine wp_region_lit ?_
  refine wl_ev (wn rfl) (ev_fieldAddr' tu44 tf44_0 (z := 0) ts3 rfl ⟨_, rfl⟩ rfl) F S rfl rfl ?_; clear F a; intro a F
  refine wl_ev (wn rfl) (ev_load1 tu3 rfl rfl (box_ptr (cells := [.int .i64 h_.At]) 0 rfl 0 rfl (Nat.le_of_ble_eq_true rfl))) F S rfl rfl ?_; clear F a; intro a F
  refine wl_ev (wn rfl) (ev_int rfl rfl (bo_lss _ _ _ _)) F S rfl rfl ?_; clear F a; intro a F
  refine wl_ev (wn rfl) (ev_move rfl) F S rfl rfl ?_; clear F a; intro a F
  obtain ⟨x1, hx1, hm⟩ := bind_some hm
  refine wl_cut 4 (fun a w' => w = w' ∧ Fr 49 a [(15, .bool x1), (2, .pointer (some ⟨b1, 0, Option.none⟩)), (1, .int .i64 end_)]) ?_ ?_
  · clear hm; obtain ⟨hc1, hm⟩ | ⟨hc1, hm⟩ := ite_or hx1
    · refine wl_skip rfl rfl rfl rfl (ne_ft hc1) F rfl rfl ?_; clear F a; intro a F
      refine wl_skip rfl rfl rfl rfl (ne_ft hc1) F rfl rfl ?_; clear F a; intro a F
      refine wl_skip rfl rfl rfl rfl (ne_ft hc1) F rfl rfl ?_; clear F a; intro a F
      refine wl_ev (wn rfl) (ev_pickT rfl hc1 rfl) F S rfl rfl ?_; clear F a; intro a F
      obtain rfl := Option.some.inj hm
      refine wpList_nil (then_n ?_); exact ⟨rfl, F.sub ⟨rfl, rfl, rfl, trivial⟩⟩
    · refine wl_ev (wg F rfl rfl rfl rfl hc1) (ev_fieldAddr' tu44 tf44_0 (z := 0) ts3 rfl ⟨_, rfl⟩ rfl) F S rfl rfl ?_; clear F a; intro a F
      refine wl_ev (wg F rfl rfl rfl rfl hc1) (ev_load1 tu3 rfl rfl (box_ptr (cells := [.int .i64 h_.At]) 0 rfl 0 rfl (Nat.le_of_ble_eq_true rfl))) F S rfl rfl ?_; clear F a; intro a F
      refine wl_ev (wg F rfl rfl rfl rfl hc1) (ev_int rfl rfl (bo_gtr _ _ _ _)) F S rfl rfl ?_; clear F a; intro a F
      refine wl_ev (wn rfl) (ev_pickF rfl hc1 rfl) F S rfl rfl ?_; clear F a; intro a F
      obtain rfl := Option.some.inj hm
      refine wpList_nil (then_n ?_); exact ⟨rfl, F.sub ⟨rfl, rfl, rfl, trivial⟩⟩
  clear F; rintro a w' ⟨rfl, F⟩
  refine wpList_nil ?_
  refine then_n ?_
  obtain ⟨hc2, hm⟩ | ⟨hc2, hm⟩ := ite_or hm
  · refine wp_condT F rfl hc2 ?_
    refine wp_seq ?_
    refine wp_region_lit ?_
    refine wl_ev (wn rfl) (ev_assign rfl) F S rfl rfl ?_; clear F a; intro a F
    refine wpList_nil ?_
    replace F := F.sub (e' := [(4, .int .i64 3)]) ⟨rfl, trivial⟩
    refine then_n ?_
    refine wp_ret ?_
    refine then_r ?_
    obtain rfl := Option.some.inj hm
    refine post_r (fn := Try.f46) (rs := [.tmp 4]) [.int .i64 3] F rfl (ar_cons (resT rfl) ar_nil) ?_
    replace S : St g [] fr w := St.tail [] _ S
    exact ⟨_, rfl, g, (Le.refl _), S, rfl⟩
  · refine wp_condF F rfl hc2 ?_
    refine wp_skip ?_
    refine then_n ?_
    refine wp_cut (fun a w => ∃ (g1 : Gh), Fr 49 a [(2, .pointer (some ⟨b1, 0, Option.none⟩)), (1, .int .i64 end_)] ∧ Le g g1 ∧ St g1 [[(b1, .cells #[.int .i64 h_.At, vh_1, vh_2] 44 (0, 0))]] fr w ∧ textpatch_hunk.j1 h_ end_ = some r) ?_ ?_
    · refine wp_seq ?_
      refine wp_region_lit ?_
      refine wl_ev (wn rfl) (ev_fieldAddr' tu44 tf44_1 (z := 0) ts31 rfl ⟨_, rfl⟩ rfl) F S rfl rfl ?_; clear F a; intro a F
      refine wl_ev (wn rfl) (ev_load1 tu31 rfl rfl (box_ptr (cells := [vh_1]) 0 rfl 1 rfl (Nat.le_of_ble_eq_true rfl))) F S rfl rfl ?_; clear F a; intro a F
      refine wl_ev (wn rfl) (ev_fieldAddr' tu44 tf44_2 (z := 0) ts31 rfl ⟨_, rfl⟩ rfl) F S rfl rfl ?_; clear F a; intro a F
      refine wl_ev (wn rfl) (ev_load1 tu31 rfl rfl (box_ptr (cells := [vh_2]) 0 rfl 2 rfl (Nat.le_of_ble_eq_true rfl))) F S rfl rfl ?_; clear F a; intro a F
      refine wl_ev (wn rfl) (ev_build (parts := [(0, .tmp 17), (1, .tmp 19)]) (vs := [(0, vh_1), (1, vh_2)]) rfl (fun w => tb82_0_1 vh_1 (RepSl.isSl hh_1) vh_2 (RepSl.isSl hh_2) w)) F S rfl rfl ?_; clear F a; intro a F
      refine wl_ev (wn rfl) (ev_move rfl) F S rfl rfl ?_; clear F a; intro a F
      refine wpList_nil ?_
      replace F := F.sub (e' := [(21, .int .i64 0), (20, .agg #[vh_1, vh_2]), (2, .pointer (some ⟨b1, 0, Option.none⟩)), (1, .int .i64 end_)]) ⟨rfl, rfl, rfl, rfl, trivial⟩
      refine then_n ?_
      refine wp_block ?_
      obtain ⟨r1, hr1, hm⟩ := bind_some hm
      have hmo1 := hm; clear hm
      refine wp_iter (σ := Int) (ρ := Int ⊕ Unit) (m := fun s => textpatch_hunk.l1 h_ s) (I := fun x3 a w => ∃ (g3 : Gh), Fr 49 a [(21, .int .i64 x3), (20, .agg #[vh_1, vh_2]), (2, .pointer (some ⟨b1, 0, Option.none⟩)), (1, .int .i64 end_)] ∧ Le g g3 ∧ St g3 [[(b1, .cells #[.int .i64 h_.At, vh_1, vh_2] 44 (0, 0))]] fr w) hr1 ?_ ?_
      · exact ⟨g, F.sub ⟨rfl, rfl, rfl, rfl, trivial⟩, (Le.refl _), S⟩
      · clear F S; rintro x3 a w x4 ⟨g3, F, l3, S⟩ hx3 hfin1
        have hm : textpatch_hunk.l1 h_ x3 = some x4 := hx3; clear hx3
        unfold textpatch_hunk.l1 at hm
        refine wp_seq ?_
        refine wp_region_lit ?_
        refine wl_ev (wn rfl) (ev_int rfl rfl (bo_lss _ _ _ _)) F S rfl rfl ?_; clear F a; intro a F
        refine wpList_nil ?_
        refine then_n ?_
        refine wp_seq ?_
        obtain ⟨hc6, hm⟩ | ⟨hc6, hm⟩ := ite_or hm
        · refine wp_condT F rfl hc6 ?_
          refine wp_skip ?_
          refine then_n ?_
          refine wp_seq ?_
          refine wp_block ?_
          refine wp_seq ?_
          refine wp_region_lit ?_
          obtain ⟨y2, hy2, hm⟩ := bind_some hm
          obtain ⟨v1, h1, he1⟩ := ev_indexASl (P := Try.prog) (n := 49) (e := [(22, .bool (decide (x3 < 2))), (21, .int .i64 x3), (20, .agg #[vh_1, vh_2]), (2, .pointer (some ⟨b1, 0, Option.none⟩)), (1, .int .i64 end_)]) (C := fun w => St g3 [[(b1, .cells #[.int .i64 h_.At, vh_1, vh_2] 44 (0, 0))]] fr w) (g := g3) (x := .tmp 20) (y := .tmp 21) hy2 tu82 tu31 ts31 rfl (cs := [vh_1, vh_2]) ⟨(hh_1.mono l3), ⟨(hh_2.mono l3), trivial⟩⟩ rfl rfl
          refine wl_ev (wn rfl) he1 F S rfl rfl ?_; clear F a; intro a F
          refine wl_ev (wn rfl) (ev_assign rfl) F S rfl rfl ?_; clear F a; intro a F
          refine wpList_nil ?_
          replace F := F.sub (e' := [(6, v1), (21, .int .i64 x3), (20, .agg #[vh_1, vh_2]), (2, .pointer (some ⟨b1, 0, Option.none⟩)), (1, .int .i64 end_)]) ⟨rfl, rfl, rfl, rfl, rfl, trivial⟩
          refine then_n ?_
          refine wp_seq ?_
          refine wp_region_lit ?_
          refine wl_ev (wn rfl) (ev_move rfl) F S rfl rfl ?_; clear F a; intro a F
          obtain ⟨y3, hy3, hm⟩ := bind_some hm
          refine wl_call (wn rfl) rfl (xs := [.tmp 24]) (vs := [v1]) (cap := []) F rfl rfl tc33 (lines_Validate_ok (g := g3) (fr := (fl [[(b1, .cells #[.int .i64 h_.At, vh_1, vh_2] 44 (0, 0))]] fr)) (w := w) y2 v1 h1 S hy3) rfl rfl ?_; clear F a S
          rintro _ a w ⟨g4, l4, S, rfl⟩ F; replace S : St g4 [[(b1, .cells #[.int .i64 h_.At, vh_1, vh_2] 44 (0, 0))]] fr w := S
          refine wl_alloc (wn rfl) rfl tz25 (cs := [.int .i64 0, .int .i64 0]) rfl F S rfl rfl ?_; clear F a S; rintro b2 a w F S
          refine wl_storeC (wn rfl) rfl F S rfl rfl (vs := [.int .i64 y3.Code, .int .i64 y3.Index]) rfl ts25 (one_cons rfl (one_cons rfl one_nil)) (k := 0) rfl (Nat.le_of_ble_eq_true rfl) (c' := #[.int .i64 y3.Code, .int .i64 y3.Index]) rfl rfl ?_; clear S; intro w S
          replace S : St g4 [[(b2, .cells #[.int .i64 y3.Code, .int .i64 y3.Index] 25 (0, 0))], [(b1, .cells #[.int .i64 h_.At, vh_1, vh_2] 44 (0, 0))]] fr w := S
          refine wpList_nil ?_
          replace F := F.sub (e' := [(7, .pointer (some ⟨b2, 0, Option.none⟩)), (21, .int .i64 x3), (20, .agg #[vh_1, vh_2]), (2, .pointer (some ⟨b1, 0, Option.none⟩)), (1, .int .i64 end_)]) ⟨rfl, rfl, rfl, rfl, rfl, trivial⟩
          refine then_n ?_
          refine wp_seq ?_
          refine wp_region_lit ?_
          refine wl_ev (wn rfl) (ev_loadA tu25 rfl (cs := [.int .i64 y3.Code, .int .i64 y3.Index]) ts25 rfl (box_ptr (cells := [.int .i64 y3.Code, .int .i64 y3.Index]) 0 rfl 0 rfl (Nat.le_of_ble_eq_true rfl))) F S rfl rfl ?_; clear F a; intro a F
          refine wl_ev (wn rfl) (ev_build (parts := []) (vs := []) rfl (fun w => tb25_  w)) F S rfl rfl ?_; clear F a; intro a F
          refine wl_ev (wn rfl) (ev_neS tu25 tqa25 tqb25 tqc25 (xs := [.int .i64 y3.Code, .int .i64 y3.Index]) (ys := [.int .i64 0, .int .i64 0]) rfl rfl ⟨_, _, rfl, by decide, ⟨_, _, rfl, rfl, leaf_int tu3⟩, ⟨_, _, rfl, by decide, ⟨_, _, rfl, rfl, leaf_int tu3⟩, rfl⟩⟩) F S rfl rfl ?_; clear F a; intro a F
          refine wpList_nil ?_
          replace F := F.sub (e' := [(28, .bool (!(decide (y3.Code = 0) && decide (y3.Index = 0)))), (7, .pointer (some ⟨b2, 0, Option.none⟩)), (21, .int .i64 x3), (20, .agg #[vh_1, vh_2]), (2, .pointer (some ⟨b1, 0, Option.none⟩)), (1, .int .i64 end_)]) ⟨rfl, rfl, rfl, rfl, rfl, rfl, trivial⟩
          refine then_n ?_
          obtain ⟨hc7, hm⟩ | ⟨hc7, hm⟩ := ite_or hm
          · refine wp_condT F rfl hc7 ?_
            refine wp_seq ?_
            refine wp_region_lit ?_
            refine wl_ev (wn rfl) (ev_fieldAddr' tu25 tf25_0 (z := 0) ts3 rfl ⟨_, rfl⟩ rfl) F S rfl rfl ?_; clear F a; intro a F
            refine wl_ev (wn rfl) (ev_load1 tu3 rfl rfl (box_ptr (cells := [.int .i64 y3.Code]) 0 rfl 0 rfl (Nat.le_of_ble_eq_true rfl))) F S rfl rfl ?_; clear F a; intro a F
            refine wl_ev (wn rfl) (ev_assign rfl) F S rfl rfl ?_; clear F a; intro a F
            refine wpList_nil ?_
            replace F := F.sub (e' := [(4, .int .i64 y3.Code)]) ⟨rfl, trivial⟩
            refine then_n ?_
            refine wp_ret ?_
            refine inb_r ?_
            refine then_r ?_
            refine then_r ?_
            refine inb_r ?_
            refine then_r ?_
            obtain rfl := Option.some.inj hm
            obtain rfl := hfin1 _ rfl
            clear hm
            have hm : (some y3.Code : Option Int) = some _ := hmo1
            obtain rfl := Option.some.inj hm
            refine post_r (fn := Try.f46) (rs := [.tmp 4]) [.int .i64 y3.Code] F rfl (ar_cons (resT rfl) ar_nil) ?_
            replace S : St g4 [] fr w := St.tail [] _ S
            exact ⟨_, rfl, g4, (l3.trans l4), S, rfl⟩
          · refine wp_condF F rfl hc7 ?_
            refine wp_skip ?_
            refine inb_n ?_
            refine then_n ?_
            refine wp_region_lit ?_
            obtain ⟨z2, hz2, hm⟩ := bind_some hm
            refine wl_ev (wn rfl) (ev_int rfl rfl (bo_add hz2)) F S rfl rfl ?_; clear F a; intro a F
            refine wl_ev (wn rfl) (ev_move rfl) F S rfl rfl ?_; clear F a; intro a F
            refine wpList_nil ?_
            replace F := F.sub (e' := [(21, .int .i64 z2), (20, .agg #[vh_1, vh_2]), (2, .pointer (some ⟨b1, 0, Option.none⟩)), (1, .int .i64 end_)]) ⟨rfl, rfl, rfl, rfl, trivial⟩
            refine then_n ?_
            obtain rfl := Option.some.inj hm
            refine ⟨_, rfl, ?_⟩
            replace S : St g4 [[(b1, .cells #[.int .i64 h_.At, vh_1, vh_2] 44 (0, 0))]] fr w := St.tail [[(b1, .cells #[.int .i64 h_.At, vh_1, vh_2] 44 (0, 0))]] _ (S.frontC 1 rfl)
            exact ⟨g4, F.sub ⟨rfl, rfl, rfl, rfl, trivial⟩, (l3.trans l4), S⟩
        · refine wp_condF F rfl hc6 ?_
          refine wp_exit ?_
          refine then_e ?_
          refine then_e ?_
          refine inb_x ?_
          refine then_n ?_
          obtain rfl := Option.some.inj hm
          obtain rfl := hfin1 _ rfl
          clear hm
          have hm : (textpatch_hunk.j1 h_ end_ : Option Int) = some _ := hmo1
          exact ⟨g3, F.sub ⟨rfl, rfl, trivial⟩, l3, S, hm⟩
    · clear F S hm; rintro a w ⟨g1, F, l1, S, hm⟩
      refine wp_seq ?_
      refine wp_seq ?_
      refine wp_region_lit ?_
      refine wl_ev (wn rfl) (ev_fieldAddr' tu44 tf44_1 (z := 0) ts31 rfl ⟨_, rfl⟩ rfl) F S rfl rfl ?_; clear F a; intro a F
      refine wl_ev (wn rfl) (ev_load1 tu31 rfl rfl (box_ptr (cells := [vh_1]) 0 rfl 1 rfl (Nat.le_of_ble_eq_true rfl))) F S rfl rfl ?_; clear F a; intro a F
      refine wl_ev (wn rfl) (ev_lenSh hh_1 rfl tu31) F S rfl rfl ?_; clear F a; intro a F
      refine wl_ev (wn rfl) (ev_fieldAddr' tu44 tf44_2 (z := 0) ts31 rfl ⟨_, rfl⟩ rfl) F S rfl rfl ?_; clear F a; intro a F
      refine wl_ev (wn rfl) (ev_load1 tu31 rfl rfl (box_ptr (cells := [vh_2]) 0 rfl 2 rfl (Nat.le_of_ble_eq_true rfl))) F S rfl rfl ?_; clear F a; intro a F
      refine wl_ev (wn rfl) (ev_lenSh hh_2 rfl tu31) F S rfl rfl ?_; clear F a; intro a F
      obtain ⟨z1, hz1, hm⟩ := bind_some hm
      refine wl_ev (wn rfl) (ev_int rfl rfl (bo_add hz1)) F S rfl rfl ?_; clear F a; intro a F
      refine wl_ev (wn rfl) (ev_int rfl rfl (bo_eql _ _ _ _)) F S rfl rfl ?_; clear F a; intro a F
      refine wl_ev (wn rfl) (ev_move rfl) F S rfl rfl ?_; clear F a; intro a F
      obtain ⟨x2, hx2, hm⟩ := bind_some hm
      refine wl_cut 5 (fun a w' => w = w' ∧ Fr 49 a [(45, .bool x2), (2, .pointer (some ⟨b1, 0, Option.none⟩))]) ?_ ?_
      · clear hm; obtain ⟨hc3, hm⟩ | ⟨hc3, hm⟩ := ite_or hx2
        · refine wl_skip rfl rfl rfl rfl (ne_ft hc3) F rfl rfl ?_; clear F a; intro a F
          refine wl_skip rfl rfl rfl rfl (ne_ft hc3) F rfl rfl ?_; clear F a; intro a F
          refine wl_skip rfl rfl rfl rfl (ne_ft hc3) F rfl rfl ?_; clear F a; intro a F
          refine wl_skip rfl rfl rfl rfl (ne_ft hc3) F rfl rfl ?_; clear F a; intro a F
          refine wl_ev (wn rfl) (ev_pickT rfl hc3 rfl) F S rfl rfl ?_; clear F a; intro a F
          obtain rfl := Option.some.inj hm
          refine wpList_nil (then_n ?_); exact ⟨rfl, F.sub ⟨rfl, rfl, trivial⟩⟩
        · refine wl_ev (wg F rfl rfl rfl rfl hc3) (ev_fieldAddr' tu44 tf44_0 (z := 0) ts3 rfl ⟨_, rfl⟩ rfl) F S rfl rfl ?_; clear F a; intro a F
          refine wl_ev (wg F rfl rfl rfl rfl hc3) (ev_load1 tu3 rfl rfl (box_ptr (cells := [.int .i64 h_.At]) 0 rfl 0 rfl (Nat.le_of_ble_eq_true rfl))) F S rfl rfl ?_; clear F a; intro a F
          refine wl_ev (wg F rfl rfl rfl rfl hc3) (ev_move rfl) F S rfl rfl ?_; clear F a; intro a F
          refine wl_ev (wg F rfl rfl rfl rfl hc3) (ev_int rfl rfl (bo_leq _ _ _ _)) F S rfl rfl ?_; clear F a; intro a F
          refine wl_ev (wn rfl) (ev_pickF rfl hc3 rfl) F S rfl rfl ?_; clear F a; intro a F
          obtain rfl := Option.some.inj hm
          refine wpList_nil (then_n ?_); exact ⟨rfl, F.sub ⟨rfl, rfl, trivial⟩⟩
      clear F; rintro a w' ⟨rfl, F⟩
      refine wpList_nil ?_
      refine then_n ?_
      obtain ⟨hc4, hm⟩ | ⟨hc4, hm⟩ := ite_or hm
      · refine wp_condT F rfl hc4 ?_
        refine wp_seq ?_
        refine wp_region_lit ?_
        refine wl_ev (wn rfl) (ev_assign rfl) F S rfl rfl ?_; clear F a; intro a F
        refine wpList_nil ?_
        replace F := F.sub (e' := [(4, .int .i64 5)]) ⟨rfl, trivial⟩
        refine then_n ?_
        refine wp_ret ?_
        refine then_r ?_
        obtain rfl := Option.some.inj hm
        refine post_r (fn := Try.f46) (rs := [.tmp 4]) [.int .i64 5] F rfl (ar_cons (resT rfl) ar_nil) ?_
        replace S : St g1 [] fr w := St.tail [] _ S
        exact ⟨_, rfl, g1, l1, S, rfl⟩
      · refine wp_condF F rfl hc4 ?_
        refine wp_skip ?_
        refine then_n ?_
        refine wp_seq ?_
        refine wp_seq ?_
        refine wp_region_lit ?_
        refine wl_ev (wn rfl) (ev_loadA tu44 rfl (cs := [.int .i64 h_.At, vh_1, vh_2]) ts44 rfl (box_ptr (cells := [.int .i64 h_.At, vh_1, vh_2]) 0 rfl 0 rfl (Nat.le_of_ble_eq_true rfl))) F S rfl rfl ?_; clear F a; intro a F
        obtain ⟨y1, hy1, hm⟩ := bind_some hm
        refine wl_call (wn rfl) rfl (xs := [.tmp 46]) (vs := [.agg #[.int .i64 h_.At, vh_1, vh_2]]) (cap := []) F rfl rfl tc47 (textpatch_End_ok (g := g1) (fr := (fl [[(b1, .cells #[.int .i64 h_.At, vh_1, vh_2] 44 (0, 0))]] fr)) (w := w) h_ vh_1 (hh_1.mono l1) vh_2 (hh_2.mono l1) S hy1) rfl rfl ?_; clear F a S
        rintro _ a w ⟨g2, l2, S, rfl⟩ F; replace S : St g2 [[(b1, .cells #[.int .i64 h_.At, vh_1, vh_2] 44 (0, 0))]] fr w := S
        refine wl_ev (wn rfl) (ev_int rfl rfl (bo_gtr _ _ _ _)) F S rfl rfl ?_; clear F a; intro a F
        refine wpList_nil ?_
        replace F := F.sub (e' := [(48, .bool (decide (y1 > 120)))]) ⟨rfl, trivial⟩
        refine then_n ?_
        obtain ⟨hc5, hm⟩ | ⟨hc5, hm⟩ := ite_or hm
        · refine wp_condT F rfl hc5 ?_
          refine wp_seq ?_
          refine wp_region_lit ?_
          refine wl_ev (wn rfl) (ev_assign rfl) F S rfl rfl ?_; clear F a; intro a F
          refine wpList_nil ?_
          replace F := F.sub (e' := [(4, .int .i64 3)]) ⟨rfl, trivial⟩
          refine then_n ?_
          refine wp_ret ?_
          refine then_r ?_
          obtain rfl := Option.some.inj hm
          refine post_r (fn := Try.f46) (rs := [.tmp 4]) [.int .i64 3] F rfl (ar_cons (resT rfl) ar_nil) ?_
          replace S : St g2 [] fr w := St.tail [] _ S
          exact ⟨_, rfl, g2, (l1.trans l2), S, rfl⟩
        · refine wp_condF F rfl hc5 ?_
          refine wp_skip ?_
          refine then_n ?_
          refine wp_seq ?_
          refine wp_region_lit ?_
          refine wl_ev (wn rfl) (ev_assign rfl) F S rfl rfl ?_; clear F a; intro a F
          refine wpList_nil ?_
          replace F := F.sub (e' := [(4, .int .i64 0)]) ⟨rfl, trivial⟩
          refine then_n ?_
          refine wp_ret ?_
          obtain rfl := Option.some.inj hm
          refine post_r (fn := Try.f46) (rs := [.tmp 4]) [.int .i64 0] F rfl (ar_cons (resT rfl) ar_nil) ?_
          replace S : St g2 [] fr w := St.tail [] _ S
          exact ⟨_, rfl, g2, (l1.trans l2), S, rfl⟩

theorem textpatch_Validate_ok {g : Gh} {fr : Hl} {w : World} {r : Fault} (p_ : Patch) (vp_1 : Value) (hp_1 : RepSl g p_.Hunks vp_1) (S : St g [] fr w) (hm : textpatch_Validate p_ = some r) :
    Calls Try.prog 36 [.agg #[vp_1]].toArray w (fun en w' => ∃ v, en = .returned v ∧ ∃ (g' : Gh), Le g g' ∧ St g' [] fr w' ∧ .agg #[.int .i64 r.Code, .int .i64 r.Index] = v) := by
  unfold textpatch_Validate at hm
  refine calls_enter (fn := Try.f36) Try.func36 rfl Try.ntmps36 (Nat.le_of_ble_eq_true rfl) ?_
  intro a F
  replace F : Fr 32 a [(0, .agg #[vp_1])] := F
  refine wp_seq ?_
  refine wp_region_lit ?_
  refine wl_boxC (wn rfl) rfl rfl rfl F S rfl rfl ?_; clear F a S; rintro b1 a w F S
  refine wl_alloc (wn rfl) rfl tz25 (cs := [.int .i64 0, .int .i64 0]) rfl F S rfl rfl ?_; clear F a S; rintro b2 a w F S
  refine wpList_nil ?_
  replace F := F.sub (e' := [(2, .pointer (some ⟨b2, 0, Option.none⟩)), (1, .pointer (some ⟨b1, 0, Option.none⟩))]) ⟨rfl, rfl, trivial⟩
  refine then_n ?_
  refine wp_seq ?_
  refine wp_seq ?_
  refine wp_region_lit ?_
  refine wl_ev (wn rfl) (ev_fieldAddr' tu40 tf40_0 (z := 0) ts38 rfl ⟨_, rfl⟩ rfl) F S rfl rfl ?_; clear F a; intro a F
  refine wl_ev (wn rfl) (ev_load1 tu38 rfl rfl (box_ptr (cells := [vp_1]) 1 rfl 0 rfl (Nat.le_of_ble_eq_true rfl))) F S rfl rfl ?_; clear F a; intro a F
  refine wl_ev (wn rfl) (ev_lenSh hp_1 rfl tu38) F S rfl rfl ?_; clear F a; intro a F
  refine wl_ev (wn rfl) (ev_int rfl rfl (bo_gtr _ _ _ _)) F S rfl rfl ?_; clear F a; intro a F
  refine wpList_nil ?_
  replace F := F.sub (e' := [(10, .bool (decide ((p_.Hunks.length : Int) > 130))), (2, .pointer (some ⟨b2, 0, Option.none⟩)), (1, .pointer (some ⟨b1, 0, Option.none⟩))]) ⟨rfl, rfl, rfl, trivial⟩
  refine then_n ?_
  obtain ⟨hc1, hm⟩ | ⟨hc1, hm⟩ := ite_or hm
  · refine wp_condT F rfl hc1 ?_
    refine wp_seq ?_
    refine wp_region_lit ?_
    refine wl_ev (wn rfl) (ev_build (parts := [(0, .const (.int .i64 2)), (1, .const (.int .i64 (-1)))]) (vs := [(0, .int .i64 2), (1, .int .i64 (-1))]) rfl (fun w => tb25_0_1 2 (-1) w)) F S rfl rfl ?_; clear F a; intro a F
    refine wl_storeC (wn rfl) rfl F S rfl rfl (vs := [.int .i64 2, .int .i64 (-1)]) rfl ts25 (one_cons rfl (one_cons rfl one_nil)) (k := 0) rfl (Nat.le_of_ble_eq_true rfl) (c' := #[.int .i64 2, .int .i64 (-1)]) rfl rfl ?_; clear S; intro w S
    replace S : St g [[(b2, .cells #[.int .i64 2, .int .i64 (-1)] 25 (0, 0))], [(b1, .cells #[vp_1] 40 (0, 0))]] fr w := S
    refine wpList_nil ?_
    replace F := F.sub (e' := [(2, .pointer (some ⟨b2, 0, Option.none⟩))]) ⟨rfl, trivial⟩
    refine then_n ?_
    refine wp_ret ?_
    refine then_r ?_
    obtain rfl := Option.some.inj hm
    refine post_r (fn := Try.f36) (rs := [.cell 2 25]) [.agg #[.int .i64 2, .int .i64 (-1)]] F rfl (ar_cons (resA rfl tu25 rfl ts25 (box_ptr (cells := [.int .i64 2, .int .i64 (-1)]) 0 rfl 0 rfl (Nat.le_of_ble_eq_true rfl) w S)) ar_nil) ?_
    replace S : St g [] fr w := St.tail [] _ S
    exact ⟨_, rfl, g, (Le.refl _), S, rfl⟩
  · refine wp_condF F rfl hc1 ?_
    refine wp_skip ?_
    refine then_n ?_
    refine wp_seq ?_
    refine wp_region_lit ?_
    refine wl_ev (wn rfl) (ev_assign rfl) F S rfl rfl ?_; clear F a; intro a F
    refine wpList_nil ?_
    replace F := F.sub (e' := [(3, .int .i64 (-1)), (2, .pointer (some ⟨b2, 0, Option.none⟩)), (1, .pointer (some ⟨b1, 0, Option.none⟩))]) ⟨rfl, rfl, rfl, trivial⟩
    refine then_n ?_
    refine wp_cut (fun a w => ∃ (g1 : Gh), Fr 32 a [(2, .pointer (some ⟨b2, 0, Option.none⟩))] ∧ Le g g1 ∧ St g1 [[(b2, .cells #[.int .i64 0, .int .i64 0] 25 (0, 0))]] fr w ∧ textpatch_Validate.j1 = some r) ?_ ?_
    · refine wp_seq ?_
      refine wp_region_lit ?_
      refine wl_ev (wn rfl) (ev_fieldAddr' tu40 tf40_0 (z := 0) ts38 rfl ⟨_, rfl⟩ rfl) F S rfl rfl ?_; clear F a; intro a F
      refine wl_ev (wn rfl) (ev_load1 tu38 rfl rfl (box_ptr (cells := [vp_1]) 1 rfl 0 rfl (Nat.le_of_ble_eq_true rfl))) F S rfl rfl ?_; clear F a; intro a F
      refine wl_ev (wn rfl) (ev_lenSh hp_1 rfl tu38) F S rfl rfl ?_; clear F a; intro a F
      refine wl_ev (wn rfl) (ev_move rfl) F S rfl rfl ?_; clear F a; intro a F
      refine wpList_nil ?_
      replace F := F.sub (e' := [(15, .int .i64 0), (14, .int .i64 (p_.Hunks.length : Int)), (13, vp_1), (3, .int .i64 (-1)), (2, .pointer (some ⟨b2, 0, Option.none⟩))]) ⟨rfl, rfl, rfl, rfl, rfl, trivial⟩
      refine then_n ?_
      refine wp_block ?_
      obtain ⟨r1, hr1, hm⟩ := bind_some hm
      have hmo1 := hm; clear hm
      refine wp_iter (σ := Int × Int) (ρ := Fault ⊕ Unit) (m := fun s => textpatch_Validate.l1 p_ s.1 s.2) (I := fun s a w => match s with | (x1, x2) => ∃ (g2 : Gh), Fr 32 a [(15, .int .i64 x1), (14, .int .i64 (p_.Hunks.length : Int)), (13, vp_1), (3, .int .i64 x2), (2, .pointer (some ⟨b2, 0, Option.none⟩))] ∧ Le g g2 ∧ St g2 [[(b2, .cells #[.int .i64 0, .int .i64 0] 25 (0, 0))]] fr w) hr1 ?_ ?_
      · dsimp only
        replace S : St g [[(b2, .cells #[.int .i64 0, .int .i64 0] 25 (0, 0))]] fr w := St.tail [[(b2, .cells #[.int .i64 0, .int .i64 0] 25 (0, 0))]] _ (S.frontC 0 rfl)
        exact ⟨g, F.sub ⟨rfl, rfl, rfl, rfl, rfl, trivial⟩, (Le.refl _), S⟩
      · clear F S; rintro ⟨x1, x2⟩ a w x3 ⟨g2, F, l2, S⟩ hx1 hfin1
        have hm : textpatch_Validate.l1 p_ x1 x2 = some x3 := hx1; clear hx1
        unfold textpatch_Validate.l1 at hm
        refine wp_seq ?_
        refine wp_region_lit ?_
        refine wl_ev (wn rfl) (ev_int rfl rfl (bo_lss _ _ _ _)) F S rfl rfl ?_; clear F a; intro a F
        refine wpList_nil ?_
        refine then_n ?_
        refine wp_seq ?_
        obtain ⟨hc2, hm⟩ | ⟨hc2, hm⟩ := ite_or hm
        · refine wp_condT F rfl hc2 ?_
          refine wp_skip ?_
          refine then_n ?_
          refine wp_seq ?_
          refine wp_block ?_
          refine wp_seq ?_
          refine wp_region_lit ?_
          refine wl_ev (wn rfl) (ev_move rfl) F S rfl rfl ?_; clear F a; intro a F
          obtain ⟨y1, hy1, hm⟩ := bind_some hm
          obtain ⟨cs1, hr2, hp1⟩ := elemS (hp_1.mono l2) hy1
          obtain ⟨v1, v2, rfl, h1, h2⟩ := rep_Hunk hr2
          refine wl_ev (wn rfl) (ev_idxS (hp_1.mono l2) hy1 tu38 ts44 rfl rfl) F S rfl rfl ?_; clear F a; intro a F
          refine wl_ev (wn rfl) (ev_loadA tu44 rfl (cs := [.int .i64 y1.At, v1, v2]) ts44 rfl (ptr_mono (cks := [[(b2, .cells #[.int .i64 0, .int .i64 0] 25 (0, 0))]]) (fr := fr) hp1 (Le.refl _))) F S rfl rfl ?_; clear F a; intro a F
          refine wl_alloc (wn rfl) rfl tz44 (cs := [.int .i64 0, .slice Option.none 0 0, .slice Option.none 0 0]) rfl F S rfl rfl ?_; clear F a S; rintro b3 a w F S
          refine wl_ev (wn rfl) (ev_assign rfl) F S rfl rfl ?_; clear F a; intro a F
          refine wl_storeC (wn rfl) rfl F S rfl rfl (vs := [.int .i64 y1.At, v1, v2]) rfl ts44 (one_cons rfl (one_cons h1.one (one_cons h2.one one_nil))) (k := 0) rfl (Nat.le_of_ble_eq_true rfl) (c' := #[.int .i64 y1.At, v1, v2]) rfl rfl ?_; clear S; intro w S
          replace S : St g2 [[(b3, .cells #[.int .i64 y1.At, v1, v2] 44 (0, 0))], [(b2, .cells #[.int .i64 0, .int .i64 0] 25 (0, 0))]] fr w := S
          refine wpList_nil ?_
          replace F := F.sub (e' := [(4, .int .i64 x1), (5, .pointer (some ⟨b3, 0, Option.none⟩)), (15, .int .i64 x1), (14, .int .i64 (p_.Hunks.length : Int)), (13, vp_1), (3, .int .i64 x2), (2, .pointer (some ⟨b2, 0, Option.none⟩))]) ⟨rfl, rfl, rfl, rfl, rfl, rfl, rfl, trivial⟩
          refine then_n ?_
          refine wp_seq ?_
          refine wp_seq ?_
          refine wp_region_lit ?_
          refine wl_ev (wn rfl) (ev_loadA tu44 rfl (cs := [.int .i64 y1.At, v1, v2]) ts44 rfl (box_ptr (cells := [.int .i64 y1.At, v1, v2]) 0 rfl 0 rfl (Nat.le_of_ble_eq_true rfl))) F S rfl rfl ?_; clear F a; intro a F
          refine wl_ev (wn rfl) (ev_move rfl) F S rfl rfl ?_; clear F a; intro a F
          obtain ⟨y2, hy2, hm⟩ := bind_some hm
          refine wl_call (wn rfl) rfl (xs := [.tmp 20, .tmp 21]) (vs := [.agg #[.int .i64 y1.At, v1, v2], .int .i64 x2]) (cap := []) F rfl rfl tc46 (textpatch_hunk_ok (g := g2) (fr := (fl [[(b3, .cells #[.int .i64 y1.At, v1, v2] 44 (0, 0))], [(b2, .cells #[.int .i64 0, .int .i64 0] 25 (0, 0))]] fr)) (w := w) y1 v1 h1 v2 h2 x2 S hy2) rfl rfl ?_; clear F a S
          rintro _ a w ⟨g3, l3, S, rfl⟩ F; replace S : St g3 [[(b3, .cells #[.int .i64 y1.At, v1, v2] 44 (0, 0))], [(b2, .cells #[.int .i64 0, .int .i64 0] 25 (0, 0))]] fr w := S
          refine wl_ev (wn rfl) (ev_assign rfl) F S rfl rfl ?_; clear F a; intro a F
          refine wpList_nil ?_
          replace F := F.sub (e' := [(6, .int .i64 y2), (4, .int .i64 x1), (5, .pointer (some ⟨b3, 0, Option.none⟩)), (15, .int .i64 x1), (14, .int .i64 (p_.Hunks.length : Int)), (13, vp_1), (2, .pointer (some ⟨b2, 0, Option.none⟩))]) ⟨rfl, rfl, rfl, rfl, rfl, rfl, rfl, trivial⟩
          refine then_n ?_
          refine wp_seq ?_
          refine wp_region_lit ?_
          refine wl_ev (wn rfl) (ev_move rfl) F S rfl rfl ?_; clear F a; intro a F
          refine wl_ev (wn rfl) (ev_int rfl rfl (bo_neq _ _ _ _)) F S rfl rfl ?_; clear F a; intro a F
          refine wpList_nil ?_
          replace F := F.sub (e' := [(24, .bool (!decide (y2 = 0))), (6, .int .i64 y2), (4, .int .i64 x1), (5, .pointer (some ⟨b3, 0, Option.none⟩)), (15, .int .i64 x1), (14, .int .i64 (p_.Hunks.length : Int)), (13, vp_1), (2, .pointer (some ⟨b2, 0, Option.none⟩))]) ⟨rfl, rfl, rfl, rfl, rfl, rfl, rfl, rfl, trivial⟩
          refine then_n ?_
          obtain ⟨hc3, hm⟩ | ⟨hc3, hm⟩ := ite_or hm
          · refine wp_condT F rfl hc3 ?_
            refine wp_seq ?_
            refine wp_region_lit ?_
            refine wl_ev (wn rfl) (ev_move rfl) F S rfl rfl ?_; clear F a; intro a F
            refine wl_ev (wn rfl) (ev_move rfl) F S rfl rfl ?_; clear F a; intro a F
            refine wl_ev (wn rfl) (ev_build (parts := [(0, .tmp 25), (1, .tmp 26)]) (vs := [(0, .int .i64 y2), (1, .int .i64 x1)]) rfl (fun w => tb25_0_1 y2 x1 w)) F S rfl rfl ?_; clear F a; intro a F
            refine wl_storeC (wn rfl) rfl F S rfl rfl (vs := [.int .i64 y2, .int .i64 x1]) rfl ts25 (one_cons rfl (one_cons rfl one_nil)) (k := 1) rfl (Nat.le_of_ble_eq_true rfl) (c' := #[.int .i64 y2, .int .i64 x1]) rfl rfl ?_; clear S; intro w S
            replace S : St g3 [[(b3, .cells #[.int .i64 y1.At, v1, v2] 44 (0, 0))], [(b2, .cells #[.int .i64 y2, .int .i64 x1] 25 (0, 0))]] fr w := S
            refine wpList_nil ?_
            replace F := F.sub (e' := [(2, .pointer (some ⟨b2, 0, Option.none⟩))]) ⟨rfl, trivial⟩
            refine then_n ?_
            refine wp_ret ?_
            refine then_r ?_
            refine inb_r ?_
            refine then_r ?_
            refine then_r ?_
            refine inb_r ?_
            refine then_r ?_
            obtain rfl := Option.some.inj hm
            obtain rfl := hfin1 _ rfl
            clear hm
            have hm : (some ({ Code := y2, Index := x1 } : Fault) : Option Fault) = some _ := hmo1
            obtain rfl := Option.some.inj hm
            refine post_r (fn := Try.f36) (rs := [.cell 2 25]) [.agg #[.int .i64 y2, .int .i64 x1]] F rfl (ar_cons (resA rfl tu25 rfl ts25 (box_ptr (cells := [.int .i64 y2, .int .i64 x1]) 1 rfl 0 rfl (Nat.le_of_ble_eq_true rfl) w S)) ar_nil) ?_
            replace S : St g3 [] fr w := St.tail [] _ S
            exact ⟨_, rfl, g3, (l2.trans l3), S, rfl⟩
          · refine wp_condF F rfl hc3 ?_
            refine wp_skip ?_
            refine then_n ?_
            refine wp_region_lit ?_
            refine wl_ev (wn rfl) (ev_loadA tu44 rfl (cs := [.int .i64 y1.At, v1, v2]) ts44 rfl (box_ptr (cells := [.int .i64 y1.At, v1, v2]) 0 rfl 0 rfl (Nat.le_of_ble_eq_true rfl))) F S rfl rfl ?_; clear F a; intro a F
            obtain ⟨y3, hy3, hm⟩ := bind_some hm
            refine wl_call (wn rfl) rfl (xs := [.tmp 28]) (vs := [.agg #[.int .i64 y1.At, v1, v2]]) (cap := []) F rfl rfl tc47 (textpatch_End_ok (g := g3) (fr := (fl [[(b3, .cells #[.int .i64 y1.At, v1, v2] 44 (0, 0))], [(b2, .cells #[.int .i64 0, .int .i64 0] 25 (0, 0))]] fr)) (w := w) y1 v1 (h1.mono l3) v2 (h2.mono l3) S hy3) rfl rfl ?_; clear F a S
            rintro _ a w ⟨g4, l4, S, rfl⟩ F; replace S : St g4 [[(b3, .cells #[.int .i64 y1.At, v1, v2] 44 (0, 0))], [(b2, .cells #[.int .i64 0, .int .i64 0] 25 (0, 0))]] fr w := S
            refine wl_ev (wn rfl) (ev_assign rfl) F S rfl rfl ?_; clear F a; intro a F
            refine wpList_nil ?_
            replace F := F.sub (e' := [(3, .int .i64 y3), (15, .int .i64 x1), (14, .int .i64 (p_.Hunks.length : Int)), (13, vp_1), (2, .pointer (some ⟨b2, 0, Option.none⟩))]) ⟨rfl, rfl, rfl, rfl, rfl, trivial⟩
            refine inb_n ?_
            refine then_n ?_
            refine wp_region_lit ?_
            obtain ⟨z1, hz1, hm⟩ := bind_some hm
            refine wl_ev (wn rfl) (ev_int rfl rfl (bo_add hz1)) F S rfl rfl ?_; clear F a; intro a F
            refine wl_ev (wn rfl) (ev_move rfl) F S rfl rfl ?_; clear F a; intro a F
            refine wpList_nil ?_
            replace F := F.sub (e' := [(15, .int .i64 z1), (3, .int .i64 y3), (14, .int .i64 (p_.Hunks.length : Int)), (13, vp_1), (2, .pointer (some ⟨b2, 0, Option.none⟩))]) ⟨rfl, rfl, rfl, rfl, rfl, trivial⟩
            refine then_n ?_
            obtain rfl := Option.some.inj hm
            refine ⟨_, rfl, ?_⟩
            dsimp only
            replace S : St g4 [[(b2, .cells #[.int .i64 0, .int .i64 0] 25 (0, 0))]] fr w := St.tail [[(b2, .cells #[.int .i64 0, .int .i64 0] 25 (0, 0))]] _ (S.frontC 1 rfl)
            exact ⟨g4, F.sub ⟨rfl, rfl, rfl, rfl, rfl, trivial⟩, ((l2.trans l3).trans l4), S⟩
        · refine wp_condF F rfl hc2 ?_
          refine wp_exit ?_
          refine then_e ?_
          refine then_e ?_
          refine inb_x ?_
          refine then_n ?_
          obtain rfl := Option.some.inj hm
          obtain rfl := hfin1 _ rfl
          clear hm
          have hm : (textpatch_Validate.j1 : Option Fault) = some _ := hmo1
          exact ⟨g2, F.sub ⟨rfl, trivial⟩, l2, S, hm⟩
    · clear F S hm; rintro a w ⟨g1, F, l1, S, hm⟩
      refine wp_seq ?_
      refine wp_region_lit ?_
      refine wl_ev (wn rfl) (ev_build (parts := []) (vs := []) rfl (fun w => tb25_  w)) F S rfl rfl ?_; clear F a; intro a F
      refine wl_storeC (wn rfl) rfl F S rfl rfl (vs := [.int .i64 0, .int .i64 0]) rfl ts25 (one_cons rfl (one_cons rfl one_nil)) (k := 0) rfl (Nat.le_of_ble_eq_true rfl) (c' := #[.int .i64 0, .int .i64 0]) rfl rfl ?_; clear S; intro w S
      replace S : St g1 [[(b2, .cells #[.int .i64 0, .int .i64 0] 25 (0, 0))]] fr w := S
      refine wpList_nil ?_
      replace F := F.sub (e' := [(2, .pointer (some ⟨b2, 0, Option.none⟩))]) ⟨rfl, trivial⟩
      refine then_n ?_
      refine wp_ret ?_
      obtain rfl := Option.some.inj hm
      refine post_r (fn := Try.f36) (rs := [.cell 2 25]) [.agg #[.int .i64 0, .int .i64 0]] F rfl (ar_cons (resA rfl tu25 rfl ts25 (box_ptr (cells := [.int .i64 0, .int .i64 0]) 0 rfl 0 rfl (Nat.le_of_ble_eq_true rfl) w S)) ar_nil) ?_
      replace S : St g1 [] fr w := St.tail [] _ S
      exact ⟨_, rfl, g1, l1, S, rfl⟩

theorem slices_Equal_ok {g : Gh} {fr : Hl} {w : World} {r : Bool} (s1_ : (List ByteArray)) (vs1_1 : Value) (hs1_1 : RepSl g s1_ vs1_1) (s2_ : (List ByteArray)) (vs2_1 : Value) (hs2_1 : RepSl g s2_ vs2_1) (S : St g [] fr w) (hm : slices_Equal s1_ s2_ = some r) :
    Calls Try.prog 48 [vs1_1, vs2_1].toArray w (fun en w' => ∃ v, en = .returned v ∧ ∃ (g' : Gh), Le g g' ∧ St g' [] fr w' ∧ .bool r = v) := by
  unfold slices_Equal at hm
  refine calls_enter (fn := Try.f48) Try.func48 rfl Try.ntmps48 (Nat.le_of_ble_eq_true rfl) ?_
  intro a F
  replace F : Fr 26 a [(0, vs1_1), (1, vs2_1)] := F
  refine wp_seq ?_
  refine wp_region_lit ?_
  refine wl_ev (wn rfl) (ev_assign rfl) F S rfl rfl ?_; clear F a; intro a F
  refine wpList_nil ?_
  replace F := F.sub (e' := [(0, vs1_1), (1, vs2_1)]) ⟨rfl, rfl, trivial⟩
  refine then_n ?_
  refine wp_seq ?_
  refine wp_seq ?_
  refine wp_region_lit ?_
  refine wl_ev (wn rfl) (ev_move rfl) F S rfl rfl ?_; clear F a; intro a F
  refine wl_ev (wn rfl) (ev_lenSh hs1_1 rfl tu31) F S rfl rfl ?_; clear F a; intro a F
  refine wl_ev (wn rfl) (ev_move rfl) F S rfl rfl ?_; clear F a; intro a F
  refine wl_ev (wn rfl) (ev_lenSh hs2_1 rfl tu31) F S rfl rfl ?_; clear F a; intro a F
  refine wl_ev (wn rfl) (ev_int rfl rfl (bo_neq _ _ _ _)) F S rfl rfl ?_; clear F a; intro a F
  refine wpList_nil ?_
  replace F := F.sub (e' := [(10, .bool (!decide ((s1_.length : Int) = (s2_.length : Int)))), (0, vs1_1), (1, vs2_1)]) ⟨rfl, rfl, rfl, trivial⟩
  refine then_n ?_
  obtain ⟨hc1, hm⟩ | ⟨hc1, hm⟩ := ite_or hm
  · refine wp_condT F rfl hc1 ?_
    refine wp_seq ?_
    refine wp_region_lit ?_
    refine wl_ev (wn rfl) (ev_assign rfl) F S rfl rfl ?_; clear F a; intro a F
    refine wpList_nil ?_
    replace F := F.sub (e' := [(4, .bool false)]) ⟨rfl, trivial⟩
    refine then_n ?_
    refine wp_ret ?_
    refine then_r ?_
    obtain rfl := Option.some.inj hm
    refine post_r (fn := Try.f48) (rs := [.tmp 4]) [.bool false] F rfl (ar_cons (resT rfl) ar_nil) ?_
    exact ⟨_, rfl, g, (Le.refl _), S, rfl⟩
  · refine wp_condF F rfl hc1 ?_
    refine wp_skip ?_
    refine then_n ?_
    refine wp_cut (fun a w => ∃ (g1 : Gh), Fr 26 a [] ∧ Le g g1 ∧ St g1 [] fr w ∧ slices_Equal.j1 = some r) ?_ ?_
    · refine wp_seq ?_
      refine wp_region_lit ?_
      refine wl_ev (wn rfl) (ev_move rfl) F S rfl rfl ?_; clear F a; intro a F
      refine wl_ev (wn rfl) (ev_lenSh hs1_1 rfl tu31) F S rfl rfl ?_; clear F a; intro a F
      refine wl_ev (wn rfl) (ev_move rfl) F S rfl rfl ?_; clear F a; intro a F
      refine wpList_nil ?_
      replace F := F.sub (e' := [(13, .int .i64 0), (12, .int .i64 (s1_.length : Int)), (0, vs1_1), (1, vs2_1)]) ⟨rfl, rfl, rfl, rfl, trivial⟩
      refine then_n ?_
      refine wp_block ?_
      obtain ⟨r1, hr1, hm⟩ := bind_some hm
      have hmo1 := hm; clear hm
      refine wp_iter (σ := Int) (ρ := Bool ⊕ Unit) (m := fun s => slices_Equal.l1 s1_ s2_ s) (I := fun x1 a w => ∃ (g2 : Gh), Fr 26 a [(13, .int .i64 x1), (12, .int .i64 (s1_.length : Int)), (0, vs1_1), (1, vs2_1)] ∧ Le g g2 ∧ St g2 [] fr w) hr1 ?_ ?_
      · exact ⟨g, F.sub ⟨rfl, rfl, rfl, rfl, trivial⟩, (Le.refl _), S⟩
      · clear F S; rintro x1 a w x2 ⟨g2, F, l2, S⟩ hx1 hfin1
        have hm : slices_Equal.l1 s1_ s2_ x1 = some x2 := hx1; clear hx1
        unfold slices_Equal.l1 at hm
        refine wp_seq ?_
        refine wp_region_lit ?_
        refine wl_ev (wn rfl) (ev_int rfl rfl (bo_lss _ _ _ _)) F S rfl rfl ?_; clear F a; intro a F
        refine wpList_nil ?_
        refine then_n ?_
        refine wp_seq ?_
        obtain ⟨hc2, hm⟩ | ⟨hc2, hm⟩ := ite_or hm
        · refine wp_condT F rfl hc2 ?_
          refine wp_skip ?_
          refine then_n ?_
          refine wp_seq ?_
          refine wp_block ?_
          refine wp_seq ?_
          refine wp_region_lit ?_
          refine wl_ev (wn rfl) (ev_move rfl) F S rfl rfl ?_; clear F a; intro a F
          refine wl_ev (wn rfl) (ev_assign rfl) F S rfl rfl ?_; clear F a; intro a F
          refine wpList_nil ?_
          replace F := F.sub (e' := [(5, .int .i64 x1), (13, .int .i64 x1), (12, .int .i64 (s1_.length : Int)), (0, vs1_1), (1, vs2_1)]) ⟨rfl, rfl, rfl, rfl, rfl, trivial⟩
          refine then_n ?_
          refine wp_seq ?_
          refine wp_quiet mo (by kernel_rfl) S ?_
          refine wq_ev (wn rfl) (ev_move rfl) F rfl rfl ?_; clear F a; intro a F
          refine wq_ev (wn rfl) (ev_move rfl) F rfl rfl ?_; clear F a; intro a F
          obtain ⟨y1, hy1, hm⟩ := bind_some hm
          obtain ⟨cs1, hr2, hp1⟩ := elemS (hs1_1.mono l2) hy1
          obtain rfl := rep_str hr2
          refine wq_ev (wn rfl) (ev_idxS (hs1_1.mono l2) hy1 tu31 ts9 rfl rfl) F rfl rfl ?_; clear F a; intro a F
          refine wq_ev (wn rfl) (ev_load1 tu9 rfl rfl (ptr_mono (cks := []) (fr := fr) hp1 (Le.refl _))) F rfl rfl ?_; clear F a; intro a F
          refine wq_ev (wn rfl) (ev_move rfl) F rfl rfl ?_; clear F a; intro a F
          refine wq_ev (wn rfl) (ev_move rfl) F rfl rfl ?_; clear F a; intro a F
          obtain ⟨y2, hy2, hm⟩ := bind_some hm
          obtain ⟨cs2, hr3, hp2⟩ := elemS (hs2_1.mono l2) hy2
          obtain rfl := rep_str hr3
          refine wq_ev (wn rfl) (ev_idxS (hs2_1.mono l2) hy2 tu31 ts9 rfl rfl) F rfl rfl ?_; clear F a; intro a F
          refine wq_ev (wn rfl) (ev_load1 tu9 rfl rfl (ptr_mono (cks := []) (fr := fr) hp2 (Le.refl _))) F rfl rfl ?_; clear F a; intro a F
          refine wq_ev (wn rfl) (ev_str rfl rfl (bs_neq _ _ _)) F rfl rfl ?_; clear F a; intro a F
          refine wq_nil ?_; clear S; intro w S
          replace F := F.sub (e' := [(24, .bool (!decide (y1 = y2))), (13, .int .i64 x1), (12, .int .i64 (s1_.length : Int)), (0, vs1_1), (1, vs2_1)]) ⟨rfl, rfl, rfl, rfl, rfl, trivial⟩
          refine then_n ?_
          obtain ⟨hc3, hm⟩ | ⟨hc3, hm⟩ := ite_or hm
          · refine wp_condT F rfl hc3 ?_
            refine wp_seq ?_
            refine wp_region_lit ?_
            refine wl_ev (wn rfl) (ev_assign rfl) F S rfl rfl ?_; clear F a; intro a F
            refine wpList_nil ?_
            replace F := F.sub (e' := [(4, .bool false)]) ⟨rfl, trivial⟩
            refine then_n ?_
            refine wp_ret ?_
            refine inb_r ?_
            refine then_r ?_
            refine then_r ?_
            refine inb_r ?_
            refine then_r ?_
            obtain rfl := Option.some.inj hm
            obtain rfl := hfin1 _ rfl
            clear hm
            have hm : (some false : Option Bool) = some _ := hmo1
            obtain rfl := Option.some.inj hm
            refine post_r (fn := Try.f48) (rs := [.tmp 4]) [.bool false] F rfl (ar_cons (resT rfl) ar_nil) ?_
            exact ⟨_, rfl, g2, l2, S, rfl⟩
          · refine wp_condF F rfl hc3 ?_
            refine wp_skip ?_
            refine inb_n ?_
            refine then_n ?_
            refine wp_region_lit ?_
            obtain ⟨z1, hz1, hm⟩ := bind_some hm
            refine wl_ev (wn rfl) (ev_int rfl rfl (bo_add hz1)) F S rfl rfl ?_; clear F a; intro a F
            refine wl_ev (wn rfl) (ev_move rfl) F S rfl rfl ?_; clear F a; intro a F
            refine wpList_nil ?_
            replace F := F.sub (e' := [(13, .int .i64 z1), (12, .int .i64 (s1_.length : Int)), (0, vs1_1), (1, vs2_1)]) ⟨rfl, rfl, rfl, rfl, trivial⟩
            refine then_n ?_
            obtain rfl := Option.some.inj hm
            refine ⟨_, rfl, ?_⟩
            exact ⟨g2, F.sub ⟨rfl, rfl, rfl, rfl, trivial⟩, l2, S⟩
        · refine wp_condF F rfl hc2 ?_
          refine wp_exit ?_
          refine then_e ?_
          refine then_e ?_
          refine inb_x ?_
          refine then_n ?_
          obtain rfl := Option.some.inj hm
          obtain rfl := hfin1 _ rfl
          clear hm
          have hm : (slices_Equal.j1 : Option Bool) = some _ := hmo1
          exact ⟨g2, F.sub trivial, l2, S, hm⟩
    · clear F S hm; rintro a w ⟨g1, F, l1, S, hm⟩
      refine wp_seq ?_
      refine wp_region_lit ?_
      refine wl_ev (wn rfl) (ev_assign rfl) F S rfl rfl ?_; clear F a; intro a F
      refine wpList_nil ?_
      refine then_n ?_
      refine wp_ret ?_
      obtain rfl := Option.some.inj hm
      refine post_r (fn := Try.f48) (rs := [.tmp 4]) [.bool true] F rfl (ar_cons (resT rfl) ar_nil) ?_
      exact ⟨_, rfl, g1, l1, S, rfl⟩

theorem lines_Occurs_ok {g : Gh} {fr : Hl} {w : World} {r : Bool} (text : (List ByteArray)) (vtext1 : Value) (htext1 : RepSl g text vtext1) (part : (List ByteArray)) (vpart1 : Value) (hpart1 : RepSl g part vpart1) (at_ : Int) (S : St g [] fr w) (hm : lines_Occurs text part at_ = some r) :
    Calls Try.prog 37 [vtext1, vpart1, .int .i64 at_].toArray w (fun en w' => ∃ v, en = .returned v ∧ ∃ (g' : Gh), Le g g' ∧ St g' [] fr w' ∧ .bool r = v) := by
  unfold lines_Occurs at hm
  refine calls_enter (fn := Try.f37) Try.func37 rfl Try.ntmps37 (Nat.le_of_ble_eq_true rfl) ?_
  intro a F
  replace F : Fr 35 a [(0, vtext1), (1, vpart1), (2, .int .i64 at_)] := F
  refine wp_seq ?_
  refine wp_region_lit ?_
  refine wl_ev (wn rfl) (ev_assign rfl) F S rfl rfl ?_; clear F a; intro a F
  refine wpList_nil ?_
  replace F := F.sub (e' := [(0, vtext1), (1, vpart1), (2, .int .i64 at_)]) ⟨rfl, rfl, rfl, trivial⟩
  refine then_n ?_
  refine wp_seq ?_
  refine wp_region_lit ?_
  refine wl_ev (wn rfl) (ev_move rfl) F S rfl rfl ?_; clear F a; intro a F
  refine wl_ev (wn rfl) (ev_int rfl rfl (bo_geq _ _ _ _)) F S rfl rfl ?_; clear F a; intro a F
  refine wl_ev (wn rfl) (ev_move rfl) F S rfl rfl ?_; clear F a; intro a F
  obtain ⟨x1, hx1, hm⟩ := bind_some hm
  refine wl_cut 5 (fun a w' => w = w' ∧ Fr 35 a [(14, .bool x1), (0, vtext1), (1, vpart1), (2, .int .i64 at_)]) ?_ ?_
  · clear hm; obtain ⟨hc1, hm⟩ | ⟨hc1, hm⟩ := ite_or hx1
    · refine wl_ev (wg F rfl rfl rfl rfl hc1) (ev_move rfl) F S rfl rfl ?_; clear F a; intro a F
      refine wl_ev (wg F rfl rfl rfl rfl hc1) (ev_move rfl) F S rfl rfl ?_; clear F a; intro a F
      refine wl_ev (wg F rfl rfl rfl rfl hc1) (ev_lenSh htext1 rfl tu31) F S rfl rfl ?_; clear F a; intro a F
      refine wl_ev (wg F rfl rfl rfl rfl hc1) (ev_int rfl rfl (bo_leq _ _ _ _)) F S rfl rfl ?_; clear F a; intro a F
      refine wl_ev (wn rfl) (ev_pickT rfl hc1 rfl) F S rfl rfl ?_; clear F a; intro a F
      obtain rfl := Option.some.inj hm
      refine wpList_nil (then_n ?_); exact ⟨rfl, F.sub ⟨rfl, rfl, rfl, rfl, trivial⟩⟩
    · refine wl_skip rfl rfl rfl rfl (ne_tf hc1) F rfl rfl ?_; clear F a; intro a F
      refine wl_skip rfl rfl rfl rfl (ne_tf hc1) F rfl rfl ?_; clear F a; intro a F
      refine wl_skip rfl rfl rfl rfl (ne_tf hc1) F rfl rfl ?_; clear F a; intro a F
      refine wl_skip rfl rfl rfl rfl (ne_tf hc1) F rfl rfl ?_; clear F a; intro a F
      refine wl_ev (wn rfl) (ev_pickF rfl hc1 rfl) F S rfl rfl ?_; clear F a; intro a F
      obtain rfl := Option.some.inj hm
      refine wpList_nil (then_n ?_); exact ⟨rfl, F.sub ⟨rfl, rfl, rfl, rfl, trivial⟩⟩
  clear F; rintro a w' ⟨rfl, F⟩
  refine wl_ev (wn rfl) (ev_move rfl) F S rfl rfl ?_; clear F a; intro a F
  obtain ⟨x2, hx2, hm⟩ := bind_some hm
  refine wl_cut 8 (fun a w' => w = w' ∧ Fr 35 a [(23, .bool x2), (0, vtext1), (1, vpart1), (2, .int .i64 at_)]) ?_ ?_
  · clear hm; obtain ⟨hc2, hm⟩ | ⟨hc2, hm⟩ := ite_or hx2
    · refine wl_ev (wg F rfl rfl rfl rfl hc2) (ev_move rfl) F S rfl rfl ?_; clear F a; intro a F
      refine wl_ev (wg F rfl rfl rfl rfl hc2) (ev_lenSh hpart1 rfl tu31) F S rfl rfl ?_; clear F a; intro a F
      refine wl_ev (wg F rfl rfl rfl rfl hc2) (ev_move rfl) F S rfl rfl ?_; clear F a; intro a F
      refine wl_ev (wg F rfl rfl rfl rfl hc2) (ev_lenSh htext1 rfl tu31) F S rfl rfl ?_; clear F a; intro a F
      refine wl_ev (wg F rfl rfl rfl rfl hc2) (ev_move rfl) F S rfl rfl ?_; clear F a; intro a F
      obtain ⟨z1, hz1, hm⟩ := bind_some hm
      refine wl_ev (wg F rfl rfl rfl rfl hc2) (ev_int rfl rfl (bo_sub hz1)) F S rfl rfl ?_; clear F a; intro a F
      refine wl_ev (wg F rfl rfl rfl rfl hc2) (ev_int rfl rfl (bo_leq _ _ _ _)) F S rfl rfl ?_; clear F a; intro a F
      refine wl_ev (wn rfl) (ev_pickT rfl hc2 rfl) F S rfl rfl ?_; clear F a; intro a F
      obtain rfl := Option.some.inj hm
      refine wpList_nil (then_n ?_); exact ⟨rfl, F.sub ⟨rfl, rfl, rfl, rfl, trivial⟩⟩
    · refine wl_skip rfl rfl rfl rfl (ne_tf hc2) F rfl rfl ?_; clear F a; intro a F
      refine wl_skip rfl rfl rfl rfl (ne_tf hc2) F rfl rfl ?_; clear F a; intro a F
      refine wl_skip rfl rfl rfl rfl (ne_tf hc2) F rfl rfl ?_; clear F a; intro a F
      refine wl_skip rfl rfl rfl rfl (ne_tf hc2) F rfl rfl ?_; clear F a; intro a F
      refine wl_skip rfl rfl rfl rfl (ne_tf hc2) F rfl rfl ?_; clear F a; intro a F
      refine wl_skip rfl rfl rfl rfl (ne_tf hc2) F rfl rfl ?_; clear F a; intro a F
      refine wl_skip rfl rfl rfl rfl (ne_tf hc2) F rfl rfl ?_; clear F a; intro a F
      refine wl_ev (wn rfl) (ev_pickF rfl hc2 rfl) F S rfl rfl ?_; clear F a; intro a F
      obtain rfl := Option.some.inj hm
      refine wpList_nil (then_n ?_); exact ⟨rfl, F.sub ⟨rfl, rfl, rfl, rfl, trivial⟩⟩
  clear F; rintro a w' ⟨rfl, F⟩
  refine wl_ev (wn rfl) (ev_move rfl) F S rfl rfl ?_; clear F a; intro a F
  obtain ⟨x3, hx3, hm⟩ := bind_some hm
  refine wl_cut 10 (fun a w => ∃ g1, Fr 35 a [(34, .bool x3)] ∧ Le g g1 ∧ St g1 [] fr w) ?_ ?_
  · clear hm; obtain ⟨hc3, hm⟩ | ⟨hc3, hm⟩ := ite_or hx3
    · refine wl_ev (wg F rfl rfl rfl rfl hc3) (ev_move rfl) F S rfl rfl ?_; clear F a; intro a F
      refine wl_ev (wg F rfl rfl rfl rfl hc3) (ev_move rfl) F S rfl rfl ?_; clear F a; intro a F
      refine wl_ev (wg F rfl rfl rfl rfl hc3) (ev_move rfl) F S rfl rfl ?_; clear F a; intro a F
      refine wl_ev (wg F rfl rfl rfl rfl hc3) (ev_move rfl) F S rfl rfl ?_; clear F a; intro a F
      refine wl_ev (wg F rfl rfl rfl rfl hc3) (ev_lenSh hpart1 rfl tu31) F S rfl rfl ?_; clear F a; intro a F
      obtain ⟨z2, hz2, hm⟩ := bind_some hm
      refine wl_ev (wg F rfl rfl rfl rfl hc3) (ev_int rfl rfl (bo_add hz2)) F S rfl rfl ?_; clear F a; intro a F
      obtain ⟨y1, hy1, hm⟩ := bind_some hm
      refine wl_cutS (wg F rfl rfl rfl rfl hc3) rfl htext1 hy1 tu31 ts9 rfl (bndV rfl) (bndV rfl) F rfl rfl ?_; clear F a; rintro v1 h1 a F
      refine wl_ev (wg F rfl rfl rfl rfl hc3) (ev_move rfl) F S rfl rfl ?_; clear F a; intro a F
      obtain ⟨y2, hy2, hm⟩ := bind_some hm
      refine wl_call (wg F rfl rfl rfl rfl hc3) rfl (xs := [.tmp 31, .tmp 32]) (vs := [v1, vpart1]) (cap := []) F rfl rfl tc48 (slices_Equal_ok (g := g) (fr := fr) (w := w) y1 v1 h1 part vpart1 hpart1 S hy2) rfl rfl ?_; clear F a S
      rintro _ a w ⟨g2, l2, S, rfl⟩ F; replace S : St g2 [] fr w := S
      refine wl_ev (wn rfl) (ev_pickT rfl hc3 rfl) F S rfl rfl ?_; clear F a; intro a F
      obtain rfl := Option.some.inj hm
      refine wpList_nil (then_n ?_); exact ⟨g2, F.sub ⟨rfl, trivial⟩, l2, S⟩
    · refine wl_skip rfl rfl rfl rfl (ne_tf hc3) F rfl rfl ?_; clear F a; intro a F
      refine wl_skip rfl rfl rfl rfl (ne_tf hc3) F rfl rfl ?_; clear F a; intro a F
      refine wl_skip rfl rfl rfl rfl (ne_tf hc3) F rfl rfl ?_; clear F a; intro a F
      refine wl_skip rfl rfl rfl rfl (ne_tf hc3) F rfl rfl ?_; clear F a; intro a F
      refine wl_skip rfl rfl rfl rfl (ne_tf hc3) F rfl rfl ?_; clear F a; intro a F
      refine wl_skip rfl rfl rfl rfl (ne_tf hc3) F rfl rfl ?_; clear F a; intro a F
      refine wl_skip rfl rfl rfl rfl (ne_tf hc3) F rfl rfl ?_; clear F a; intro a F
      refine wl_skip rfl rfl rfl rfl (ne_tf hc3) F rfl rfl ?_; clear F a; intro a F
      refine wl_skip rfl rfl rfl rfl (ne_tf hc3) F rfl rfl ?_; clear F a; intro a F
      refine wl_ev (wn rfl) (ev_pickF rfl hc3 rfl) F S rfl rfl ?_; clear F a; intro a F
      obtain rfl := Option.some.inj hm
      refine wpList_nil (then_n ?_); exact ⟨g, F.sub ⟨rfl, trivial⟩, (Le.refl _), S⟩
  clear F S; rintro a w ⟨g1, F, l1, S⟩
  refine wl_ev (wn rfl) (ev_assign rfl) F S rfl rfl ?_; clear F a; intro a F
  refine wpList_nil ?_
  replace F := F.sub (e' := [(6, .bool x3)]) ⟨rfl, trivial⟩
  refine then_n ?_
  refine wp_ret ?_
  obtain rfl := Option.some.inj hm
  refine post_r (fn := Try.f37) (rs := [.tmp 6]) [.bool x3] F rfl (ar_cons (resT rfl) ar_nil) ?_
  exact ⟨_, rfl, g1, l1, S, rfl⟩
end Go.Dc
