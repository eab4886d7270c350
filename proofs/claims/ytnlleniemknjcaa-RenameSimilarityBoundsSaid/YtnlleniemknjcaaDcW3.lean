/- Walks: each function comes to what its model says. -/
import Derived.Test.YtnlleniemknjcaaDcTab
import Derived.Test.YtnlleniemknjcaaDcM
import Derived.Test.YtnlleniemknjcaaDcW2
namespace Go.Dc
open Go Go.Proofs
set_option maxRecDepth 100000
set_option linter.unusedVariables false
theorem diff_Distance_ok {g : Gh} {fr : Hl} {w : World} {r : Int × Fault} (a_ : (List ByteArray)) (va_1 : Value) (ha_1 : RepSl g a_ va_1) (b_ : (List ByteArray)) (vb_1 : Value) (hb_1 : RepSl g b_ vb_1) (S : St g [] fr w) (hm : diff_Distance a_ b_ = some r) :
    Calls Try.prog 27 [va_1, vb_1].toArray w (fun en w' => ∃ v, en = .returned v ∧ ∃ (g' : Gh), Le g g' ∧ St g' [] fr w' ∧ .tuple #[.int .i64 r.1, .agg #[.int .i64 r.2.Code, .int .i64 r.2.Index]] = v) := by
  unfold diff_Distance at hm
  refine calls_enter (fn := Try.f27) Try.func27 rfl Try.ntmps27 (Nat.le_of_ble_eq_true rfl) ?_
  intro a F
  replace F : Fr 32 a [(0, va_1), (1, vb_1)] := F
  refine wp_seq ?_
  refine wp_region_lit ?_
  refine wl_ev (wn rfl) (ev_assign rfl) F S rfl rfl ?_; clear F a; intro a F
  refine wl_alloc (wn rfl) rfl tz25 (cs := [.int .i64 0, .int .i64 0]) rfl F S rfl rfl ?_; clear F a S; rintro b1 a w F S
  refine wpList_nil ?_
  replace F := F.sub (e' := [(5, .pointer (some ⟨b1, 0, Option.none⟩)), (0, va_1), (1, vb_1)]) ⟨rfl, rfl, rfl, trivial⟩
  refine then_n ?_
  refine wp_seq ?_
  refine wp_seq ?_
  refine wp_region_lit ?_
  refine wl_ev (wn rfl) (ev_move rfl) F S rfl rfl ?_; clear F a; intro a F
  refine wl_ev (wn rfl) (ev_move rfl) F S rfl rfl ?_; clear F a; intro a F
  obtain ⟨y1, hy1, hm⟩ := bind_some hm
  refine wl_call (wn rfl) rfl (xs := [.tmp 10, .tmp 11]) (vs := [va_1, vb_1]) (cap := []) F rfl rfl tc28 (lines_Both_ok (g := g) (fr := (fl [[(b1, .cells #[.int .i64 0, .int .i64 0] 25 (0, 0))]] fr)) (w := w) a_ va_1 ha_1 b_ vb_1 hb_1 S hy1) rfl rfl ?_; clear F a S
  rintro _ a w ⟨g1, l1, S, rfl⟩ F; replace S : St g1 [[(b1, .cells #[.int .i64 0, .int .i64 0] 25 (0, 0))]] fr w := S
  refine wl_alloc (wn rfl) rfl tz25 (cs := [.int .i64 0, .int .i64 0]) rfl F S rfl rfl ?_; clear F a S; rintro b2 a w F S
  refine wl_storeC (wn rfl) rfl F S rfl rfl (vs := [.int .i64 y1.Code, .int .i64 y1.Index]) rfl ts25 (one_cons rfl (one_cons rfl one_nil)) (k := 0) rfl (Nat.le_of_ble_eq_true rfl) (c' := #[.int .i64 y1.Code, .int .i64 y1.Index]) rfl rfl ?_; clear S; intro w S
  replace S : St g1 [[(b2, .cells #[.int .i64 y1.Code, .int .i64 y1.Index] 25 (0, 0))], [(b1, .cells #[.int .i64 0, .int .i64 0] 25 (0, 0))]] fr w := S
  refine wpList_nil ?_
  replace F := F.sub (e' := [(6, .pointer (some ⟨b2, 0, Option.none⟩)), (5, .pointer (some ⟨b1, 0, Option.none⟩)), (0, va_1), (1, vb_1)]) ⟨rfl, rfl, rfl, rfl, trivial⟩
  refine then_n ?_
  refine wp_seq ?_
  refine wp_region_lit ?_
  refine wl_ev (wn rfl) (ev_loadA tu25 rfl (cs := [.int .i64 y1.Code, .int .i64 y1.Index]) ts25 rfl (box_ptr (cells := [.int .i64 y1.Code, .int .i64 y1.Index]) 0 rfl 0 rfl (Nat.le_of_ble_eq_true rfl))) F S rfl rfl ?_; clear F a; intro a F
  refine wl_ev (wn rfl) (ev_build (parts := []) (vs := []) rfl (fun w => tb25_  w)) F S rfl rfl ?_; clear F a; intro a F
  refine wl_ev (wn rfl) (ev_neS tu25 tqa25 tqb25 tqc25 (xs := [.int .i64 y1.Code, .int .i64 y1.Index]) (ys := [.int .i64 0, .int .i64 0]) rfl rfl ⟨_, _, rfl, by decide, ⟨_, _, rfl, rfl, leaf_int tu3⟩, ⟨_, _, rfl, by decide, ⟨_, _, rfl, rfl, leaf_int tu3⟩, rfl⟩⟩) F S rfl rfl ?_; clear F a; intro a F
  refine wpList_nil ?_
  replace F := F.sub (e' := [(15, .bool (!(decide (y1.Code = 0) && decide (y1.Index = 0)))), (6, .pointer (some ⟨b2, 0, Option.none⟩)), (5, .pointer (some ⟨b1, 0, Option.none⟩)), (0, va_1), (1, vb_1)]) ⟨rfl, rfl, rfl, rfl, rfl, trivial⟩
  refine then_n ?_
  obtain ⟨hc1, hm⟩ | ⟨hc1, hm⟩ := ite_or hm
  · refine wp_condT F rfl hc1 ?_
    refine wp_seq ?_
    refine wp_drawL ⟨2, [[16], [4], []], [[], [], [4]], [[3], [], []], [[6], [], [5]], [[], [], [0]], [5], [0, 1, 2, 3]⟩
      [([16], fun us g c => us = [.agg #[.int .i64 y1.Code, .int .i64 y1.Index]]),
       ([4], fun us g c => us = [.int .i64 0]),
       ([], fun us g c => us = [] ∧ c = [(b1, .cells #[.int .i64 y1.Code, .int .i64 y1.Index] 25 (0, 0))])]
      mo (by kernel_rfl) rfl rfl ⟨fun _ _ _ _ _ h => h, fun _ _ _ _ _ h => h, fun _ _ _ _ _ h => h, trivial⟩ F S ⟨?_, ?_, ?_, trivial⟩ ?_
    · intro a w gd1 c fr hsz hdf hK ld1 hN hI S
      have F : Fr 32 a [(6, .pointer (some ⟨b2, 0, Option.none⟩))] := Fr.of hsz hdf ⟨hK 6 (by decide) _ rfl, trivial⟩
      replace S : St gd1 [c 3] fr w := S.of_eq (flat2 _ _ _ _)
      have q3 : c 3 = [(b2, .cells #[.int .i64 y1.Code, .int .i64 y1.Index] 25 (0, 0))] := hI 0 _ rfl
      rw [q3] at S
      refine wl_ev (wn rfl) (ev_loadA tu25 rfl (cs := [.int .i64 y1.Code, .int .i64 y1.Index]) ts25 rfl (box_ptr (cells := [.int .i64 y1.Code, .int .i64 y1.Index]) 0 rfl 0 rfl (Nat.le_of_ble_eq_true rfl))) F S rfl rfl ?_; clear F; intro a F
      refine wpList_nil ⟨rfl, F.sz, F.df, _, [], (Le.refl _), ?_, (lst1 (F.get 16 _ rfl))⟩
      refine St0.of_eq ?_ (flat3 c [] [3] fr).symm
      show St0 _ (fl ([] ++ [c 3]) fr) _
      rw [q3]
      exact S
    · intro a w gd1 c fr hsz hdf hK ld1 hN hI S
      have F : Fr 32 a [] := Fr.of hsz hdf trivial
      replace S : St gd1 [] fr w := S.of_eq (flat2 _ _ _ _)
      refine wl_ev (wn rfl) (ev_assign rfl) F S rfl rfl ?_; clear F; intro a F
      refine wpList_nil ⟨rfl, F.sz, F.df, _, [], (Le.refl _), ?_, (lst1 (F.get 4 _ rfl))⟩
      refine St0.of_eq ?_ (flat3 c [] [] fr).symm
      show St0 _ (fl ([] ++ []) fr) _
      exact S
    · intro a w gd1 c fr hsz hdf hK ld1 hN hI S
      have e0 := hN 0 (by decide)
      have e16x : val a 16 = .agg #[.int .i64 y1.Code, .int .i64 y1.Index] := nth e0 0
      have F : Fr 32 a [(5, .pointer (some ⟨b1, 0, Option.none⟩)), (16, .agg #[.int .i64 y1.Code, .int .i64 y1.Index])] := Fr.of hsz hdf ⟨hK 5 (by decide) _ rfl, e16x, trivial⟩
      replace S : St gd1 [c 4] fr w := S.of_eq (flat2 _ _ _ _)
      have q4 : c 4 = [(b1, .cells #[.int .i64 0, .int .i64 0] 25 (0, 0))] := hI 1 _ rfl
      rw [q4] at S
      refine wl_storeC (wn rfl) rfl F S rfl rfl (vs := [.int .i64 y1.Code, .int .i64 y1.Index]) rfl ts25 (one_cons rfl (one_cons rfl one_nil)) (k := 0) rfl (Nat.le_of_ble_eq_true rfl) (c' := #[.int .i64 y1.Code, .int .i64 y1.Index]) rfl rfl ?_; clear S; intro w S
      replace S : St gd1 [[(b1, .cells #[.int .i64 y1.Code, .int .i64 y1.Index] 25 (0, 0))]] fr w := S
      refine wpList_nil ⟨rfl, F.sz, F.df, _, [(b1, .cells #[.int .i64 y1.Code, .int .i64 y1.Index] 25 (0, 0))], (Le.refl _), ?_, ⟨rfl, rfl⟩⟩
      refine St0.of_eq ?_ (flat3s c ([(b1, .cells #[.int .i64 y1.Code, .int .i64 y1.Index] 25 (0, 0))]) [] fr).symm
      show St0 _ (fl ([[(b1, .cells #[.int .i64 y1.Code, .int .i64 y1.Index] 25 (0, 0))]] ++ []) fr) _
      exact S
    clear F S; intro a w gd1 c hsz hdf hK ld1 hI S hN
    have e1 := hN 1 (by decide)
    have e4x : val a 4 = .int .i64 0 := nth e1 0
    obtain ⟨e2, q2⟩ := hN 2 (by decide)
    have F : Fr 32 a [(5, .pointer (some ⟨b1, 0, Option.none⟩)), (4, .int .i64 0)] := Fr.of hsz hdf ⟨hK 5 (by decide) _ rfl, e4x, trivial⟩
    replace S : St gd1 [c 0, c 1, c 2, c 3] fr w := S.of_eq (flat_fl _ _ _)
    rw [q2] at S
    have q3 : c 3 = [(b2, .cells #[.int .i64 y1.Code, .int .i64 y1.Index] 25 (0, 0))] := hI 0 _ rfl
    rw [q3] at S
    replace S : St gd1 [[(b1, .cells #[.int .i64 y1.Code, .int .i64 y1.Index] 25 (0, 0))]] fr w := St.tail [[(b1, .cells #[.int .i64 y1.Code, .int .i64 y1.Index] 25 (0, 0))]] _ (S.frontC 2 rfl)
    clear hK hI hN hsz hdf e1 e2 e4x
    refine then_n ?_
    refine wp_ret ?_
    refine then_r ?_
    obtain rfl := Option.some.inj hm
    refine post_r (fn := Try.f27) (rs := [.tmp 4, .cell 5 25]) [.int .i64 0, .agg #[.int .i64 y1.Code, .int .i64 y1.Index]] F rfl (ar_cons (resT rfl) (ar_cons (resA rfl tu25 rfl ts25 (box_ptr (cells := [.int .i64 y1.Code, .int .i64 y1.Index]) 0 rfl 0 rfl (Nat.le_of_ble_eq_true rfl) w S)) ar_nil)) ?_
    replace S : St gd1 [] fr w := St.tail [] _ S
    exact ⟨_, rfl, gd1, (l1.trans ld1), S, rfl⟩
  · refine wp_condF F rfl hc1 ?_
    refine wp_skip ?_
    refine then_n ?_
    refine wp_seq ?_
    refine wp_region_lit ?_
    refine wl_ev (wn rfl) (ev_assign rfl) F S rfl rfl ?_; clear F a; intro a F
    refine wpList_nil ?_
    replace F := F.sub (e' := [(7, .int .i64 0), (5, .pointer (some ⟨b1, 0, Option.none⟩)), (0, va_1), (1, vb_1)]) ⟨rfl, rfl, rfl, rfl, trivial⟩
    refine then_n ?_
    refine wp_cut (fun a w => ∃ (x1 : Int) (g2 : Gh), Fr 32 a [(7, .int .i64 x1), (5, .pointer (some ⟨b1, 0, Option.none⟩))] ∧ Le g1 g2 ∧ St g2 [[(b1, .cells #[.int .i64 0, .int .i64 0] 25 (0, 0))]] fr w ∧ diff_Distance.j1 x1 = some r) ?_ ?_
    · refine wp_seq ?_
      refine wp_region_lit ?_
      refine wl_ev (wn rfl) (ev_move rfl) F S rfl rfl ?_; clear F a; intro a F
      refine wl_ev (wn rfl) (ev_move rfl) F S rfl rfl ?_; clear F a; intro a F
      obtain ⟨y2, hy2, hm⟩ := bind_some hm
      refine wl_call (wn rfl) rfl (xs := [.tmp 17, .tmp 18]) (vs := [va_1, vb_1]) (cap := []) F rfl rfl tc24 (diff_Align_ok (g := g1) (fr := (fl [[(b2, .cells #[.int .i64 y1.Code, .int .i64 y1.Index] 25 (0, 0))], [(b1, .cells #[.int .i64 0, .int .i64 0] 25 (0, 0))]] fr)) (w := w) a_ va_1 (ha_1.mono l1) b_ vb_1 (hb_1.mono l1) S hy2) rfl rfl ?_; clear F a S
      rintro _ a w ⟨g3, v1, l3, S, h1, rfl⟩ F; replace S : St g3 [[(b2, .cells #[.int .i64 y1.Code, .int .i64 y1.Index] 25 (0, 0))], [(b1, .cells #[.int .i64 0, .int .i64 0] 25 (0, 0))]] fr w := S
      refine wl_ev (wn rfl) (ev_lenSh h1 rfl tu23) F S rfl rfl ?_; clear F a; intro a F
      refine wl_ev (wn rfl) (ev_move rfl) F S rfl rfl ?_; clear F a; intro a F
      refine wpList_nil ?_
      replace F := F.sub (e' := [(21, .int .i64 0), (20, .int .i64 (y2.length : Int)), (19, v1), (7, .int .i64 0), (5, .pointer (some ⟨b1, 0, Option.none⟩))]) ⟨rfl, rfl, rfl, rfl, rfl, trivial⟩
      refine then_n ?_
      refine wp_block ?_
      obtain ⟨r1, hr1, hm⟩ := bind_some hm
      have hmo1 := hm; clear hm
      refine wp_iter (σ := Int × Int) (ρ := Int) (m := fun s => diff_Distance.l1 y2 s.1 s.2) (I := fun s a w => match s with | (x2, x3) => ∃ (g4 : Gh), Fr 32 a [(21, .int .i64 x2), (20, .int .i64 (y2.length : Int)), (19, v1), (7, .int .i64 x3), (5, .pointer (some ⟨b1, 0, Option.none⟩))] ∧ Le g3 g4 ∧ St g4 [[(b1, .cells #[.int .i64 0, .int .i64 0] 25 (0, 0))]] fr w) hr1 ?_ ?_
      · dsimp only
        replace S : St g3 [[(b1, .cells #[.int .i64 0, .int .i64 0] 25 (0, 0))]] fr w := St.tail [[(b1, .cells #[.int .i64 0, .int .i64 0] 25 (0, 0))]] _ (S.frontC 1 rfl)
        exact ⟨g3, F.sub ⟨rfl, rfl, rfl, rfl, rfl, trivial⟩, (Le.refl _), S⟩
      · clear F S; rintro ⟨x2, x3⟩ a w x4 ⟨g4, F, l4, S⟩ hx1 hfin1
        have hm : diff_Distance.l1 y2 x2 x3 = some x4 := hx1; clear hx1
        unfold diff_Distance.l1 at hm
        refine wp_seq ?_
        refine wp_region_lit ?_
        refine wl_ev (wn rfl) (ev_int rfl rfl (bo_lss _ _ _ _)) F S rfl rfl ?_; clear F a; intro a F
        refine wpList_nil ?_
        refine then_n ?_
        refine wp_seq ?_
        obtain ⟨hc2, hm⟩ | ⟨hc2, hm⟩ := ite_or hm
        · refine wp_condT F rfl hc2 ?_
          refine wp_skip ?_
          refine then_n ?_
          refine wp_cut (fun a w => ∃ (x5 : Int) (g5 : Gh), Fr 32 a [(7, .int .i64 x5), (21, .int .i64 x2), (20, .int .i64 (y2.length : Int)), (19, v1), (5, .pointer (some ⟨b1, 0, Option.none⟩))] ∧ Le g4 g5 ∧ St g5 [[(b1, .cells #[.int .i64 0, .int .i64 0] 25 (0, 0))]] fr w ∧ diff_Distance.j2 x2 x5 = some x4) ?_ ?_
          · refine wp_block ?_
            refine wp_seq ?_
            refine wp_region_lit ?_
            obtain ⟨y3, hy3, hm⟩ := bind_some hm
            obtain ⟨cs1, hr2, hp1⟩ := elemS (h1.mono l4) hy3
            obtain rfl := rep_int hr2
            refine wl_ev (wn rfl) (ev_idxS (h1.mono l4) hy3 tu23 ts3 rfl rfl) F S rfl rfl ?_; clear F a; intro a F
            refine wl_ev (wn rfl) (ev_load1 tu3 rfl rfl (ptr_mono (cks := [[(b1, .cells #[.int .i64 0, .int .i64 0] 25 (0, 0))]]) (fr := fr) hp1 (Le.refl _))) F S rfl rfl ?_; clear F a; intro a F
            refine wl_ev (wn rfl) (ev_assign rfl) F S rfl rfl ?_; clear F a; intro a F
            refine wpList_nil ?_
            replace F := F.sub (e' := [(9, .int .i64 y3), (21, .int .i64 x2), (20, .int .i64 (y2.length : Int)), (19, v1), (7, .int .i64 x3), (5, .pointer (some ⟨b1, 0, Option.none⟩))]) ⟨rfl, rfl, rfl, rfl, rfl, rfl, trivial⟩
            refine then_n ?_
            refine wp_seq ?_
            refine wp_region_lit ?_
            refine wl_ev (wn rfl) (ev_move rfl) F S rfl rfl ?_; clear F a; intro a F
            refine wl_ev (wn rfl) (ev_int rfl rfl (bo_neq _ _ _ _)) F S rfl rfl ?_; clear F a; intro a F
            refine wpList_nil ?_
            replace F := F.sub (e' := [(26, .bool (!decide (y3 = 0))), (21, .int .i64 x2), (20, .int .i64 (y2.length : Int)), (19, v1), (7, .int .i64 x3), (5, .pointer (some ⟨b1, 0, Option.none⟩))]) ⟨rfl, rfl, rfl, rfl, rfl, rfl, trivial⟩
            refine then_n ?_
            obtain ⟨hc3, hm⟩ | ⟨hc3, hm⟩ := ite_or hm
            · refine wp_condT F rfl hc3 ?_
              refine wp_region_lit ?_
              refine wl_ev (wn rfl) (ev_move rfl) F S rfl rfl ?_; clear F a; intro a F
              obtain ⟨z2, hz2, hm⟩ := bind_some hm
              refine wl_ev (wn rfl) (ev_int rfl rfl (bo_add hz2)) F S rfl rfl ?_; clear F a; intro a F
              refine wl_ev (wn rfl) (ev_assign rfl) F S rfl rfl ?_; clear F a; intro a F
              refine wpList_nil ?_
              replace F := F.sub (e' := [(7, .int .i64 z2), (21, .int .i64 x2), (20, .int .i64 (y2.length : Int)), (19, v1), (5, .pointer (some ⟨b1, 0, Option.none⟩))]) ⟨rfl, rfl, rfl, rfl, rfl, trivial⟩
              refine inb_n ?_
              refine then_n ?_
              exact ⟨z2, g4, F.sub ⟨rfl, rfl, rfl, rfl, rfl, trivial⟩, (Le.refl _), S, hm⟩
            · refine wp_condF F rfl hc3 ?_
              refine wp_skip ?_
              refine inb_n ?_
              refine then_n ?_
              exact ⟨x3, g4, F.sub ⟨rfl, rfl, rfl, rfl, rfl, trivial⟩, (Le.refl _), S, hm⟩
          · clear F S hm; rintro a w ⟨x5, g5, F, l5, S, hm⟩
            refine wp_region_lit ?_
            obtain ⟨z1, hz1, hm⟩ := bind_some hm
            refine wl_ev (wn rfl) (ev_int rfl rfl (bo_add hz1)) F S rfl rfl ?_; clear F a; intro a F
            refine wl_ev (wn rfl) (ev_move rfl) F S rfl rfl ?_; clear F a; intro a F
            refine wpList_nil ?_
            replace F := F.sub (e' := [(21, .int .i64 z1), (7, .int .i64 x5), (20, .int .i64 (y2.length : Int)), (19, v1), (5, .pointer (some ⟨b1, 0, Option.none⟩))]) ⟨rfl, rfl, rfl, rfl, rfl, trivial⟩
            refine then_n ?_
            obtain rfl := Option.some.inj hm
            refine ⟨_, rfl, ?_⟩
            dsimp only
            exact ⟨g5, F.sub ⟨rfl, rfl, rfl, rfl, rfl, trivial⟩, (l4.trans l5), S⟩
        · refine wp_condF F rfl hc2 ?_
          refine wp_exit ?_
          refine then_e ?_
          refine then_e ?_
          refine inb_x ?_
          refine then_n ?_
          obtain rfl := Option.some.inj hm
          obtain rfl := hfin1 _ rfl
          clear hm
          have hm : (diff_Distance.j1 x3) = some _ := hmo1
          exact ⟨x3, g4, F.sub ⟨rfl, rfl, trivial⟩, (l3.trans l4), S, hm⟩
    · clear F S hm; rintro a w ⟨x1, g2, F, l2, S, hm⟩
      refine wp_seq ?_
      refine wp_region_lit ?_
      refine wl_ev (wn rfl) (ev_move rfl) F S rfl rfl ?_; clear F a; intro a F
      refine wl_ev (wn rfl) (ev_build (parts := []) (vs := []) rfl (fun w => tb25_  w)) F S rfl rfl ?_; clear F a; intro a F
      refine wl_ev (wn rfl) (ev_assign rfl) F S rfl rfl ?_; clear F a; intro a F
      refine wl_storeC (wn rfl) rfl F S rfl rfl (vs := [.int .i64 0, .int .i64 0]) rfl ts25 (one_cons rfl (one_cons rfl one_nil)) (k := 0) rfl (Nat.le_of_ble_eq_true rfl) (c' := #[.int .i64 0, .int .i64 0]) rfl rfl ?_; clear S; intro w S
      replace S : St g2 [[(b1, .cells #[.int .i64 0, .int .i64 0] 25 (0, 0))]] fr w := S
      refine wpList_nil ?_
      replace F := F.sub (e' := [(4, .int .i64 x1), (5, .pointer (some ⟨b1, 0, Option.none⟩))]) ⟨rfl, rfl, trivial⟩
      refine then_n ?_
      refine wp_ret ?_
      obtain rfl := Option.some.inj hm
      refine post_r (fn := Try.f27) (rs := [.tmp 4, .cell 5 25]) [.int .i64 x1, .agg #[.int .i64 0, .int .i64 0]] F rfl (ar_cons (resT rfl) (ar_cons (resA rfl tu25 rfl ts25 (box_ptr (cells := [.int .i64 0, .int .i64 0]) 0 rfl 0 rfl (Nat.le_of_ble_eq_true rfl) w S)) ar_nil)) ?_
      replace S : St g2 [] fr w := St.tail [] _ S
      exact ⟨_, rfl, g2, (l1.trans l2), S, rfl⟩

theorem rename_Similarity_ok {g : Gh} {fr : Hl} {w : World} {r : Int × Fault} (a_ : (List ByteArray)) (va_1 : Value) (ha_1 : RepSl g a_ va_1) (b_ : (List ByteArray)) (vb_1 : Value) (hb_1 : RepSl g b_ vb_1) (S : St g [] fr w) (hm : rename_Similarity a_ b_ = some r) :
    Calls Try.prog 17 [va_1, vb_1].toArray w (fun en w' => ∃ v, en = .returned v ∧ ∃ (g' : Gh), Le g g' ∧ St g' [] fr w' ∧ .tuple #[.int .i64 r.1, .agg #[.int .i64 r.2.Code, .int .i64 r.2.Index]] = v) := by
  unfold rename_Similarity at hm
  refine calls_enter (fn := Try.f17) Try.func17 rfl Try.ntmps17 (Nat.le_of_ble_eq_true rfl) ?_
  intro a F
  replace F : Fr 34 a [(0, va_1), (1, vb_1)] := F
  refine wp_seq ?_
  refine wp_region_lit ?_
  refine wl_ev (wn rfl) (ev_assign rfl) F S rfl rfl ?_; clear F a; intro a F
  refine wl_alloc (wn rfl) rfl tz25 (cs := [.int .i64 0, .int .i64 0]) rfl F S rfl rfl ?_; clear F a S; rintro b1 a w F S
  refine wpList_nil ?_
  replace F := F.sub (e' := [(5, .pointer (some ⟨b1, 0, Option.none⟩)), (0, va_1), (1, vb_1)]) ⟨rfl, rfl, rfl, trivial⟩
  refine then_n ?_
  refine wp_seq ?_
  refine wp_region_lit ?_
  refine wl_ev (wn rfl) (ev_move rfl) F S rfl rfl ?_; clear F a; intro a F
  refine wl_ev (wn rfl) (ev_move rfl) F S rfl rfl ?_; clear F a; intro a F
  obtain ⟨y1, hy1, hm⟩ := bind_some hm
  refine wl_call (wn rfl) rfl (xs := [.tmp 10, .tmp 11]) (vs := [va_1, vb_1]) (cap := []) F rfl rfl tc27 (diff_Distance_ok (g := g) (fr := (fl [[(b1, .cells #[.int .i64 0, .int .i64 0] 25 (0, 0))]] fr)) (w := w) a_ va_1 ha_1 b_ vb_1 hb_1 S hy1) rfl rfl ?_; clear F a S
  rintro _ a w ⟨g1, l1, S, rfl⟩ F; replace S : St g1 [[(b1, .cells #[.int .i64 0, .int .i64 0] 25 (0, 0))]] fr w := S
  refine wl_ev (wn rfl) (ev_move rfl) F S rfl rfl ?_; clear F a; intro a F
  refine wl_ev (wn rfl) (ev_extract (vs := [.int .i64 y1.1, .agg #[.int .i64 y1.2.Code, .int .i64 y1.2.Index]]) rfl rfl) F S rfl rfl ?_; clear F a; intro a F
  refine wl_ev (wn rfl) (ev_extract (vs := [.int .i64 y1.1, .agg #[.int .i64 y1.2.Code, .int .i64 y1.2.Index]]) rfl rfl) F S rfl rfl ?_; clear F a; intro a F
  refine wl_alloc (wn rfl) rfl tz25 (cs := [.int .i64 0, .int .i64 0]) rfl F S rfl rfl ?_; clear F a S; rintro b2 a w F S
  refine wl_ev (wn rfl) (ev_assign rfl) F S rfl rfl ?_; clear F a; intro a F
  refine wl_storeC (wn rfl) rfl F S rfl rfl (vs := [.int .i64 y1.2.Code, .int .i64 y1.2.Index]) rfl ts25 (one_cons rfl (one_cons rfl one_nil)) (k := 0) rfl (Nat.le_of_ble_eq_true rfl) (c' := #[.int .i64 y1.2.Code, .int .i64 y1.2.Index]) rfl rfl ?_; clear S; intro w S
  replace S : St g1 [[(b2, .cells #[.int .i64 y1.2.Code, .int .i64 y1.2.Index] 25 (0, 0))], [(b1, .cells #[.int .i64 0, .int .i64 0] 25 (0, 0))]] fr w := S
  refine wpList_nil ?_
  replace F := F.sub (e' := [(6, .int .i64 y1.1), (7, .pointer (some ⟨b2, 0, Option.none⟩)), (5, .pointer (some ⟨b1, 0, Option.none⟩)), (0, va_1), (1, vb_1)]) ⟨rfl, rfl, rfl, rfl, rfl, trivial⟩
  refine then_n ?_
  refine wp_seq ?_
  refine wp_seq ?_
  refine wp_region_lit ?_
  refine wl_ev (wn rfl) (ev_loadA tu25 rfl (cs := [.int .i64 y1.2.Code, .int .i64 y1.2.Index]) ts25 rfl (box_ptr (cells := [.int .i64 y1.2.Code, .int .i64 y1.2.Index]) 0 rfl 0 rfl (Nat.le_of_ble_eq_true rfl))) F S rfl rfl ?_; clear F a; intro a F
  refine wl_ev (wn rfl) (ev_build (parts := []) (vs := []) rfl (fun w => tb25_  w)) F S rfl rfl ?_; clear F a; intro a F
  refine wl_ev (wn rfl) (ev_neS tu25 tqa25 tqb25 tqc25 (xs := [.int .i64 y1.2.Code, .int .i64 y1.2.Index]) (ys := [.int .i64 0, .int .i64 0]) rfl rfl ⟨_, _, rfl, by decide, ⟨_, _, rfl, rfl, leaf_int tu3⟩, ⟨_, _, rfl, by decide, ⟨_, _, rfl, rfl, leaf_int tu3⟩, rfl⟩⟩) F S rfl rfl ?_; clear F a; intro a F
  refine wpList_nil ?_
  replace F := F.sub (e' := [(17, .bool (!(decide (y1.2.Code = 0) && decide (y1.2.Index = 0)))), (6, .int .i64 y1.1), (7, .pointer (some ⟨b2, 0, Option.none⟩)), (5, .pointer (some ⟨b1, 0, Option.none⟩)), (0, va_1), (1, vb_1)]) ⟨rfl, rfl, rfl, rfl, rfl, rfl, trivial⟩
  refine then_n ?_
  obtain ⟨hc1, hm⟩ | ⟨hc1, hm⟩ := ite_or hm
  · refine wp_condT F rfl hc1 ?_
    refine wp_seq ?_
    refine wp_drawL ⟨2, [[18], [4], []], [[], [], [4]], [[3], [], []], [[7], [], [5]], [[], [], [0]], [5], [0, 1, 2, 3]⟩
      [([18], fun us g c => us = [.agg #[.int .i64 y1.2.Code, .int .i64 y1.2.Index]]),
       ([4], fun us g c => us = [.int .i64 0]),
       ([], fun us g c => us = [] ∧ c = [(b1, .cells #[.int .i64 y1.2.Code, .int .i64 y1.2.Index] 25 (0, 0))])]
      mo (by kernel_rfl) rfl rfl ⟨fun _ _ _ _ _ h => h, fun _ _ _ _ _ h => h, fun _ _ _ _ _ h => h, trivial⟩ F S ⟨?_, ?_, ?_, trivial⟩ ?_
    · intro a w gd1 c fr hsz hdf hK ld1 hN hI S
      have F : Fr 34 a [(7, .pointer (some ⟨b2, 0, Option.none⟩))] := Fr.of hsz hdf ⟨hK 7 (by decide) _ rfl, trivial⟩
      replace S : St gd1 [c 3] fr w := S.of_eq (flat2 _ _ _ _)
      have q3 : c 3 = [(b2, .cells #[.int .i64 y1.2.Code, .int .i64 y1.2.Index] 25 (0, 0))] := hI 0 _ rfl
      rw [q3] at S
      refine wl_ev (wn rfl) (ev_loadA tu25 rfl (cs := [.int .i64 y1.2.Code, .int .i64 y1.2.Index]) ts25 rfl (box_ptr (cells := [.int .i64 y1.2.Code, .int .i64 y1.2.Index]) 0 rfl 0 rfl (Nat.le_of_ble_eq_true rfl))) F S rfl rfl ?_; clear F; intro a F
      refine wpList_nil ⟨rfl, F.sz, F.df, _, [], (Le.refl _), ?_, (lst1 (F.get 18 _ rfl))⟩
      refine St0.of_eq ?_ (flat3 c [] [3] fr).symm
      show St0 _ (fl ([] ++ [c 3]) fr) _
      rw [q3]
      exact S
    · intro a w gd1 c fr hsz hdf hK ld1 hN hI S
      have F : Fr 34 a [] := Fr.of hsz hdf trivial
      replace S : St gd1 [] fr w := S.of_eq (flat2 _ _ _ _)
      refine wl_ev (wn rfl) (ev_assign rfl) F S rfl rfl ?_; clear F; intro a F
      refine wpList_nil ⟨rfl, F.sz, F.df, _, [], (Le.refl _), ?_, (lst1 (F.get 4 _ rfl))⟩
      refine St0.of_eq ?_ (flat3 c [] [] fr).symm
      show St0 _ (fl ([] ++ []) fr) _
      exact S
    · intro a w gd1 c fr hsz hdf hK ld1 hN hI S
      have e0 := hN 0 (by decide)
      have e18x : val a 18 = .agg #[.int .i64 y1.2.Code, .int .i64 y1.2.Index] := nth e0 0
      have F : Fr 34 a [(5, .pointer (some ⟨b1, 0, Option.none⟩)), (18, .agg #[.int .i64 y1.2.Code, .int .i64 y1.2.Index])] := Fr.of hsz hdf ⟨hK 5 (by decide) _ rfl, e18x, trivial⟩
      replace S : St gd1 [c 4] fr w := S.of_eq (flat2 _ _ _ _)
      have q4 : c 4 = [(b1, .cells #[.int .i64 0, .int .i64 0] 25 (0, 0))] := hI 1 _ rfl
      rw [q4] at S
      refine wl_storeC (wn rfl) rfl F S rfl rfl (vs := [.int .i64 y1.2.Code, .int .i64 y1.2.Index]) rfl ts25 (one_cons rfl (one_cons rfl one_nil)) (k := 0) rfl (Nat.le_of_ble_eq_true rfl) (c' := #[.int .i64 y1.2.Code, .int .i64 y1.2.Index]) rfl rfl ?_; clear S; intro w S
      replace S : St gd1 [[(b1, .cells #[.int .i64 y1.2.Code, .int .i64 y1.2.Index] 25 (0, 0))]] fr w := S
      refine wpList_nil ⟨rfl, F.sz, F.df, _, [(b1, .cells #[.int .i64 y1.2.Code, .int .i64 y1.2.Index] 25 (0, 0))], (Le.refl _), ?_, ⟨rfl, rfl⟩⟩
      refine St0.of_eq ?_ (flat3s c ([(b1, .cells #[.int .i64 y1.2.Code, .int .i64 y1.2.Index] 25 (0, 0))]) [] fr).symm
      show St0 _ (fl ([[(b1, .cells #[.int .i64 y1.2.Code, .int .i64 y1.2.Index] 25 (0, 0))]] ++ []) fr) _
      exact S
    clear F S; intro a w gd1 c hsz hdf hK ld1 hI S hN
    have e1 := hN 1 (by decide)
    have e4x : val a 4 = .int .i64 0 := nth e1 0
    obtain ⟨e2, q2⟩ := hN 2 (by decide)
    have F : Fr 34 a [(5, .pointer (some ⟨b1, 0, Option.none⟩)), (4, .int .i64 0)] := Fr.of hsz hdf ⟨hK 5 (by decide) _ rfl, e4x, trivial⟩
    replace S : St gd1 [c 0, c 1, c 2, c 3] fr w := S.of_eq (flat_fl _ _ _)
    rw [q2] at S
    have q3 : c 3 = [(b2, .cells #[.int .i64 y1.2.Code, .int .i64 y1.2.Index] 25 (0, 0))] := hI 0 _ rfl
    rw [q3] at S
    replace S : St gd1 [[(b1, .cells #[.int .i64 y1.2.Code, .int .i64 y1.2.Index] 25 (0, 0))]] fr w := St.tail [[(b1, .cells #[.int .i64 y1.2.Code, .int .i64 y1.2.Index] 25 (0, 0))]] _ (S.frontC 2 rfl)
    clear hK hI hN hsz hdf e1 e2 e4x
    refine then_n ?_
    refine wp_ret ?_
    refine then_r ?_
    obtain rfl := Option.some.inj hm
    refine post_r (fn := Try.f17) (rs := [.tmp 4, .cell 5 25]) [.int .i64 0, .agg #[.int .i64 y1.2.Code, .int .i64 y1.2.Index]] F rfl (ar_cons (resT rfl) (ar_cons (resA rfl tu25 rfl ts25 (box_ptr (cells := [.int .i64 y1.2.Code, .int .i64 y1.2.Index]) 0 rfl 0 rfl (Nat.le_of_ble_eq_true rfl) w S)) ar_nil)) ?_
    replace S : St gd1 [] fr w := St.tail [] _ S
    exact ⟨_, rfl, gd1, (l1.trans ld1), S, rfl⟩
  · refine wp_condF F rfl hc1 ?_
    refine wp_skip ?_
    refine then_n ?_
    refine wp_seq ?_
    refine wp_region_lit ?_
    refine wl_ev (wn rfl) (ev_move rfl) F S rfl rfl ?_; clear F a; intro a F
    refine wl_ev (wn rfl) (ev_lenSh ha_1 rfl tu31) F S rfl rfl ?_; clear F a; intro a F
    refine wl_ev (wn rfl) (ev_move rfl) F S rfl rfl ?_; clear F a; intro a F
    refine wl_ev (wn rfl) (ev_lenSh hb_1 rfl tu31) F S rfl rfl ?_; clear F a; intro a F
    obtain ⟨z1, hz1, hm⟩ := bind_some hm
    refine wl_ev (wn rfl) (ev_int rfl rfl (bo_add hz1)) F S rfl rfl ?_; clear F a; intro a F
    refine wl_ev (wn rfl) (ev_assign rfl) F S rfl rfl ?_; clear F a; intro a F
    refine wpList_nil ?_
    replace F := F.sub (e' := [(8, .int .i64 z1), (6, .int .i64 y1.1), (5, .pointer (some ⟨b1, 0, Option.none⟩))]) ⟨rfl, rfl, rfl, trivial⟩
    refine then_n ?_
    refine wp_seq ?_
    refine wp_seq ?_
    refine wp_region_lit ?_
    refine wl_ev (wn rfl) (ev_move rfl) F S rfl rfl ?_; clear F a; intro a F
    refine wl_ev (wn rfl) (ev_int rfl rfl (bo_eql _ _ _ _)) F S rfl rfl ?_; clear F a; intro a F
    refine wpList_nil ?_
    replace F := F.sub (e' := [(25, .bool (decide (z1 = 0))), (8, .int .i64 z1), (6, .int .i64 y1.1), (5, .pointer (some ⟨b1, 0, Option.none⟩))]) ⟨rfl, rfl, rfl, rfl, trivial⟩
    refine then_n ?_
    obtain ⟨hc2, hm⟩ | ⟨hc2, hm⟩ := ite_or hm
    · refine wp_condT F rfl hc2 ?_
      refine wp_seq ?_
      refine wp_region_lit ?_
      refine wl_ev (wn rfl) (ev_build (parts := []) (vs := []) rfl (fun w => tb25_  w)) F S rfl rfl ?_; clear F a; intro a F
      refine wl_ev (wn rfl) (ev_assign rfl) F S rfl rfl ?_; clear F a; intro a F
      refine wl_storeC (wn rfl) rfl F S rfl rfl (vs := [.int .i64 0, .int .i64 0]) rfl ts25 (one_cons rfl (one_cons rfl one_nil)) (k := 1) rfl (Nat.le_of_ble_eq_true rfl) (c' := #[.int .i64 0, .int .i64 0]) rfl rfl ?_; clear S; intro w S
      replace S : St g1 [[(b2, .cells #[.int .i64 y1.2.Code, .int .i64 y1.2.Index] 25 (0, 0))], [(b1, .cells #[.int .i64 0, .int .i64 0] 25 (0, 0))]] fr w := S
      refine wpList_nil ?_
      replace F := F.sub (e' := [(4, .int .i64 100), (5, .pointer (some ⟨b1, 0, Option.none⟩))]) ⟨rfl, rfl, trivial⟩
      refine then_n ?_
      refine wp_ret ?_
      refine then_r ?_
      obtain rfl := Option.some.inj hm
      refine post_r (fn := Try.f17) (rs := [.tmp 4, .cell 5 25]) [.int .i64 100, .agg #[.int .i64 0, .int .i64 0]] F rfl (ar_cons (resT rfl) (ar_cons (resA rfl tu25 rfl ts25 (box_ptr (cells := [.int .i64 0, .int .i64 0]) 1 rfl 0 rfl (Nat.le_of_ble_eq_true rfl) w S)) ar_nil)) ?_
      replace S : St g1 [] fr w := St.tail [] _ S
      exact ⟨_, rfl, g1, l1, S, rfl⟩
    · refine wp_condF F rfl hc2 ?_
      refine wp_skip ?_
      refine then_n ?_
      refine wp_seq ?_
      refine wp_region_lit ?_
      refine wl_ev (wn rfl) (ev_move rfl) F S rfl rfl ?_; clear F a; intro a F
      refine wl_ev (wn rfl) (ev_move rfl) F S rfl rfl ?_; clear F a; intro a F
      obtain ⟨z2, hz2, hm⟩ := bind_some hm
      refine wl_ev (wn rfl) (ev_int rfl rfl (bo_sub hz2)) F S rfl rfl ?_; clear F a; intro a F
      obtain ⟨z3, hz3, hm⟩ := bind_some hm
      refine wl_ev (wn rfl) (ev_int rfl rfl (bo_mul hz3)) F S rfl rfl ?_; clear F a; intro a F
      refine wl_ev (wn rfl) (ev_move rfl) F S rfl rfl ?_; clear F a; intro a F
      obtain ⟨z4, hz4, hm⟩ := bind_some hm
      refine wl_ev (wn rfl) (ev_int rfl rfl (bo_quo hz4)) F S rfl rfl ?_; clear F a; intro a F
      refine wl_ev (wn rfl) (ev_build (parts := []) (vs := []) rfl (fun w => tb25_  w)) F S rfl rfl ?_; clear F a; intro a F
      refine wl_ev (wn rfl) (ev_assign rfl) F S rfl rfl ?_; clear F a; intro a F
      refine wl_storeC (wn rfl) rfl F S rfl rfl (vs := [.int .i64 0, .int .i64 0]) rfl ts25 (one_cons rfl (one_cons rfl one_nil)) (k := 1) rfl (Nat.le_of_ble_eq_true rfl) (c' := #[.int .i64 0, .int .i64 0]) rfl rfl ?_; clear S; intro w S
      replace S : St g1 [[(b2, .cells #[.int .i64 y1.2.Code, .int .i64 y1.2.Index] 25 (0, 0))], [(b1, .cells #[.int .i64 0, .int .i64 0] 25 (0, 0))]] fr w := S
      refine wpList_nil ?_
      replace F := F.sub (e' := [(4, .int .i64 z4), (5, .pointer (some ⟨b1, 0, Option.none⟩))]) ⟨rfl, rfl, trivial⟩
      refine then_n ?_
      refine wp_ret ?_
      obtain rfl := Option.some.inj hm
      refine post_r (fn := Try.f17) (rs := [.tmp 4, .cell 5 25]) [.int .i64 z4, .agg #[.int .i64 0, .int .i64 0]] F rfl (ar_cons (resT rfl) (ar_cons (resA rfl tu25 rfl ts25 (box_ptr (cells := [.int .i64 0, .int .i64 0]) 1 rfl 0 rfl (Nat.le_of_ble_eq_true rfl) w S)) ar_nil)) ?_
      replace S : St g1 [] fr w := St.tail [] _ S
      exact ⟨_, rfl, g1, l1, S, rfl⟩

theorem changeforgelaw2_half_ok {g : Gh} {fr : Hl} {w : World} {r : Bool}  (S : St g [] fr w) (hm : changeforgelaw2_half = some r) :
    Calls Try.prog 18 [].toArray w (fun en w' => ∃ v, en = .returned v ∧ ∃ (g' : Gh), Le g g' ∧ St g' [] fr w' ∧ .bool r = v) := by
  unfold changeforgelaw2_half at hm
  refine calls_enter (fn := Try.f18) Try.func18 rfl Try.ntmps18 (Nat.le_of_ble_eq_true rfl) ?_
  intro a F
  replace F : Fr 16 a [] := F
  refine wp_seq ?_
  refine wp_region_lit ?_
  refine wl_ev (wn rfl) (ev_assign rfl) F S rfl rfl ?_; clear F a; intro a F
  refine wpList_nil ?_
  replace F := F.sub (e' := []) trivial
  refine then_n ?_
  refine wp_seq ?_
  refine wp_region_lit ?_
  refine wl_lit (l := ([(⟨#[120]⟩ : ByteArray), (⟨#[121]⟩ : ByteArray)] : List ByteArray)) (vs := [.string (⟨#[120]⟩ : ByteArray), .string (⟨#[121]⟩ : ByteArray)]) (parts := [(0, .const (.string (⟨#[120]⟩ : ByteArray))), (1, .const (.string (⟨#[121]⟩ : ByteArray)))]) (wn rfl) rfl rfl rfl tu31 te9 (sz_cons rfl (sz_cons rfl sz_nil)) rfl (Cat.cons (show Rep.rep _ (⟨#[120]⟩ : ByteArray) _ from rfl) (Cat.cons (show Rep.rep _ (⟨#[121]⟩ : ByteArray) _ from rfl) (Cat.nil _))) (coa_cons rfl (coa_cons rfl coa_nil)) rfl F S rfl rfl ?_; clear F a S
  rintro v1 c1 a w h1 F S
  refine wl_lit (l := ([(⟨#[121]⟩ : ByteArray), (⟨#[122]⟩ : ByteArray)] : List ByteArray)) (vs := [.string (⟨#[121]⟩ : ByteArray), .string (⟨#[122]⟩ : ByteArray)]) (parts := [(0, .const (.string (⟨#[121]⟩ : ByteArray))), (1, .const (.string (⟨#[122]⟩ : ByteArray)))]) (wn rfl) rfl rfl rfl tu31 te9 (sz_cons rfl (sz_cons rfl sz_nil)) rfl (Cat.cons (show Rep.rep _ (⟨#[121]⟩ : ByteArray) _ from rfl) (Cat.cons (show Rep.rep _ (⟨#[122]⟩ : ByteArray) _ from rfl) (Cat.nil _))) (coa_cons rfl (coa_cons rfl coa_nil)) rfl F S rfl rfl ?_; clear F a S
  rintro v2 c2 a w h2 F S
  obtain ⟨g1, l1, S, h3⟩ : ∃ gz, Le g gz ∧ St gz [c2] fr w ∧ RepSl gz ([(⟨#[120]⟩ : ByteArray), (⟨#[121]⟩ : ByteArray)] : List ByteArray) v1 := ⟨_, Le.add _ _, S.freeze 1 rfl, OwnS.freeze (S.front 1 rfl) h1⟩
  obtain ⟨g2, l2, S, h4⟩ : ∃ gz, Le g1 gz ∧ St gz [] fr w ∧ RepSl gz ([(⟨#[121]⟩ : ByteArray), (⟨#[122]⟩ : ByteArray)] : List ByteArray) v2 := ⟨_, Le.add _ _, S.freeze 0 rfl, OwnS.freeze (S.front 0 rfl) (h2.mono l1)⟩
  obtain ⟨y1, hy1, hm⟩ := bind_some hm
  refine wl_call (wn rfl) rfl (xs := [.tmp 4, .tmp 5]) (vs := [v1, v2]) (cap := []) F rfl rfl tc17 (rename_Similarity_ok (g := g2) (fr := fr) (w := w) ([(⟨#[120]⟩ : ByteArray), (⟨#[121]⟩ : ByteArray)] : List ByteArray) v1 (h3.mono l2) ([(⟨#[121]⟩ : ByteArray), (⟨#[122]⟩ : ByteArray)] : List ByteArray) v2 h4 S hy1) rfl rfl ?_; clear F a S
  rintro _ a w ⟨g3, l3, S, rfl⟩ F; replace S : St g3 [] fr w := S
  refine wl_ev (wn rfl) (ev_move rfl) F S rfl rfl ?_; clear F a; intro a F
  refine wl_ev (wn rfl) (ev_extract (vs := [.int .i64 y1.1, .agg #[.int .i64 y1.2.Code, .int .i64 y1.2.Index]]) rfl rfl) F S rfl rfl ?_; clear F a; intro a F
  refine wl_ev (wn rfl) (ev_extract (vs := [.int .i64 y1.1, .agg #[.int .i64 y1.2.Code, .int .i64 y1.2.Index]]) rfl rfl) F S rfl rfl ?_; clear F a; intro a F
  refine wl_alloc (wn rfl) rfl tz25 (cs := [.int .i64 0, .int .i64 0]) rfl F S rfl rfl ?_; clear F a S; rintro b1 a w F S
  refine wl_ev (wn rfl) (ev_assign rfl) F S rfl rfl ?_; clear F a; intro a F
  refine wl_storeC (wn rfl) rfl F S rfl rfl (vs := [.int .i64 y1.2.Code, .int .i64 y1.2.Index]) rfl ts25 (one_cons rfl (one_cons rfl one_nil)) (k := 0) rfl (Nat.le_of_ble_eq_true rfl) (c' := #[.int .i64 y1.2.Code, .int .i64 y1.2.Index]) rfl rfl ?_; clear S; intro w S
  replace S : St g3 [[(b1, .cells #[.int .i64 y1.2.Code, .int .i64 y1.2.Index] 25 (0, 0))]] fr w := S
  refine wpList_nil ?_
  replace F := F.sub (e' := [(1, .int .i64 y1.1), (2, .pointer (some ⟨b1, 0, Option.none⟩))]) ⟨rfl, rfl, trivial⟩
  refine then_n ?_
  refine wp_seq ?_
  refine wp_region_lit ?_
  refine wl_ev (wn rfl) (ev_fieldAddr' tu25 tf25_0 (z := 0) ts3 rfl ⟨_, rfl⟩ rfl) F S rfl rfl ?_; clear F a; intro a F
  refine wl_ev (wn rfl) (ev_load1 tu3 rfl rfl (box_ptr (cells := [.int .i64 y1.2.Code]) 0 rfl 0 rfl (Nat.le_of_ble_eq_true rfl))) F S rfl rfl ?_; clear F a; intro a F
  refine wl_ev (wn rfl) (ev_int rfl rfl (bo_eql _ _ _ _)) F S rfl rfl ?_; clear F a; intro a F
  refine wl_ev (wn rfl) (ev_move rfl) F S rfl rfl ?_; clear F a; intro a F
  obtain ⟨x1, hx1, hm⟩ := bind_some hm
  refine wl_cut 3 (fun a w' => w = w' ∧ Fr 16 a [(15, .bool x1)]) ?_ ?_
  · clear hm; obtain ⟨hc1, hm⟩ | ⟨hc1, hm⟩ := ite_or hx1
    · refine wl_ev (wg F rfl rfl rfl rfl hc1) (ev_move rfl) F S rfl rfl ?_; clear F a; intro a F
      refine wl_ev (wg F rfl rfl rfl rfl hc1) (ev_int rfl rfl (bo_eql _ _ _ _)) F S rfl rfl ?_; clear F a; intro a F
      refine wl_ev (wn rfl) (ev_pickT rfl hc1 rfl) F S rfl rfl ?_; clear F a; intro a F
      obtain rfl := Option.some.inj hm
      refine wpList_nil (then_n ?_); exact ⟨rfl, F.sub ⟨rfl, trivial⟩⟩
    · refine wl_skip rfl rfl rfl rfl (ne_tf hc1) F rfl rfl ?_; clear F a; intro a F
      refine wl_skip rfl rfl rfl rfl (ne_tf hc1) F rfl rfl ?_; clear F a; intro a F
      refine wl_ev (wn rfl) (ev_pickF rfl hc1 rfl) F S rfl rfl ?_; clear F a; intro a F
      obtain rfl := Option.some.inj hm
      refine wpList_nil (then_n ?_); exact ⟨rfl, F.sub ⟨rfl, trivial⟩⟩
  clear F; rintro a w' ⟨rfl, F⟩
  refine wl_ev (wn rfl) (ev_assign rfl) F S rfl rfl ?_; clear F a; intro a F
  refine wpList_nil ?_
  replace F := F.sub (e' := [(0, .bool x1)]) ⟨rfl, trivial⟩
  refine then_n ?_
  refine wp_ret ?_
  obtain rfl := Option.some.inj hm
  refine post_r (fn := Try.f18) (rs := [.tmp 0]) [.bool x1] F rfl (ar_cons (resT rfl) ar_nil) ?_
  replace S : St g3 [] fr w := St.tail [] _ S
  exact ⟨_, rfl, g3, ((l1.trans l2).trans l3), S, rfl⟩

theorem changeforgeequal_Strings_ok {g : Gh} {fr : Hl} {w : World} {r : Bool} (a_ : (List ByteArray)) (va_1 : Value) (ha_1 : RepSl g a_ va_1) (b_ : (List ByteArray)) (vb_1 : Value) (hb_1 : RepSl g b_ vb_1) (S : St g [] fr w) (hm : changeforgeequal_Strings a_ b_ = some r) :
    Calls Try.prog 19 [va_1, vb_1].toArray w (fun en w' => ∃ v, en = .returned v ∧ ∃ (g' : Gh), Le g g' ∧ St g' [] fr w' ∧ .bool r = v) := by
  unfold changeforgeequal_Strings at hm
  refine calls_enter (fn := Try.f19) Try.func19 rfl Try.ntmps19 (Nat.le_of_ble_eq_true rfl) ?_
  intro a F
  replace F : Fr 26 a [(0, va_1), (1, vb_1)] := F
  refine wp_seq ?_
  refine wp_region_lit ?_
  refine wl_ev (wn rfl) (ev_assign rfl) F S rfl rfl ?_; clear F a; intro a F
  refine wpList_nil ?_
  replace F := F.sub (e' := [(0, va_1), (1, vb_1)]) ⟨rfl, rfl, trivial⟩
  refine then_n ?_
  refine wp_seq ?_
  refine wp_seq ?_
  refine wp_region_lit ?_
  refine wl_ev (wn rfl) (ev_move rfl) F S rfl rfl ?_; clear F a; intro a F
  refine wl_ev (wn rfl) (ev_lenSh ha_1 rfl tu31) F S rfl rfl ?_; clear F a; intro a F
  refine wl_ev (wn rfl) (ev_move rfl) F S rfl rfl ?_; clear F a; intro a F
  refine wl_ev (wn rfl) (ev_lenSh hb_1 rfl tu31) F S rfl rfl ?_; clear F a; intro a F
  refine wl_ev (wn rfl) (ev_int rfl rfl (bo_neq _ _ _ _)) F S rfl rfl ?_; clear F a; intro a F
  refine wpList_nil ?_
  replace F := F.sub (e' := [(10, .bool (!decide ((a_.length : Int) = (b_.length : Int)))), (0, va_1), (1, vb_1)]) ⟨rfl, rfl, rfl, trivial⟩
  refine then_n ?_
  obtain ⟨hc1, hm⟩ | ⟨hc1, hm⟩ := ite_or hm
  · refine wp_condT F rfl hc1 ?_
    refine wp_seq ?_
    refine wp_region_lit ?_
    refine wl_ev (wn rfl) (ev_assign rfl) F S rfl rfl ?_; clear F a; intro a F
    refine wpList_nil ?_
    replace F := F.sub (e' := [(4, .bool false)]) ⟨rfl, trivial⟩
    refine then_n ?_
    refine wp_ret ?_
    refine then_r ?_
    obtain rfl := Option.some.inj hm
    refine post_r (fn := Try.f19) (rs := [.tmp 4]) [.bool false] F rfl (ar_cons (resT rfl) ar_nil) ?_
    exact ⟨_, rfl, g, (Le.refl _), S, rfl⟩
  · refine wp_condF F rfl hc1 ?_
    refine wp_skip ?_
    refine then_n ?_
    refine wp_cut (fun a w => ∃ (g1 : Gh), Fr 26 a [] ∧ Le g g1 ∧ St g1 [] fr w ∧ changeforgeequal_Strings.j1 = some r) ?_ ?_
    · refine wp_seq ?_
      refine wp_region_lit ?_
      refine wl_ev (wn rfl) (ev_assign rfl) F S rfl rfl ?_; clear F a; intro a F
      refine wpList_nil ?_
      replace F := F.sub (e' := [(5, .int .i64 0), (0, va_1), (1, vb_1)]) ⟨rfl, rfl, rfl, trivial⟩
      refine then_n ?_
      refine wp_block ?_
      obtain ⟨r1, hr1, hm⟩ := bind_some hm
      have hmo1 := hm; clear hm
      refine wp_iter (σ := Int) (ρ := Bool ⊕ Unit) (m := fun s => changeforgeequal_Strings.l1 a_ b_ s) (I := fun x1 a w => ∃ (g2 : Gh), Fr 26 a [(5, .int .i64 x1), (0, va_1), (1, vb_1)] ∧ Le g g2 ∧ St g2 [] fr w) hr1 ?_ ?_
      · exact ⟨g, F.sub ⟨rfl, rfl, rfl, trivial⟩, (Le.refl _), S⟩
      · clear F S; rintro x1 a w x2 ⟨g2, F, l2, S⟩ hx1 hfin1
        have hm : changeforgeequal_Strings.l1 a_ b_ x1 = some x2 := hx1; clear hx1
        unfold changeforgeequal_Strings.l1 at hm
        refine wp_seq ?_
        refine wp_seq ?_
        refine wp_region_lit ?_
        refine wl_ev (wn rfl) (ev_move rfl) F S rfl rfl ?_; clear F a; intro a F
        refine wl_ev (wn rfl) (ev_move rfl) F S rfl rfl ?_; clear F a; intro a F
        refine wl_ev (wn rfl) (ev_lenSh ha_1 rfl tu31) F S rfl rfl ?_; clear F a; intro a F
        refine wl_ev (wn rfl) (ev_int rfl rfl (bo_lss _ _ _ _)) F S rfl rfl ?_; clear F a; intro a F
        refine wpList_nil ?_
        replace F := F.sub (e' := [(14, .bool (decide (x1 < (a_.length : Int)))), (5, .int .i64 x1), (0, va_1), (1, vb_1)]) ⟨rfl, rfl, rfl, rfl, trivial⟩
        refine then_n ?_
        obtain ⟨hc2, hm⟩ | ⟨hc2, hm⟩ := ite_or hm
        · refine wp_condT F rfl hc2 ?_
          refine wp_skip ?_
          refine then_n ?_
          refine wp_seq ?_
          refine wp_block ?_
          refine wp_seq ?_
          refine wp_quiet mo (by kernel_rfl) S ?_
          refine wq_ev (wn rfl) (ev_move rfl) F rfl rfl ?_; clear F a; intro a F
          refine wq_ev (wn rfl) (ev_move rfl) F rfl rfl ?_; clear F a; intro a F
          obtain ⟨y1, hy1, hm⟩ := bind_some hm
          obtain ⟨cs1, hr2, hp1⟩ := elemS (ha_1.mono l2) hy1
          obtain rfl := rep_str hr2
          refine wq_ev (wn rfl) (ev_idxS (ha_1.mono l2) hy1 tu31 ts9 rfl rfl) F rfl rfl ?_; clear F a; intro a F
          refine wq_ev (wn rfl) (ev_load1 tu9 rfl rfl (ptr_mono (cks := []) (fr := fr) hp1 (Le.refl _))) F rfl rfl ?_; clear F a; intro a F
          refine wq_ev (wn rfl) (ev_move rfl) F rfl rfl ?_; clear F a; intro a F
          refine wq_ev (wn rfl) (ev_move rfl) F rfl rfl ?_; clear F a; intro a F
          obtain ⟨y2, hy2, hm⟩ := bind_some hm
          obtain ⟨cs2, hr3, hp2⟩ := elemS (hb_1.mono l2) hy2
          obtain rfl := rep_str hr3
          refine wq_ev (wn rfl) (ev_idxS (hb_1.mono l2) hy2 tu31 ts9 rfl rfl) F rfl rfl ?_; clear F a; intro a F
          refine wq_ev (wn rfl) (ev_load1 tu9 rfl rfl (ptr_mono (cks := []) (fr := fr) hp2 (Le.refl _))) F rfl rfl ?_; clear F a; intro a F
          refine wq_ev (wn rfl) (ev_str rfl rfl (bs_neq _ _ _)) F rfl rfl ?_; clear F a; intro a F
          refine wq_nil ?_; clear S; intro w S
          replace F := F.sub (e' := [(25, .bool (!decide (y1 = y2))), (5, .int .i64 x1), (0, va_1), (1, vb_1)]) ⟨rfl, rfl, rfl, rfl, trivial⟩
          refine then_n ?_
          obtain ⟨hc3, hm⟩ | ⟨hc3, hm⟩ := ite_or hm
          · refine wp_condT F rfl hc3 ?_
            refine wp_seq ?_
            refine wp_region_lit ?_
            refine wl_ev (wn rfl) (ev_assign rfl) F S rfl rfl ?_; clear F a; intro a F
            refine wpList_nil ?_
            replace F := F.sub (e' := [(4, .bool false)]) ⟨rfl, trivial⟩
            refine then_n ?_
            refine wp_ret ?_
            refine inb_r ?_
            refine then_r ?_
            refine then_r ?_
            refine inb_r ?_
            refine then_r ?_
            obtain rfl := Option.some.inj hm
            obtain rfl := hfin1 _ rfl
            clear hm
            have hm : (some false) = some _ := hmo1
            obtain rfl := Option.some.inj hm
            refine post_r (fn := Try.f19) (rs := [.tmp 4]) [.bool false] F rfl (ar_cons (resT rfl) ar_nil) ?_
            exact ⟨_, rfl, g2, l2, S, rfl⟩
          · refine wp_condF F rfl hc3 ?_
            refine wp_skip ?_
            refine inb_n ?_
            refine then_n ?_
            refine wp_region_lit ?_
            refine wl_ev (wn rfl) (ev_move rfl) F S rfl rfl ?_; clear F a; intro a F
            obtain ⟨z1, hz1, hm⟩ := bind_some hm
            refine wl_ev (wn rfl) (ev_int rfl rfl (bo_add hz1)) F S rfl rfl ?_; clear F a; intro a F
            refine wl_ev (wn rfl) (ev_assign rfl) F S rfl rfl ?_; clear F a; intro a F
            refine wpList_nil ?_
            replace F := F.sub (e' := [(5, .int .i64 z1), (0, va_1), (1, vb_1)]) ⟨rfl, rfl, rfl, trivial⟩
            refine then_n ?_
            obtain rfl := Option.some.inj hm
            refine ⟨_, rfl, ?_⟩
            exact ⟨g2, F.sub ⟨rfl, rfl, rfl, trivial⟩, l2, S⟩
        · refine wp_condF F rfl hc2 ?_
          refine wp_exit ?_
          refine then_e ?_
          refine then_e ?_
          refine inb_x ?_
          refine then_n ?_
          obtain rfl := Option.some.inj hm
          obtain rfl := hfin1 _ rfl
          clear hm
          have hm : (changeforgeequal_Strings.j1) = some _ := hmo1
          exact ⟨g2, F.sub trivial, l2, S, hm⟩
    · clear F S hm; rintro a w ⟨g1, F, l1, S, hm⟩
      refine wp_seq ?_
      refine wp_region_lit ?_
      refine wl_ev (wn rfl) (ev_assign rfl) F S rfl rfl ?_; clear F a; intro a F
      refine wpList_nil ?_
      refine then_n ?_
      refine wp_ret ?_
      obtain rfl := Option.some.inj hm
      refine post_r (fn := Try.f19) (rs := [.tmp 4]) [.bool true] F rfl (ar_cons (resT rfl) ar_nil) ?_
      exact ⟨_, rfl, g1, l1, S, rfl⟩

theorem changeforgelaw2_RenameSimilarityBounds_ok {g : Gh} {fr : Hl} {w : World} {r : Bool} (a_ : (List ByteArray)) (va_1 : Value) (ha_1 : RepSl g a_ va_1) (b_ : (List ByteArray)) (vb_1 : Value) (hb_1 : RepSl g b_ vb_1) (S : St g [] fr w) (hm : changeforgelaw2_RenameSimilarityBounds a_ b_ = some r) :
    Calls Try.prog 6 [va_1, vb_1].toArray w (fun en w' => ∃ v, en = .returned v ∧ ∃ (g' : Gh), Le g g' ∧ St g' [] fr w' ∧ .bool r = v) := by
  unfold changeforgelaw2_RenameSimilarityBounds at hm
  refine calls_enter (fn := Try.f6) Try.func6 rfl Try.ntmps6 (Nat.le_of_ble_eq_true rfl) ?_
  intro a F
  replace F : Fr 52 a [(0, va_1), (1, vb_1)] := F
  refine wp_seq ?_
  refine wp_region_lit ?_
  refine wl_ev (wn rfl) (ev_assign rfl) F S rfl rfl ?_; clear F a; intro a F
  refine wpList_nil ?_
  replace F := F.sub (e' := [(0, va_1), (1, vb_1)]) ⟨rfl, rfl, trivial⟩
  refine then_n ?_
  refine wp_seq ?_
  refine wp_region_lit ?_
  refine wl_ev (wn rfl) (ev_move rfl) F S rfl rfl ?_; clear F a; intro a F
  refine wl_ev (wn rfl) (ev_move rfl) F S rfl rfl ?_; clear F a; intro a F
  obtain ⟨y1, hy1, hm⟩ := bind_some hm
  refine wl_call (wn rfl) rfl (xs := [.tmp 10, .tmp 11]) (vs := [va_1, vb_1]) (cap := []) F rfl rfl tc17 (rename_Similarity_ok (g := g) (fr := fr) (w := w) a_ va_1 ha_1 b_ vb_1 hb_1 S hy1) rfl rfl ?_; clear F a S
  rintro _ a w ⟨g1, l1, S, rfl⟩ F; replace S : St g1 [] fr w := S
  refine wl_ev (wn rfl) (ev_move rfl) F S rfl rfl ?_; clear F a; intro a F
  refine wl_ev (wn rfl) (ev_extract (vs := [.int .i64 y1.1, .agg #[.int .i64 y1.2.Code, .int .i64 y1.2.Index]]) rfl rfl) F S rfl rfl ?_; clear F a; intro a F
  refine wl_ev (wn rfl) (ev_extract (vs := [.int .i64 y1.1, .agg #[.int .i64 y1.2.Code, .int .i64 y1.2.Index]]) rfl rfl) F S rfl rfl ?_; clear F a; intro a F
  refine wl_alloc (wn rfl) rfl tz25 (cs := [.int .i64 0, .int .i64 0]) rfl F S rfl rfl ?_; clear F a S; rintro b1 a w F S
  refine wl_ev (wn rfl) (ev_assign rfl) F S rfl rfl ?_; clear F a; intro a F
  refine wl_storeC (wn rfl) rfl F S rfl rfl (vs := [.int .i64 y1.2.Code, .int .i64 y1.2.Index]) rfl ts25 (one_cons rfl (one_cons rfl one_nil)) (k := 0) rfl (Nat.le_of_ble_eq_true rfl) (c' := #[.int .i64 y1.2.Code, .int .i64 y1.2.Index]) rfl rfl ?_; clear S; intro w S
  replace S : St g1 [[(b1, .cells #[.int .i64 y1.2.Code, .int .i64 y1.2.Index] 25 (0, 0))]] fr w := S
  refine wpList_nil ?_
  replace F := F.sub (e' := [(5, .int .i64 y1.1), (6, .pointer (some ⟨b1, 0, Option.none⟩)), (0, va_1), (1, vb_1)]) ⟨rfl, rfl, rfl, rfl, trivial⟩
  refine then_n ?_
  refine wp_seq ?_
  refine wp_region_lit ?_
  refine wl_ev (wn rfl) (ev_move rfl) F S rfl rfl ?_; clear F a; intro a F
  refine wl_ev (wn rfl) (ev_move rfl) F S rfl rfl ?_; clear F a; intro a F
  obtain ⟨y2, hy2, hm⟩ := bind_some hm
  refine wl_call (wn rfl) rfl (xs := [.tmp 16, .tmp 17]) (vs := [vb_1, va_1]) (cap := []) F rfl rfl tc17 (rename_Similarity_ok (g := g1) (fr := (fl [[(b1, .cells #[.int .i64 y1.2.Code, .int .i64 y1.2.Index] 25 (0, 0))]] fr)) (w := w) b_ vb_1 (hb_1.mono l1) a_ va_1 (ha_1.mono l1) S hy2) rfl rfl ?_; clear F a S
  rintro _ a w ⟨g2, l2, S, rfl⟩ F; replace S : St g2 [[(b1, .cells #[.int .i64 y1.2.Code, .int .i64 y1.2.Index] 25 (0, 0))]] fr w := S
  refine wl_ev (wn rfl) (ev_move rfl) F S rfl rfl ?_; clear F a; intro a F
  refine wl_ev (wn rfl) (ev_extract (vs := [.int .i64 y2.1, .agg #[.int .i64 y2.2.Code, .int .i64 y2.2.Index]]) rfl rfl) F S rfl rfl ?_; clear F a; intro a F
  refine wl_ev (wn rfl) (ev_extract (vs := [.int .i64 y2.1, .agg #[.int .i64 y2.2.Code, .int .i64 y2.2.Index]]) rfl rfl) F S rfl rfl ?_; clear F a; intro a F
  refine wl_alloc (wn rfl) rfl tz25 (cs := [.int .i64 0, .int .i64 0]) rfl F S rfl rfl ?_; clear F a S; rintro b2 a w F S
  refine wl_ev (wn rfl) (ev_assign rfl) F S rfl rfl ?_; clear F a; intro a F
  refine wl_storeC (wn rfl) rfl F S rfl rfl (vs := [.int .i64 y2.2.Code, .int .i64 y2.2.Index]) rfl ts25 (one_cons rfl (one_cons rfl one_nil)) (k := 0) rfl (Nat.le_of_ble_eq_true rfl) (c' := #[.int .i64 y2.2.Code, .int .i64 y2.2.Index]) rfl rfl ?_; clear S; intro w S
  replace S : St g2 [[(b2, .cells #[.int .i64 y2.2.Code, .int .i64 y2.2.Index] 25 (0, 0))], [(b1, .cells #[.int .i64 y1.2.Code, .int .i64 y1.2.Index] 25 (0, 0))]] fr w := S
  refine wpList_nil ?_
  replace F := F.sub (e' := [(7, .int .i64 y2.1), (8, .pointer (some ⟨b2, 0, Option.none⟩)), (5, .int .i64 y1.1), (6, .pointer (some ⟨b1, 0, Option.none⟩)), (0, va_1), (1, vb_1)]) ⟨rfl, rfl, rfl, rfl, rfl, rfl, trivial⟩
  refine then_n ?_
  refine wp_seq ?_
  refine wp_seq ?_
  refine wp_region_lit ?_
  refine wl_ev (wn rfl) (ev_fieldAddr' tu25 tf25_0 (z := 0) ts3 rfl ⟨_, rfl⟩ rfl) F S rfl rfl ?_; clear F a; intro a F
  refine wl_ev (wn rfl) (ev_load1 tu3 rfl rfl (box_ptr (cells := [.int .i64 y1.2.Code]) 1 rfl 0 rfl (Nat.le_of_ble_eq_true rfl))) F S rfl rfl ?_; clear F a; intro a F
  refine wl_ev (wn rfl) (ev_int rfl rfl (bo_neq _ _ _ _)) F S rfl rfl ?_; clear F a; intro a F
  refine wl_ev (wn rfl) (ev_move rfl) F S rfl rfl ?_; clear F a; intro a F
  obtain ⟨x1, hx1, hm⟩ := bind_some hm
  refine wl_cut 4 (fun a w' => w = w' ∧ Fr 52 a [(28, .bool x1), (7, .int .i64 y2.1), (5, .int .i64 y1.1), (0, va_1), (1, vb_1)]) ?_ ?_
  · clear hm; obtain ⟨hc1, hm⟩ | ⟨hc1, hm⟩ := ite_or hx1
    · refine wl_skip rfl rfl rfl rfl (ne_ft hc1) F rfl rfl ?_; clear F a; intro a F
      refine wl_skip rfl rfl rfl rfl (ne_ft hc1) F rfl rfl ?_; clear F a; intro a F
      refine wl_skip rfl rfl rfl rfl (ne_ft hc1) F rfl rfl ?_; clear F a; intro a F
      refine wl_ev (wn rfl) (ev_pickT rfl hc1 rfl) F S rfl rfl ?_; clear F a; intro a F
      obtain rfl := Option.some.inj hm
      refine wpList_nil (then_n ?_); exact ⟨rfl, F.sub ⟨rfl, rfl, rfl, rfl, rfl, trivial⟩⟩
    · refine wl_ev (wg F rfl rfl rfl rfl hc1) (ev_fieldAddr' tu25 tf25_0 (z := 0) ts3 rfl ⟨_, rfl⟩ rfl) F S rfl rfl ?_; clear F a; intro a F
      refine wl_ev (wg F rfl rfl rfl rfl hc1) (ev_load1 tu3 rfl rfl (box_ptr (cells := [.int .i64 y2.2.Code]) 0 rfl 0 rfl (Nat.le_of_ble_eq_true rfl))) F S rfl rfl ?_; clear F a; intro a F
      refine wl_ev (wg F rfl rfl rfl rfl hc1) (ev_int rfl rfl (bo_neq _ _ _ _)) F S rfl rfl ?_; clear F a; intro a F
      refine wl_ev (wn rfl) (ev_pickF rfl hc1 rfl) F S rfl rfl ?_; clear F a; intro a F
      obtain rfl := Option.some.inj hm
      refine wpList_nil (then_n ?_); exact ⟨rfl, F.sub ⟨rfl, rfl, rfl, rfl, rfl, trivial⟩⟩
  clear F; rintro a w' ⟨rfl, F⟩
  refine wpList_nil ?_
  refine then_n ?_
  obtain ⟨hc2, hm⟩ | ⟨hc2, hm⟩ := ite_or hm
  · refine wp_condT F rfl hc2 ?_
    refine wp_seq ?_
    refine wp_region_lit ?_
    obtain ⟨y3, hy3, hm⟩ := bind_some hm
    refine wl_call (wn rfl) rfl (xs := []) (vs := []) (cap := []) F rfl rfl tc18 (changeforgelaw2_half_ok (g := g2) (fr := (fl [[(b2, .cells #[.int .i64 y2.2.Code, .int .i64 y2.2.Index] 25 (0, 0))], [(b1, .cells #[.int .i64 y1.2.Code, .int .i64 y1.2.Index] 25 (0, 0))]] fr)) (w := w)  S hy3) rfl rfl ?_; clear F a S
    rintro _ a w ⟨g3, l3, S, rfl⟩ F; replace S : St g3 [[(b2, .cells #[.int .i64 y2.2.Code, .int .i64 y2.2.Index] 25 (0, 0))], [(b1, .cells #[.int .i64 y1.2.Code, .int .i64 y1.2.Index] 25 (0, 0))]] fr w := S
    refine wl_ev (wn rfl) (ev_assign rfl) F S rfl rfl ?_; clear F a; intro a F
    refine wpList_nil ?_
    replace F := F.sub (e' := [(4, .bool y3)]) ⟨rfl, trivial⟩
    refine then_n ?_
    refine wp_ret ?_
    refine then_r ?_
    obtain rfl := Option.some.inj hm
    refine post_r (fn := Try.f6) (rs := [.tmp 4]) [.bool y3] F rfl (ar_cons (resT rfl) ar_nil) ?_
    replace S : St g3 [] fr w := St.tail [] _ S
    exact ⟨_, rfl, g3, ((l1.trans l2).trans l3), S, rfl⟩
  · refine wp_condF F rfl hc2 ?_
    refine wp_skip ?_
    refine then_n ?_
    refine wp_seq ?_
    refine wp_region_lit ?_
    refine wl_ev (wn rfl) (ev_move rfl) F S rfl rfl ?_; clear F a; intro a F
    refine wl_ev (wn rfl) (ev_move rfl) F S rfl rfl ?_; clear F a; intro a F
    refine wl_ev (wn rfl) (ev_int rfl rfl (bo_eql _ _ _ _)) F S rfl rfl ?_; clear F a; intro a F
    refine wl_ev (wn rfl) (ev_move rfl) F S rfl rfl ?_; clear F a; intro a F
    obtain ⟨x2, hx2, hm⟩ := bind_some hm
    refine wl_cut 3 (fun a w' => w = w' ∧ Fr 52 a [(36, .bool x2), (5, .int .i64 y1.1), (0, va_1), (1, vb_1)]) ?_ ?_
    · clear hm; obtain ⟨hc3, hm⟩ | ⟨hc3, hm⟩ := ite_or hx2
      · refine wl_ev (wg F rfl rfl rfl rfl hc3) (ev_move rfl) F S rfl rfl ?_; clear F a; intro a F
        refine wl_ev (wg F rfl rfl rfl rfl hc3) (ev_int rfl rfl (bo_geq _ _ _ _)) F S rfl rfl ?_; clear F a; intro a F
        refine wl_ev (wn rfl) (ev_pickT rfl hc3 rfl) F S rfl rfl ?_; clear F a; intro a F
        obtain rfl := Option.some.inj hm
        refine wpList_nil (then_n ?_); exact ⟨rfl, F.sub ⟨rfl, rfl, rfl, rfl, trivial⟩⟩
      · refine wl_skip rfl rfl rfl rfl (ne_tf hc3) F rfl rfl ?_; clear F a; intro a F
        refine wl_skip rfl rfl rfl rfl (ne_tf hc3) F rfl rfl ?_; clear F a; intro a F
        refine wl_ev (wn rfl) (ev_pickF rfl hc3 rfl) F S rfl rfl ?_; clear F a; intro a F
        obtain rfl := Option.some.inj hm
        refine wpList_nil (then_n ?_); exact ⟨rfl, F.sub ⟨rfl, rfl, rfl, rfl, trivial⟩⟩
    clear F; rintro a w' ⟨rfl, F⟩
    refine wl_ev (wn rfl) (ev_move rfl) F S rfl rfl ?_; clear F a; intro a F
    obtain ⟨x3, hx3, hm⟩ := bind_some hm
    refine wl_cut 3 (fun a w' => w = w' ∧ Fr 52 a [(40, .bool x3), (5, .int .i64 y1.1), (0, va_1), (1, vb_1)]) ?_ ?_
    · clear hm; obtain ⟨hc4, hm⟩ | ⟨hc4, hm⟩ := ite_or hx3
      · refine wl_ev (wg F rfl rfl rfl rfl hc4) (ev_move rfl) F S rfl rfl ?_; clear F a; intro a F
        refine wl_ev (wg F rfl rfl rfl rfl hc4) (ev_int rfl rfl (bo_leq _ _ _ _)) F S rfl rfl ?_; clear F a; intro a F
        refine wl_ev (wn rfl) (ev_pickT rfl hc4 rfl) F S rfl rfl ?_; clear F a; intro a F
        obtain rfl := Option.some.inj hm
        refine wpList_nil (then_n ?_); exact ⟨rfl, F.sub ⟨rfl, rfl, rfl, rfl, trivial⟩⟩
      · refine wl_skip rfl rfl rfl rfl (ne_tf hc4) F rfl rfl ?_; clear F a; intro a F
        refine wl_skip rfl rfl rfl rfl (ne_tf hc4) F rfl rfl ?_; clear F a; intro a F
        refine wl_ev (wn rfl) (ev_pickF rfl hc4 rfl) F S rfl rfl ?_; clear F a; intro a F
        obtain rfl := Option.some.inj hm
        refine wpList_nil (then_n ?_); exact ⟨rfl, F.sub ⟨rfl, rfl, rfl, rfl, trivial⟩⟩
    clear F; rintro a w' ⟨rfl, F⟩
    refine wl_ev (wn rfl) (ev_move rfl) F S rfl rfl ?_; clear F a; intro a F
    obtain ⟨x4, hx4, hm⟩ := bind_some hm
    refine wl_cut 7 (fun a w => ∃ g4, Fr 52 a [(48, .bool x4)] ∧ Le g2 g4 ∧ St g4 [[(b2, .cells #[.int .i64 y2.2.Code, .int .i64 y2.2.Index] 25 (0, 0))], [(b1, .cells #[.int .i64 y1.2.Code, .int .i64 y1.2.Index] 25 (0, 0))]] fr w) ?_ ?_
    · clear hm; obtain ⟨hc5, hm⟩ | ⟨hc5, hm⟩ := ite_or hx4
      · refine wl_ev (wg F rfl rfl rfl rfl hc5) (ev_move rfl) F S rfl rfl ?_; clear F a; intro a F
        refine wl_ev (wg F rfl rfl rfl rfl hc5) (ev_int rfl rfl (bo_eql _ _ _ _)) F S rfl rfl ?_; clear F a; intro a F
        refine wl_ev (wg F rfl rfl rfl rfl hc5) (ev_move rfl) F S rfl rfl ?_; clear F a; intro a F
        refine wl_ev (wg F rfl rfl rfl rfl hc5) (ev_move rfl) F S rfl rfl ?_; clear F a; intro a F
        obtain ⟨y4, hy4, hm⟩ := bind_some hm
        refine wl_call (wg F rfl rfl rfl rfl hc5) rfl (xs := [.tmp 44, .tmp 45]) (vs := [va_1, vb_1]) (cap := []) F rfl rfl tc19 (changeforgeequal_Strings_ok (g := g2) (fr := (fl [[(b2, .cells #[.int .i64 y2.2.Code, .int .i64 y2.2.Index] 25 (0, 0))], [(b1, .cells #[.int .i64 y1.2.Code, .int .i64 y1.2.Index] 25 (0, 0))]] fr)) (w := w) a_ va_1 (ha_1.mono (l1.trans l2)) b_ vb_1 (hb_1.mono (l1.trans l2)) S hy4) rfl rfl ?_; clear F a S
        rintro _ a w ⟨g5, l5, S, rfl⟩ F; replace S : St g5 [[(b2, .cells #[.int .i64 y2.2.Code, .int .i64 y2.2.Index] 25 (0, 0))], [(b1, .cells #[.int .i64 y1.2.Code, .int .i64 y1.2.Index] 25 (0, 0))]] fr w := S
        refine wl_ev (wg F rfl rfl rfl rfl hc5) (ev_eqB tu4 rfl rfl) F S rfl rfl ?_; clear F a; intro a F
        refine wl_ev (wn rfl) (ev_pickT rfl hc5 rfl) F S rfl rfl ?_; clear F a; intro a F
        obtain rfl := Option.some.inj hm
        refine wpList_nil (then_n ?_); exact ⟨g5, F.sub ⟨rfl, trivial⟩, l5, S⟩
      · refine wl_skip rfl rfl rfl rfl (ne_tf hc5) F rfl rfl ?_; clear F a; intro a F
        refine wl_skip rfl rfl rfl rfl (ne_tf hc5) F rfl rfl ?_; clear F a; intro a F
        refine wl_skip rfl rfl rfl rfl (ne_tf hc5) F rfl rfl ?_; clear F a; intro a F
        refine wl_skip rfl rfl rfl rfl (ne_tf hc5) F rfl rfl ?_; clear F a; intro a F
        refine wl_skip rfl rfl rfl rfl (ne_tf hc5) F rfl rfl ?_; clear F a; intro a F
        refine wl_skip rfl rfl rfl rfl (ne_tf hc5) F rfl rfl ?_; clear F a; intro a F
        refine wl_ev (wn rfl) (ev_pickF rfl hc5 rfl) F S rfl rfl ?_; clear F a; intro a F
        obtain rfl := Option.some.inj hm
        refine wpList_nil (then_n ?_); exact ⟨g2, F.sub ⟨rfl, trivial⟩, (Le.refl _), S⟩
    clear F S; rintro a w ⟨g4, F, l4, S⟩
    refine wl_ev (wn rfl) (ev_move rfl) F S rfl rfl ?_; clear F a; intro a F
    obtain ⟨x5, hx5, hm⟩ := bind_some hm
    refine wl_cut 2 (fun a w => ∃ g6, Fr 52 a [(51, .bool x5)] ∧ Le g4 g6 ∧ St g6 [[(b2, .cells #[.int .i64 y2.2.Code, .int .i64 y2.2.Index] 25 (0, 0))], [(b1, .cells #[.int .i64 y1.2.Code, .int .i64 y1.2.Index] 25 (0, 0))]] fr w) ?_ ?_
    · clear hm; obtain ⟨hc6, hm⟩ | ⟨hc6, hm⟩ := ite_or hx5
      · obtain ⟨y5, hy5, hm⟩ := bind_some hm
        refine wl_call (wg F rfl rfl rfl rfl hc6) rfl (xs := []) (vs := []) (cap := []) F rfl rfl tc18 (changeforgelaw2_half_ok (g := g4) (fr := (fl [[(b2, .cells #[.int .i64 y2.2.Code, .int .i64 y2.2.Index] 25 (0, 0))], [(b1, .cells #[.int .i64 y1.2.Code, .int .i64 y1.2.Index] 25 (0, 0))]] fr)) (w := w)  S hy5) rfl rfl ?_; clear F a S
        rintro _ a w ⟨g7, l7, S, rfl⟩ F; replace S : St g7 [[(b2, .cells #[.int .i64 y2.2.Code, .int .i64 y2.2.Index] 25 (0, 0))], [(b1, .cells #[.int .i64 y1.2.Code, .int .i64 y1.2.Index] 25 (0, 0))]] fr w := S
        refine wl_ev (wn rfl) (ev_pickT rfl hc6 rfl) F S rfl rfl ?_; clear F a; intro a F
        obtain rfl := Option.some.inj hm
        refine wpList_nil (then_n ?_); exact ⟨g7, F.sub ⟨rfl, trivial⟩, l7, S⟩
      · refine wl_skip rfl rfl rfl rfl (ne_tf hc6) F rfl rfl ?_; clear F a; intro a F
        refine wl_ev (wn rfl) (ev_pickF rfl hc6 rfl) F S rfl rfl ?_; clear F a; intro a F
        obtain rfl := Option.some.inj hm
        refine wpList_nil (then_n ?_); exact ⟨g4, F.sub ⟨rfl, trivial⟩, (Le.refl _), S⟩
    clear F S; rintro a w ⟨g6, F, l6, S⟩
    refine wl_ev (wn rfl) (ev_assign rfl) F S rfl rfl ?_; clear F a; intro a F
    refine wpList_nil ?_
    replace F := F.sub (e' := [(4, .bool x5)]) ⟨rfl, trivial⟩
    refine then_n ?_
    refine wp_ret ?_
    obtain rfl := Option.some.inj hm
    refine post_r (fn := Try.f6) (rs := [.tmp 4]) [.bool x5] F rfl (ar_cons (resT rfl) ar_nil) ?_
    replace S : St g6 [] fr w := St.tail [] _ S
    exact ⟨_, rfl, g6, (((l1.trans l2).trans l4).trans l6), S, rfl⟩

theorem digest_is_ok {g : Gh} {fr : Hl} {w : World} {r : Bool} (a_ : Int) (S : St g [] fr w) (hm : digest_is a_ = some r) :
    Calls Try.prog 44 [.int .i64 a_].toArray w (fun en w' => ∃ v, en = .returned v ∧ ∃ (g' : Gh), Le g g' ∧ St g' [] fr w' ∧ .bool r = v) := by
  unfold digest_is at hm
  refine calls_enter (fn := Try.f44) Try.func44 rfl Try.ntmps44 (Nat.le_of_ble_eq_true rfl) ?_
  intro a F
  replace F : Fr 9 a [(0, .int .i64 a_)] := F
  refine wp_seq ?_
  refine wp_region_lit ?_
  refine wl_ev (wn rfl) (ev_assign rfl) F S rfl rfl ?_; clear F a; intro a F
  refine wpList_nil ?_
  replace F := F.sub (e' := [(0, .int .i64 a_)]) ⟨rfl, trivial⟩
  refine then_n ?_
  refine wp_seq ?_
  refine wp_region_lit ?_
  refine wl_ev (wn rfl) (ev_move rfl) F S rfl rfl ?_; clear F a; intro a F
  refine wl_ev (wn rfl) (ev_int rfl rfl (bo_geq _ _ _ _)) F S rfl rfl ?_; clear F a; intro a F
  refine wl_ev (wn rfl) (ev_move rfl) F S rfl rfl ?_; clear F a; intro a F
  obtain ⟨x1, hx1, hm⟩ := bind_some hm
  refine wl_cut 3 (fun a w' => w = w' ∧ Fr 9 a [(8, .bool x1)]) ?_ ?_
  · clear hm; obtain ⟨hc1, hm⟩ | ⟨hc1, hm⟩ := ite_or hx1
    · refine wl_ev (wg F rfl rfl rfl rfl hc1) (ev_move rfl) F S rfl rfl ?_; clear F a; intro a F
      refine wl_ev (wg F rfl rfl rfl rfl hc1) (ev_int rfl rfl (bo_lss _ _ _ _)) F S rfl rfl ?_; clear F a; intro a F
      refine wl_ev (wn rfl) (ev_pickT rfl hc1 rfl) F S rfl rfl ?_; clear F a; intro a F
      obtain rfl := Option.some.inj hm
      refine wpList_nil (then_n ?_); exact ⟨rfl, F.sub ⟨rfl, trivial⟩⟩
    · refine wl_skip rfl rfl rfl rfl (ne_tf hc1) F rfl rfl ?_; clear F a; intro a F
      refine wl_skip rfl rfl rfl rfl (ne_tf hc1) F rfl rfl ?_; clear F a; intro a F
      refine wl_ev (wn rfl) (ev_pickF rfl hc1 rfl) F S rfl rfl ?_; clear F a; intro a F
      obtain rfl := Option.some.inj hm
      refine wpList_nil (then_n ?_); exact ⟨rfl, F.sub ⟨rfl, trivial⟩⟩
  clear F; rintro a w' ⟨rfl, F⟩
  refine wl_ev (wn rfl) (ev_assign rfl) F S rfl rfl ?_; clear F a; intro a F
  refine wpList_nil ?_
  replace F := F.sub (e' := [(2, .bool x1)]) ⟨rfl, trivial⟩
  refine then_n ?_
  refine wp_ret ?_
  obtain rfl := Option.some.inj hm
  refine post_r (fn := Try.f44) (rs := [.tmp 2]) [.bool x1] F rfl (ar_cons (resT rfl) ar_nil) ?_
  exact ⟨_, rfl, g, (Le.refl _), S, rfl⟩

theorem textpatch_End_ok {g : Gh} {fr : Hl} {w : World} {r : Int} (h_ : Hunk) (vh_1 : Value) (hh_1 : RepSl g h_.Old vh_1) (vh_2 : Value) (hh_2 : RepSl g h_.New vh_2) (S : St g [] fr w) (hm : textpatch_End h_ = some r) :
    Calls Try.prog 47 [.agg #[.int .i64 h_.At, vh_1, vh_2]].toArray w (fun en w' => ∃ v, en = .returned v ∧ ∃ (g' : Gh), Le g g' ∧ St g' [] fr w' ∧ .int .i64 r = v) := by
  unfold textpatch_End at hm
  refine calls_enter (fn := Try.f47) Try.func47 rfl Try.ntmps47 (Nat.le_of_ble_eq_true rfl) ?_
  intro a F
  replace F : Fr 9 a [(0, .agg #[.int .i64 h_.At, vh_1, vh_2])] := F
  refine wp_seq ?_
  refine wp_region_lit ?_
  refine wl_boxC (wn rfl) rfl rfl rfl F S rfl rfl ?_; clear F a S; rintro b1 a w F S
  refine wl_ev (wn rfl) (ev_assign rfl) F S rfl rfl ?_; clear F a; intro a F
  refine wpList_nil ?_
  replace F := F.sub (e' := [(1, .pointer (some ⟨b1, 0, Option.none⟩))]) ⟨rfl, trivial⟩
  refine then_n ?_
  refine wp_seq ?_
  refine wp_region_lit ?_
  refine wl_ev (wn rfl) (ev_fieldAddr' tu44 tf44_0 (z := 0) ts3 rfl ⟨_, rfl⟩ rfl) F S rfl rfl ?_; clear F a; intro a F
  refine wl_ev (wn rfl) (ev_load1 tu3 rfl rfl (box_ptr (cells := [.int .i64 h_.At]) 0 rfl 0 rfl (Nat.le_of_ble_eq_true rfl))) F S rfl rfl ?_; clear F a; intro a F
  refine wl_ev (wn rfl) (ev_fieldAddr' tu44 tf44_1 (z := 0) ts31 rfl ⟨_, rfl⟩ rfl) F S rfl rfl ?_; clear F a; intro a F
  refine wl_ev (wn rfl) (ev_load1 tu31 rfl rfl (box_ptr (cells := [vh_1]) 0 rfl 1 rfl (Nat.le_of_ble_eq_true rfl))) F S rfl rfl ?_; clear F a; intro a F
  refine wl_ev (wn rfl) (ev_lenSh hh_1 rfl tu31) F S rfl rfl ?_; clear F a; intro a F
  obtain ⟨z1, hz1, hm⟩ := bind_some hm
  refine wl_ev (wn rfl) (ev_int rfl rfl (bo_add hz1)) F S rfl rfl ?_; clear F a; intro a F
  refine wl_ev (wn rfl) (ev_assign rfl) F S rfl rfl ?_; clear F a; intro a F
  refine wpList_nil ?_
  replace F := F.sub (e' := [(2, .int .i64 z1)]) ⟨rfl, trivial⟩
  refine then_n ?_
  refine wp_ret ?_
  obtain rfl := Option.some.inj hm
  refine post_r (fn := Try.f47) (rs := [.tmp 2]) [.int .i64 z1] F rfl (ar_cons (resT rfl) ar_nil) ?_
  replace S : St g [] fr w := St.tail [] _ S
  exact ⟨_, rfl, g, (Le.refl _), S, rfl⟩

theorem slices_Equal_ok {g : Gh} {fr : Hl} {w : World} {r : Bool} (s1_ : (List ByteArray)) (vs1_1 : Value) (hs1_1 : RepSl g s1_ vs1_1) (s2_ : (List ByteArray)) (vs2_1 : Value) (hs2_1 : RepSl g s2_ vs2_1) (S : St g [] fr w) (hm : slices_Equal s1_ s2_ = some r) :
    Calls Try.prog 48 [vs1_1, vs2_1].toArray w (fun en w' => ∃ v, en = .returned v ∧ ∃ (g' : Gh), Le g g' ∧ St g' [] fr w' ∧ .bool r = v) := by
  unfold slices_Equal at hm
  refine calls_enter (fn := Try.f48) Try.func48 rfl Try.ntmps48 (Nat.le_of_ble_eq_true rfl) ?_
  intro a F
  replace F : Fr 26 a [(0, vs1_1), (1, vs2_1)] := F
  refine wp_seq ?_
  refine wp_region_lit ?_
  refine wl_ev (wn rfl) (ev_assign rfl) F S rfl rfl ?_; clear F a; intro a F
  refine wpList_nil ?_
  replace F := F.sub (e' := [(0, vs1_1), (1, vs2_1)]) ⟨rfl, rfl, trivial⟩
  refine then_n ?_
  refine wp_seq ?_
  refine wp_seq ?_
  refine wp_region_lit ?_
  refine wl_ev (wn rfl) (ev_move rfl) F S rfl rfl ?_; clear F a; intro a F
  refine wl_ev (wn rfl) (ev_lenSh hs1_1 rfl tu31) F S rfl rfl ?_; clear F a; intro a F
  refine wl_ev (wn rfl) (ev_move rfl) F S rfl rfl ?_; clear F a; intro a F
  refine wl_ev (wn rfl) (ev_lenSh hs2_1 rfl tu31) F S rfl rfl ?_; clear F a; intro a F
  refine wl_ev (wn rfl) (ev_int rfl rfl (bo_neq _ _ _ _)) F S rfl rfl ?_; clear F a; intro a F
  refine wpList_nil ?_
  replace F := F.sub (e' := [(10, .bool (!decide ((s1_.length : Int) = (s2_.length : Int)))), (0, vs1_1), (1, vs2_1)]) ⟨rfl, rfl, rfl, trivial⟩
  refine then_n ?_
  obtain ⟨hc1, hm⟩ | ⟨hc1, hm⟩ := ite_or hm
  · refine wp_condT F rfl hc1 ?_
    refine wp_seq ?_
    refine wp_region_lit ?_
    refine wl_ev (wn rfl) (ev_assign rfl) F S rfl rfl ?_; clear F a; intro a F
    refine wpList_nil ?_
    replace F := F.sub (e' := [(4, .bool false)]) ⟨rfl, trivial⟩
    refine then_n ?_
    refine wp_ret ?_
    refine then_r ?_
    obtain rfl := Option.some.inj hm
    refine post_r (fn := Try.f48) (rs := [.tmp 4]) [.bool false] F rfl (ar_cons (resT rfl) ar_nil) ?_
    exact ⟨_, rfl, g, (Le.refl _), S, rfl⟩
  · refine wp_condF F rfl hc1 ?_
    refine wp_skip ?_
    refine then_n ?_
    refine wp_cut (fun a w => ∃ (g1 : Gh), Fr 26 a [] ∧ Le g g1 ∧ St g1 [] fr w ∧ slices_Equal.j1 = some r) ?_ ?_
    · refine wp_seq ?_
      refine wp_region_lit ?_
      refine wl_ev (wn rfl) (ev_move rfl) F S rfl rfl ?_; clear F a; intro a F
      refine wl_ev (wn rfl) (ev_lenSh hs1_1 rfl tu31) F S rfl rfl ?_; clear F a; intro a F
      refine wl_ev (wn rfl) (ev_move rfl) F S rfl rfl ?_; clear F a; intro a F
      refine wpList_nil ?_
      replace F := F.sub (e' := [(13, .int .i64 0), (12, .int .i64 (s1_.length : Int)), (0, vs1_1), (1, vs2_1)]) ⟨rfl, rfl, rfl, rfl, trivial⟩
      refine then_n ?_
      refine wp_block ?_
      obtain ⟨r1, hr1, hm⟩ := bind_some hm
      have hmo1 := hm; clear hm
      refine wp_iter (σ := Int) (ρ := Bool ⊕ Unit) (m := fun s => slices_Equal.l1 s1_ s2_ s) (I := fun x1 a w => ∃ (g2 : Gh), Fr 26 a [(13, .int .i64 x1), (12, .int .i64 (s1_.length : Int)), (0, vs1_1), (1, vs2_1)] ∧ Le g g2 ∧ St g2 [] fr w) hr1 ?_ ?_
      · exact ⟨g, F.sub ⟨rfl, rfl, rfl, rfl, trivial⟩, (Le.refl _), S⟩
      · clear F S; rintro x1 a w x2 ⟨g2, F, l2, S⟩ hx1 hfin1
        have hm : slices_Equal.l1 s1_ s2_ x1 = some x2 := hx1; clear hx1
        unfold slices_Equal.l1 at hm
        refine wp_seq ?_
        refine wp_region_lit ?_
        refine wl_ev (wn rfl) (ev_int rfl rfl (bo_lss _ _ _ _)) F S rfl rfl ?_; clear F a; intro a F
        refine wpList_nil ?_
        refine then_n ?_
        refine wp_seq ?_
        obtain ⟨hc2, hm⟩ | ⟨hc2, hm⟩ := ite_or hm
        · refine wp_condT F rfl hc2 ?_
          refine wp_skip ?_
          refine then_n ?_
          refine wp_seq ?_
          refine wp_block ?_
          refine wp_seq ?_
          refine wp_region_lit ?_
          refine wl_ev (wn rfl) (ev_move rfl) F S rfl rfl ?_; clear F a; intro a F
          refine wl_ev (wn rfl) (ev_assign rfl) F S rfl rfl ?_; clear F a; intro a F
          refine wpList_nil ?_
          replace F := F.sub (e' := [(5, .int .i64 x1), (13, .int .i64 x1), (12, .int .i64 (s1_.length : Int)), (0, vs1_1), (1, vs2_1)]) ⟨rfl, rfl, rfl, rfl, rfl, trivial⟩
          refine then_n ?_
          refine wp_seq ?_
          refine wp_quiet mo (by kernel_rfl) S ?_
          refine wq_ev (wn rfl) (ev_move rfl) F rfl rfl ?_; clear F a; intro a F
          refine wq_ev (wn rfl) (ev_move rfl) F rfl rfl ?_; clear F a; intro a F
          obtain ⟨y1, hy1, hm⟩ := bind_some hm
          obtain ⟨cs1, hr2, hp1⟩ := elemS (hs1_1.mono l2) hy1
          obtain rfl := rep_str hr2
          refine wq_ev (wn rfl) (ev_idxS (hs1_1.mono l2) hy1 tu31 ts9 rfl rfl) F rfl rfl ?_; clear F a; intro a F
          refine wq_ev (wn rfl) (ev_load1 tu9 rfl rfl (ptr_mono (cks := []) (fr := fr) hp1 (Le.refl _))) F rfl rfl ?_; clear F a; intro a F
          refine wq_ev (wn rfl) (ev_move rfl) F rfl rfl ?_; clear F a; intro a F
          refine wq_ev (wn rfl) (ev_move rfl) F rfl rfl ?_; clear F a; intro a F
          obtain ⟨y2, hy2, hm⟩ := bind_some hm
          obtain ⟨cs2, hr3, hp2⟩ := elemS (hs2_1.mono l2) hy2
          obtain rfl := rep_str hr3
          refine wq_ev (wn rfl) (ev_idxS (hs2_1.mono l2) hy2 tu31 ts9 rfl rfl) F rfl rfl ?_; clear F a; intro a F
          refine wq_ev (wn rfl) (ev_load1 tu9 rfl rfl (ptr_mono (cks := []) (fr := fr) hp2 (Le.refl _))) F rfl rfl ?_; clear F a; intro a F
          refine wq_ev (wn rfl) (ev_str rfl rfl (bs_neq _ _ _)) F rfl rfl ?_; clear F a; intro a F
          refine wq_nil ?_; clear S; intro w S
          replace F := F.sub (e' := [(24, .bool (!decide (y1 = y2))), (13, .int .i64 x1), (12, .int .i64 (s1_.length : Int)), (0, vs1_1), (1, vs2_1)]) ⟨rfl, rfl, rfl, rfl, rfl, trivial⟩
          refine then_n ?_
          obtain ⟨hc3, hm⟩ | ⟨hc3, hm⟩ := ite_or hm
          · refine wp_condT F rfl hc3 ?_
            refine wp_seq ?_
            refine wp_region_lit ?_
            refine wl_ev (wn rfl) (ev_assign rfl) F S rfl rfl ?_; clear F a; intro a F
            refine wpList_nil ?_
            replace F := F.sub (e' := [(4, .bool false)]) ⟨rfl, trivial⟩
            refine then_n ?_
            refine wp_ret ?_
            refine inb_r ?_
            refine then_r ?_
            refine then_r ?_
            refine inb_r ?_
            refine then_r ?_
            obtain rfl := Option.some.inj hm
            obtain rfl := hfin1 _ rfl
            clear hm
            have hm : (some false) = some _ := hmo1
            obtain rfl := Option.some.inj hm
            refine post_r (fn := Try.f48) (rs := [.tmp 4]) [.bool false] F rfl (ar_cons (resT rfl) ar_nil) ?_
            exact ⟨_, rfl, g2, l2, S, rfl⟩
          · refine wp_condF F rfl hc3 ?_
            refine wp_skip ?_
            refine inb_n ?_
            refine then_n ?_
            refine wp_region_lit ?_
            obtain ⟨z1, hz1, hm⟩ := bind_some hm
            refine wl_ev (wn rfl) (ev_int rfl rfl (bo_add hz1)) F S rfl rfl ?_; clear F a; intro a F
            refine wl_ev (wn rfl) (ev_move rfl) F S rfl rfl ?_; clear F a; intro a F
            refine wpList_nil ?_
            replace F := F.sub (e' := [(13, .int .i64 z1), (12, .int .i64 (s1_.length : Int)), (0, vs1_1), (1, vs2_1)]) ⟨rfl, rfl, rfl, rfl, trivial⟩
            refine then_n ?_
            obtain rfl := Option.some.inj hm
            refine ⟨_, rfl, ?_⟩
            exact ⟨g2, F.sub ⟨rfl, rfl, rfl, rfl, trivial⟩, l2, S⟩
        · refine wp_condF F rfl hc2 ?_
          refine wp_exit ?_
          refine then_e ?_
          refine then_e ?_
          refine inb_x ?_
          refine then_n ?_
          obtain rfl := Option.some.inj hm
          obtain rfl := hfin1 _ rfl
          clear hm
          have hm : (slices_Equal.j1) = some _ := hmo1
          exact ⟨g2, F.sub trivial, l2, S, hm⟩
    · clear F S hm; rintro a w ⟨g1, F, l1, S, hm⟩
      refine wp_seq ?_
      refine wp_region_lit ?_
      refine wl_ev (wn rfl) (ev_assign rfl) F S rfl rfl ?_; clear F a; intro a F
      refine wpList_nil ?_
      refine then_n ?_
      refine wp_ret ?_
      obtain rfl := Option.some.inj hm
      refine post_r (fn := Try.f48) (rs := [.tmp 4]) [.bool true] F rfl (ar_cons (resT rfl) ar_nil) ?_
      exact ⟨_, rfl, g1, l1, S, rfl⟩
end Go.Dc
