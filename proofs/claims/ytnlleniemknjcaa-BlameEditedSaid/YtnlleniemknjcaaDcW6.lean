/- Walks: each function comes to what its model says. -/
import Derived.Test.YtnlleniemknjcaaDcTab
import Derived.Test.YtnlleniemknjcaaDcM
import Derived.Test.YtnlleniemknjcaaDcW5
namespace Go.Dc
open Go Go.Proofs
set_option maxRecDepth 100000
set_option linter.unusedVariables false
theorem textpatch_Raw_ok {g : Gh} {fr : Hl} {w : World} {r : (List ByteArray)} (hunks : (List Hunk)) (vhunks1 : Value) (hhunks1 : RepSl g hunks vhunks1) (text : (List ByteArray)) (vtext1 : Value) (htext1 : RepSl g text vtext1) (low : Int) (high : Int) (S : St g [] fr w) (hm : textpatch_Raw hunks text low high = some r) :
    Calls Try.prog 38 [vhunks1, vtext1, .int .i64 low, .int .i64 high].toArray w (fun en w' => ∃ v, en = .returned v ∧ ∃ (g' : Gh) (v1 : Value), Le g g' ∧ St g' [] fr w' ∧ RepSl g' r v1 ∧ v1 = v) := by
  unfold textpatch_Raw at hm
  refine calls_enter (fn := Try.f38) Try.func38 rfl Try.ntmps38 (Nat.le_of_ble_eq_true rfl) ?_
  intro a F
  replace F : Fr 37 a [(0, vhunks1), (1, vtext1), (2, .int .i64 low), (3, .int .i64 high)] := F
  refine wp_seq ?_
  refine wp_region_lit ?_
  refine wl_ev (wn rfl) (ev_assign rfl) F S rfl rfl ?_; clear F a; intro a F
  refine wpList_nil ?_
  replace F := F.sub (e' := [(0, vhunks1), (1, vtext1), (2, .int .i64 low), (3, .int .i64 high)]) ⟨rfl, rfl, rfl, rfl, trivial⟩
  refine then_n ?_
  refine wp_seq ?_
  refine wp_region_lit ?_
  refine wl_ev (wn rfl) (ev_assign rfl) F S rfl rfl ?_; clear F a; intro a F
  refine wpList_nil ?_
  refine then_n ?_
  refine wp_cut (fun a w => ∃ (x1 : List ByteArray) (x2 : Int) (v1 : Value) (c1 : Hl) (g1 : Gh), Fr 37 a [(9, v1), (1, vtext1), (2, .int .i64 x2), (3, .int .i64 high)] ∧ Le g g1 ∧ St g1 [c1] fr w ∧ OwnS g1 x1 v1 c1 ∧ textpatch_Raw.j1 text high x1 x2 = some r) ?_ ?_
  · refine wp_seq ?_
    refine wp_region_lit ?_
    refine wl_ev (wn rfl) (ev_move rfl) F S rfl rfl ?_; clear F a; intro a F
    refine wl_ev (wn rfl) (ev_lenSh hhunks1 rfl tu38) F S rfl rfl ?_; clear F a; intro a F
    refine wl_ev (wn rfl) (ev_move rfl) F S rfl rfl ?_; clear F a; intro a F
    refine wpList_nil ?_
    replace F := F.sub (e' := [(14, .int .i64 0), (13, .int .i64 (hunks.length : Int)), (12, vhunks1), (9, .slice Option.none 0 0), (1, vtext1), (2, .int .i64 low), (3, .int .i64 high)]) ⟨rfl, rfl, rfl, rfl, rfl, rfl, rfl, trivial⟩
    refine then_n ?_
    refine wp_block ?_
    obtain ⟨r1, hr2, hm⟩ := bind_some hm
    have hmo1 := hm; clear hm
    refine wp_iter (σ := Int × (List ByteArray) × Int) (ρ := (List ByteArray) × Int) (m := fun s => textpatch_Raw.l1 hunks text s.1 s.2.1 s.2.2) (I := fun s a w => match s with | (x3, x4, x5) => ∃ (v4 : Value) (c3 : Hl) (g3 : Gh), Fr 37 a [(14, .int .i64 x3), (13, .int .i64 (hunks.length : Int)), (12, vhunks1), (9, v4), (1, vtext1), (2, .int .i64 x5), (3, .int .i64 high)] ∧ Le g g3 ∧ St g3 [c3] fr w ∧ OwnS g3 x4 v4 c3) hr2 ?_ ?_
    · dsimp only
      replace S : St g [[]] fr w := S
      exact ⟨(.slice Option.none 0 0), [], g, F.sub ⟨rfl, rfl, rfl, rfl, rfl, rfl, rfl, trivial⟩, (Le.refl _), S, (OwnS.nil _)⟩
    · clear F S; rintro ⟨x3, x4, x5⟩ a w x6 ⟨v4, c3, g3, F, l3, S, h5⟩ hx1 hfin1
      have hm : textpatch_Raw.l1 hunks text x3 x4 x5 = some x6 := hx1; clear hx1
      unfold textpatch_Raw.l1 at hm
      refine wp_seq ?_
      refine wp_region_lit ?_
      refine wl_ev (wn rfl) (ev_int rfl rfl (bo_lss _ _ _ _)) F S rfl rfl ?_; clear F a; intro a F
      refine wpList_nil ?_
      refine then_n ?_
      refine wp_seq ?_
      obtain ⟨hc1, hm⟩ | ⟨hc1, hm⟩ := ite_or hm
      · refine wp_condT F rfl hc1 ?_
        refine wp_skip ?_
        refine then_n ?_
        refine wp_seq ?_
        refine wp_block ?_
        refine wp_seq ?_
        refine wp_region_lit ?_
        obtain ⟨y3, hy3, hm⟩ := bind_some hm
        obtain ⟨cs2, hr3, hp1⟩ := elemS (hhunks1.mono l3) hy3
        obtain ⟨v5, v6, rfl, h6, h7⟩ := rep_Hunk hr3
        refine wl_ev (wn rfl) (ev_idxS (hhunks1.mono l3) hy3 tu38 ts44 rfl rfl) F S rfl rfl ?_; clear F a; intro a F
        refine wl_ev (wn rfl) (ev_loadA tu44 rfl (cs := [.int .i64 y3.At, v5, v6]) ts44 rfl (ptr_mono (cks := [c3]) (fr := fr) hp1 (Le.refl _))) F S rfl rfl ?_; clear F a; intro a F
        refine wl_alloc (wn rfl) rfl tz44 (cs := [.int .i64 0, .slice Option.none 0 0, .slice Option.none 0 0]) rfl F S rfl rfl ?_; clear F a S; rintro b1 a w F S
        refine wl_storeC (wn rfl) rfl F S rfl rfl (vs := [.int .i64 y3.At, v5, v6]) rfl ts44 (one_cons rfl (one_cons h6.one (one_cons h7.one one_nil))) (k := 0) rfl (Nat.le_of_ble_eq_true rfl) (c' := #[.int .i64 y3.At, v5, v6]) rfl rfl ?_; clear S; intro w S
        replace S : St g3 [[(b1, .cells #[.int .i64 y3.At, v5, v6] 44 (0, 0))], c3] fr w := S
        refine wpList_nil ?_
        replace F := F.sub (e' := [(11, .pointer (some ⟨b1, 0, Option.none⟩)), (14, .int .i64 x3), (13, .int .i64 (hunks.length : Int)), (12, vhunks1), (9, v4), (1, vtext1), (2, .int .i64 x5), (3, .int .i64 high)]) ⟨rfl, rfl, rfl, rfl, rfl, rfl, rfl, rfl, trivial⟩
        refine then_n ?_
        refine wp_seq ?_
        obtain ⟨y4, hy4, hm⟩ := bind_some hm
        obtain ⟨y5, hy5, hm⟩ := bind_some hm
        obtain ⟨y6, hy6, hm⟩ := bind_some hm
        refine wp_drawL ⟨2, [[18], [19], [20], [21], [22], [23], [24], [25], [26], [27], [9, 27]], [[], [], [], [], [], [], [12], [], [], [6], []], [[], [], [], [], [11], [], [], [], [11], [], []], [[9], [1], [2], [11], [], [], [], [11], [], [], []], [[], [], [], [], [3], [1, 2, 4], [0, 5], [], [7], [6, 8], [9]], [11, 14, 13, 12, 1, 3], [0, 1, 2, 3, 4, 5, 7, 8, 9, 10, 11]⟩
          [([18], fun us g c => us = [v4]),
           ([19], fun us g c => us = [vtext1]),
           ([20], fun us g c => us = [.int .i64 x5]),
           ([21], fun us g c => us = [.pointer (some ⟨b1, 0, Option.none⟩)]),
           ([22], fun us g c => us = [.int .i64 y3.At]),
           ([23], fun us g c => ∃ v7 : Value, us = [v7] ∧ RepSl g y4 v7),
           ([24], fun us g c => ∃ v8 : Value, us = [v8] ∧ OwnS g y5 v8 c),
           ([25], fun us g c => us = [.pointer (some ⟨b1, 2, Option.none⟩)]),
           ([26], fun us g c => us = [v6]),
           ([27], fun us g c => ∃ v9 : Value, us = [v9] ∧ OwnS g y6 v9 c),
           ([9, 27], fun us g c => ∃ v9 : Value, us = [v9, v9])]
          mo (by kernel_rfl) rfl rfl ⟨fun _ _ _ _ _ h => h, fun _ _ _ _ _ h => h, fun _ _ _ _ _ h => h, fun _ _ _ _ _ h => h, fun _ _ _ _ _ h => h, fun _ _ _ _ l ⟨x0, e0, h0⟩ => ⟨x0, e0, h0.mono l⟩, fun _ _ _ _ l ⟨x0, e0, h0⟩ => ⟨x0, e0, h0.mono l⟩, fun _ _ _ _ _ h => h, fun _ _ _ _ _ h => h, fun _ _ _ _ l ⟨x0, e0, h0⟩ => ⟨x0, e0, h0.mono l⟩, fun _ _ _ _ _ h => h, trivial⟩ F S ⟨?_, ?_, ?_, ?_, ?_, ?_, ?_, ?_, ?_, ?_, ?_, trivial⟩ ?_
        · intro a w gd1 c fr hsz hdf hK ld1 hN hI S
          have F : Fr 37 a [(9, v4)] := Fr.of hsz hdf ⟨hK 9 (by decide) _ rfl, trivial⟩
          replace S : St gd1 [] fr w := S.of_eq (flat2 _ _ _ _)
          refine wl_ev (wn rfl) (ev_move rfl) F S rfl rfl ?_; clear F; intro a F
          refine wpList_nil ⟨rfl, F.sz, F.df, _, [], (Le.refl _), ?_, (lst1 (F.get 18 _ rfl))⟩
          refine St0.of_eq ?_ (flat3 c [] [] fr).symm
          show St0 _ (fl ([] ++ []) fr) _
          exact S
        · intro a w gd1 c fr hsz hdf hK ld1 hN hI S
          have F : Fr 37 a [(1, vtext1)] := Fr.of hsz hdf ⟨hK 1 (by decide) _ rfl, trivial⟩
          replace S : St gd1 [] fr w := S.of_eq (flat2 _ _ _ _)
          refine wl_ev (wn rfl) (ev_move rfl) F S rfl rfl ?_; clear F; intro a F
          refine wpList_nil ⟨rfl, F.sz, F.df, _, [], (Le.refl _), ?_, (lst1 (F.get 19 _ rfl))⟩
          refine St0.of_eq ?_ (flat3 c [] [] fr).symm
          show St0 _ (fl ([] ++ []) fr) _
          exact S
        · intro a w gd1 c fr hsz hdf hK ld1 hN hI S
          have F : Fr 37 a [(2, .int .i64 x5)] := Fr.of hsz hdf ⟨hK 2 (by decide) _ rfl, trivial⟩
          replace S : St gd1 [] fr w := S.of_eq (flat2 _ _ _ _)
          refine wl_ev (wn rfl) (ev_move rfl) F S rfl rfl ?_; clear F; intro a F
          refine wpList_nil ⟨rfl, F.sz, F.df, _, [], (Le.refl _), ?_, (lst1 (F.get 20 _ rfl))⟩
          refine St0.of_eq ?_ (flat3 c [] [] fr).symm
          show St0 _ (fl ([] ++ []) fr) _
          exact S
        · intro a w gd1 c fr hsz hdf hK ld1 hN hI S
          have F : Fr 37 a [(11, .pointer (some ⟨b1, 0, Option.none⟩))] := Fr.of hsz hdf ⟨hK 11 (by decide) _ rfl, trivial⟩
          replace S : St gd1 [] fr w := S.of_eq (flat2 _ _ _ _)
          refine wl_ev (wn rfl) (ev_fieldAddr' tu44 tf44_0 (z := 0) ts3 rfl ⟨_, rfl⟩ rfl) F S rfl rfl ?_; clear F; intro a F
          refine wpList_nil ⟨rfl, F.sz, F.df, _, [], (Le.refl _), ?_, (lst1 (F.get 21 _ rfl))⟩
          refine St0.of_eq ?_ (flat3 c [] [] fr).symm
          show St0 _ (fl ([] ++ []) fr) _
          exact S
        · intro a w gd1 c fr hsz hdf hK ld1 hN hI S
          have e3 := hN 3 (by decide)
          have e21x : val a 21 = .pointer (some ⟨b1, 0, Option.none⟩) := nth e3 0
          have F : Fr 37 a [(21, .pointer (some ⟨b1, 0, Option.none⟩))] := Fr.of hsz hdf ⟨e21x, trivial⟩
          replace S : St gd1 [c 11] fr w := S.of_eq (flat2 _ _ _ _)
          have q11 : c 11 = [(b1, .cells #[.int .i64 y3.At, v5, v6] 44 (0, 0))] := hI 0 _ rfl
          rw [q11] at S
          refine wl_ev (wn rfl) (ev_load1 tu3 rfl rfl (box_ptr (cells := [.int .i64 y3.At]) 0 rfl 0 rfl (Nat.le_of_ble_eq_true rfl))) F S rfl rfl ?_; clear F; intro a F
          refine wpList_nil ⟨rfl, F.sz, F.df, _, [], (Le.refl _), ?_, (lst1 (F.get 22 _ rfl))⟩
          refine St0.of_eq ?_ (flat3 c [] [11] fr).symm
          show St0 _ (fl ([] ++ [c 11]) fr) _
          rw [q11]
          exact S
        · intro a w gd1 c fr hsz hdf hK ld1 hN hI S
          have e1 := hN 1 (by decide)
          have e19x : val a 19 = vtext1 := nth e1 0
          have e2 := hN 2 (by decide)
          have e20x : val a 20 = .int .i64 x5 := nth e2 0
          have e4 := hN 4 (by decide)
          have e22x : val a 22 = .int .i64 y3.At := nth e4 0
          have F : Fr 37 a [(19, vtext1), (20, .int .i64 x5), (22, .int .i64 y3.At)] := Fr.of hsz hdf ⟨e19x, e20x, e22x, trivial⟩
          replace S : St gd1 [] fr w := S.of_eq (flat2 _ _ _ _)
          refine wl_cutS (wn rfl) rfl (htext1.mono (l3.trans ld1)) hy4 tu31 ts9 rfl (bndV rfl) (bndV rfl) F rfl rfl ?_; clear F; rintro v7 h8 a F
          refine wpList_nil ⟨rfl, F.sz, F.df, _, [], (Le.refl _), ?_, ⟨v7, (lst1 (F.get 23 _ rfl)), h8⟩⟩
          refine St0.of_eq ?_ (flat3 c [] [] fr).symm
          show St0 _ (fl ([] ++ []) fr) _
          exact S
        · intro a w gd1 c fr hsz hdf hK ld1 hN hI S
          have e0 := hN 0 (by decide)
          have e18x : val a 18 = v4 := nth e0 0
          obtain ⟨v7, e5, lh1⟩ := hN 5 (by decide)
          have e23x : val a 23 = v7 := nth e5 0
          have F : Fr 37 a [(18, v4), (23, v7)] := Fr.of hsz hdf ⟨e18x, e23x, trivial⟩
          replace S : St gd1 [c 12] fr w := S.of_eq (flat2 _ _ _ _)
          have q12 : c 12 = c3 := hI 1 _ rfl
          rw [q12] at S
          obtain ⟨cs3, hk2, hr4⟩ := RepSl.reads lh1
          refine wl_append (wn rfl) rfl tu31 tu31 te9 (by decide) (by decide) F S rfl rfl (k := 0) rfl (h5.mono ld1) hk2 rfl (hr4 _ _ S) hy5 rfl rfl ?_; clear F S
          rintro v8 c4 a w h9 S F; replace S : St gd1 [c4] fr w := S
          refine wpList_nil ⟨rfl, F.sz, F.df, _, c4, (Le.refl _), ?_, ⟨v8, (lst1 (F.get 24 _ rfl)), h9⟩⟩
          refine St0.of_eq ?_ (flat3s c (c4) [] fr).symm
          show St0 _ (fl ([c4] ++ []) fr) _
          exact S
        · intro a w gd1 c fr hsz hdf hK ld1 hN hI S
          have F : Fr 37 a [(11, .pointer (some ⟨b1, 0, Option.none⟩))] := Fr.of hsz hdf ⟨hK 11 (by decide) _ rfl, trivial⟩
          replace S : St gd1 [] fr w := S.of_eq (flat2 _ _ _ _)
          refine wl_ev (wn rfl) (ev_fieldAddr' tu44 tf44_2 (z := 0) ts31 rfl ⟨_, rfl⟩ rfl) F S rfl rfl ?_; clear F; intro a F
          refine wpList_nil ⟨rfl, F.sz, F.df, _, [], (Le.refl _), ?_, (lst1 (F.get 25 _ rfl))⟩
          refine St0.of_eq ?_ (flat3 c [] [] fr).symm
          show St0 _ (fl ([] ++ []) fr) _
          exact S
        · intro a w gd1 c fr hsz hdf hK ld1 hN hI S
          have e7 := hN 7 (by decide)
          have e25x : val a 25 = .pointer (some ⟨b1, 2, Option.none⟩) := nth e7 0
          have F : Fr 37 a [(25, .pointer (some ⟨b1, 2, Option.none⟩))] := Fr.of hsz hdf ⟨e25x, trivial⟩
          replace S : St gd1 [c 11] fr w := S.of_eq (flat2 _ _ _ _)
          have q11 : c 11 = [(b1, .cells #[.int .i64 y3.At, v5, v6] 44 (0, 0))] := hI 0 _ rfl
          rw [q11] at S
          refine wl_ev (wn rfl) (ev_load1 tu31 rfl rfl (box_ptr (cells := [v6]) 0 rfl 2 rfl (Nat.le_of_ble_eq_true rfl))) F S rfl rfl ?_; clear F; intro a F
          refine wpList_nil ⟨rfl, F.sz, F.df, _, [], (Le.refl _), ?_, (lst1 (F.get 26 _ rfl))⟩
          refine St0.of_eq ?_ (flat3 c [] [11] fr).symm
          show St0 _ (fl ([] ++ [c 11]) fr) _
          rw [q11]
          exact S
        · intro a w gd1 c fr hsz hdf hK ld1 hN hI S
          obtain ⟨v8, e6, lh1⟩ := hN 6 (by decide)
          have e24x : val a 24 = v8 := nth e6 0
          have e8 := hN 8 (by decide)
          have e26x : val a 26 = v6 := nth e8 0
          have F : Fr 37 a [(24, v8), (26, v6)] := Fr.of hsz hdf ⟨e24x, e26x, trivial⟩
          replace S : St gd1 [c 6] fr w := S.of_eq (flat2 _ _ _ _)
          obtain ⟨cs4, hk3, hr5⟩ := RepSl.reads (h7.mono ld1)
          refine wl_append (wn rfl) rfl tu31 tu31 te9 (by decide) (by decide) F S rfl rfl (k := 0) rfl lh1 hk3 rfl (hr5 _ _ S) hy6 rfl rfl ?_; clear F S
          rintro v9 c5 a w h10 S F; replace S : St gd1 [c5] fr w := S
          refine wpList_nil ⟨rfl, F.sz, F.df, _, c5, (Le.refl _), ?_, ⟨v9, (lst1 (F.get 27 _ rfl)), h10⟩⟩
          refine St0.of_eq ?_ (flat3s c (c5) [] fr).symm
          show St0 _ (fl ([c5] ++ []) fr) _
          exact S
        · intro a w gd1 c fr hsz hdf hK ld1 hN hI S
          obtain ⟨v9, e9, lh1⟩ := hN 9 (by decide)
          have e27x : val a 27 = v9 := nth e9 0
          have F : Fr 37 a [(27, v9)] := Fr.of hsz hdf ⟨e27x, trivial⟩
          replace S : St gd1 [] fr w := S.of_eq (flat2 _ _ _ _)
          refine wl_ev (wn rfl) (ev_assign rfl) F S rfl rfl ?_; clear F; intro a F
          refine wpList_nil ⟨rfl, F.sz, F.df, _, [], (Le.refl _), ?_, ⟨v9, (lst2 (F.get 9 _ rfl) (F.get 27 _ rfl))⟩⟩
          refine St0.of_eq ?_ (flat3 c [] [] fr).symm
          show St0 _ (fl ([] ++ []) fr) _
          exact S
        clear F S; intro a w gd1 c hsz hdf hK ld1 hI S hN
        obtain ⟨v9, e9, lh1⟩ := hN 9 (by decide)
        have e27x : val a 27 = v9 := nth e9 0
        obtain ⟨dup1, e10⟩ := hN 10 (by decide)
        obtain rfl : v9 = dup1 := by have := e27x.symm.trans (nth e10 1); simpa using this
        have e9x : val a 9 = v9 := nth e10 0
        have F : Fr 37 a [(11, .pointer (some ⟨b1, 0, Option.none⟩)), (14, .int .i64 x3), (13, .int .i64 (hunks.length : Int)), (12, vhunks1), (1, vtext1), (3, .int .i64 high), (9, v9)] := Fr.of hsz hdf ⟨hK 11 (by decide) _ rfl, hK 14 (by decide) _ rfl, hK 13 (by decide) _ rfl, hK 12 (by decide) _ rfl, hK 1 (by decide) _ rfl, hK 3 (by decide) _ rfl, e9x, trivial⟩
        replace S : St gd1 [c 0, c 1, c 2, c 3, c 4, c 5, c 7, c 8, c 9, c 10, c 11] fr w := S.of_eq (flat_fl _ _ _)
        generalize c 9 = c5 at *
        have q11 : c 11 = [(b1, .cells #[.int .i64 y3.At, v5, v6] 44 (0, 0))] := hI 0 _ rfl
        rw [q11] at S
        replace S : St gd1 [c5, [(b1, .cells #[.int .i64 y3.At, v5, v6] 44 (0, 0))]] fr w := St.tail [c5, [(b1, .cells #[.int .i64 y3.At, v5, v6] 44 (0, 0))]] _ ((S.frontC 10 rfl).frontC 9 rfl)
        clear hK hI hN hsz hdf e9 e10 e27x e9x
        refine then_n ?_
        refine wp_region_lit ?_
        refine wl_ev (wn rfl) (ev_loadA tu44 rfl (cs := [.int .i64 y3.At, v5, v6]) ts44 rfl (box_ptr (cells := [.int .i64 y3.At, v5, v6]) 1 rfl 0 rfl (Nat.le_of_ble_eq_true rfl))) F S rfl rfl ?_; clear F a; intro a F
        obtain ⟨y7, hy7, hm⟩ := bind_some hm
        refine wl_call (wn rfl) rfl (xs := [.tmp 28]) (vs := [.agg #[.int .i64 y3.At, v5, v6]]) (cap := []) F rfl rfl tc47 (textpatch_End_ok (g := gd1) (fr := (fl [c5, [(b1, .cells #[.int .i64 y3.At, v5, v6] 44 (0, 0))]] fr)) (w := w) y3 v5 (h6.mono ld1) v6 (h7.mono ld1) S hy7) rfl rfl ?_; clear F a S
        rintro _ a w ⟨g4, l4, S, rfl⟩ F; replace S : St g4 [c5, [(b1, .cells #[.int .i64 y3.At, v5, v6] 44 (0, 0))]] fr w := S
        refine wl_ev (wn rfl) (ev_assign rfl) F S rfl rfl ?_; clear F a; intro a F
        refine wpList_nil ?_
        replace F := F.sub (e' := [(2, .int .i64 y7), (14, .int .i64 x3), (13, .int .i64 (hunks.length : Int)), (12, vhunks1), (1, vtext1), (3, .int .i64 high), (9, v9)]) ⟨rfl, rfl, rfl, rfl, rfl, rfl, rfl, trivial⟩
        refine inb_n ?_
        refine then_n ?_
        refine wp_region_lit ?_
        obtain ⟨z1, hz1, hm⟩ := bind_some hm
        refine wl_ev (wn rfl) (ev_int rfl rfl (bo_add hz1)) F S rfl rfl ?_; clear F a; intro a F
        refine wl_ev (wn rfl) (ev_move rfl) F S rfl rfl ?_; clear F a; intro a F
        refine wpList_nil ?_
        replace F := F.sub (e' := [(14, .int .i64 z1), (2, .int .i64 y7), (13, .int .i64 (hunks.length : Int)), (12, vhunks1), (1, vtext1), (3, .int .i64 high), (9, v9)]) ⟨rfl, rfl, rfl, rfl, rfl, rfl, rfl, trivial⟩
        refine then_n ?_
        obtain rfl := Option.some.inj hm
        refine ⟨_, rfl, ?_⟩
        dsimp only
        replace S : St g4 [c5] fr w := St.tail [c5] _ (S.frontC 0 rfl)
        exact ⟨v9, c5, g4, F.sub ⟨rfl, rfl, rfl, rfl, rfl, rfl, rfl, trivial⟩, ((l3.trans ld1).trans l4), S, (lh1.mono l4)⟩
      · refine wp_condF F rfl hc1 ?_
        refine wp_exit ?_
        refine then_e ?_
        refine then_e ?_
        refine inb_x ?_
        refine then_n ?_
        obtain rfl := Option.some.inj hm
        obtain rfl := hfin1 _ rfl
        clear hm
        have hm : (textpatch_Raw.j1 text high x4 x5 : Option (List ByteArray)) = some _ := hmo1
        exact ⟨x4, x5, v4, c3, g3, F.sub ⟨rfl, rfl, rfl, rfl, trivial⟩, l3, S, h5, hm⟩
  · clear F S hm; rintro a w ⟨x1, x2, v1, c1, g1, F, l1, S, h1, hm⟩
    refine wp_seq ?_
    refine wp_region_lit ?_
    refine wl_ev (wn rfl) (ev_move rfl) F S rfl rfl ?_; clear F a; intro a F
    refine wl_ev (wn rfl) (ev_move rfl) F S rfl rfl ?_; clear F a; intro a F
    refine wl_ev (wn rfl) (ev_move rfl) F S rfl rfl ?_; clear F a; intro a F
    refine wl_ev (wn rfl) (ev_move rfl) F S rfl rfl ?_; clear F a; intro a F
    obtain ⟨y1, hy1, hm⟩ := bind_some hm
    refine wl_cutS (wn rfl) rfl (htext1.mono l1) hy1 tu31 ts9 rfl (bndV rfl) (bndV rfl) F rfl rfl ?_; clear F a; rintro v2 h2 a F
    obtain ⟨cs1, hk1, hr1⟩ := RepSl.reads h2
    obtain ⟨y2, hy2, hm⟩ := bind_some hm
    refine wl_append (wn rfl) rfl tu31 tu31 te9 (by decide) (by decide) F S rfl rfl (k := 0) rfl h1 hk1 rfl (hr1 _ _ S) hy2 rfl rfl ?_; clear F a S
    rintro v3 c2 a w h3 S F; replace S : St g1 [c2] fr w := S
    refine wl_ev (wn rfl) (ev_assign rfl) F S rfl rfl ?_; clear F a; intro a F
    refine wpList_nil ?_
    replace F := F.sub (e' := [(8, v3)]) ⟨rfl, trivial⟩
    refine then_n ?_
    refine wp_ret ?_
    obtain rfl := Option.some.inj hm
    obtain ⟨g2, l2, S, h4⟩ : ∃ gz, Le g1 gz ∧ St gz [] fr w ∧ RepSl gz y2 v3 := ⟨_, Le.add _ _, S.freeze 0 rfl, OwnS.freeze (S.front 0 rfl) h3⟩
    refine post_r (fn := Try.f38) (rs := [.tmp 8]) [v3] F rfl (ar_cons (resT rfl) ar_nil) ?_
    exact ⟨_, rfl, g2, v3, (l1.trans l2), S, h4, rfl⟩

theorem textpatch_Apply_ok {g : Gh} {fr : Hl} {w : World} {r : (List ByteArray) × Fault} (p_ : Patch) (vp_1 : Value) (hp_1 : RepSl g p_.Hunks vp_1) (text : (List ByteArray)) (vtext1 : Value) (htext1 : RepSl g text vtext1) (S : St g [] fr w) (hm : textpatch_Apply p_ text = some r) :
    Calls Try.prog 22 [.agg #[vp_1], vtext1].toArray w (fun en w' => ∃ v, en = .returned v ∧ ∃ (g' : Gh) (v1 : Value), Le g g' ∧ St g' [] fr w' ∧ RepSl g' r.1 v1 ∧ .tuple #[v1, .agg #[.int .i64 r.2.Code, .int .i64 r.2.Index]] = v) := by
  unfold textpatch_Apply at hm
  refine calls_enter (fn := Try.f22) Try.func22 rfl Try.ntmps22 (Nat.le_of_ble_eq_true rfl) ?_
  intro a F
  replace F : Fr 53 a [(0, .agg #[vp_1]), (1, vtext1)] := F
  refine wp_seq ?_
  refine wp_region_lit ?_
  refine wl_boxC (wn rfl) rfl rfl rfl F S rfl rfl ?_; clear F a S; rintro b1 a w F S
  refine wl_ev (wn rfl) (ev_assign rfl) F S rfl rfl ?_; clear F a; intro a F
  refine wl_alloc (wn rfl) rfl tz25 (cs := [.int .i64 0, .int .i64 0]) rfl F S rfl rfl ?_; clear F a S; rintro b2 a w F S
  refine wpList_nil ?_
  replace F := F.sub (e' := [(5, .pointer (some ⟨b2, 0, Option.none⟩)), (2, .pointer (some ⟨b1, 0, Option.none⟩)), (1, vtext1)]) ⟨rfl, rfl, rfl, trivial⟩
  refine then_n ?_
  refine wp_seq ?_
  refine wp_seq ?_
  refine wp_region_lit ?_
  refine wl_ev (wn rfl) (ev_loadA tu40 rfl (cs := [vp_1]) ts40 rfl (box_ptr (cells := [vp_1]) 1 rfl 0 rfl (Nat.le_of_ble_eq_true rfl))) F S rfl rfl ?_; clear F a; intro a F
  obtain ⟨y1, hy1, hm⟩ := bind_some hm
  refine wl_call (wn rfl) rfl (xs := [.tmp 11]) (vs := [.agg #[vp_1]]) (cap := []) F rfl rfl tc36 (textpatch_Validate_ok (g := g) (fr := (fl [[(b2, .cells #[.int .i64 0, .int .i64 0] 25 (0, 0))], [(b1, .cells #[vp_1] 40 (0, 0))]] fr)) (w := w) p_ vp_1 hp_1 S hy1) rfl rfl ?_; clear F a S
  rintro _ a w ⟨g1, l1, S, rfl⟩ F; replace S : St g1 [[(b2, .cells #[.int .i64 0, .int .i64 0] 25 (0, 0))], [(b1, .cells #[vp_1] 40 (0, 0))]] fr w := S
  refine wl_alloc (wn rfl) rfl tz25 (cs := [.int .i64 0, .int .i64 0]) rfl F S rfl rfl ?_; clear F a S; rintro b3 a w F S
  refine wl_storeC (wn rfl) rfl F S rfl rfl (vs := [.int .i64 y1.Code, .int .i64 y1.Index]) rfl ts25 (one_cons rfl (one_cons rfl one_nil)) (k := 0) rfl (Nat.le_of_ble_eq_true rfl) (c' := #[.int .i64 y1.Code, .int .i64 y1.Index]) rfl rfl ?_; clear S; intro w S
  replace S : St g1 [[(b3, .cells #[.int .i64 y1.Code, .int .i64 y1.Index] 25 (0, 0))], [(b2, .cells #[.int .i64 0, .int .i64 0] 25 (0, 0))], [(b1, .cells #[vp_1] 40 (0, 0))]] fr w := S
  refine wpList_nil ?_
  replace F := F.sub (e' := [(6, .pointer (some ⟨b3, 0, Option.none⟩)), (5, .pointer (some ⟨b2, 0, Option.none⟩)), (2, .pointer (some ⟨b1, 0, Option.none⟩)), (1, vtext1)]) ⟨rfl, rfl, rfl, rfl, trivial⟩
  refine then_n ?_
  refine wp_seq ?_
  refine wp_region_lit ?_
  refine wl_ev (wn rfl) (ev_loadA tu25 rfl (cs := [.int .i64 y1.Code, .int .i64 y1.Index]) ts25 rfl (box_ptr (cells := [.int .i64 y1.Code, .int .i64 y1.Index]) 0 rfl 0 rfl (Nat.le_of_ble_eq_true rfl))) F S rfl rfl ?_; clear F a; intro a F
  refine wl_ev (wn rfl) (ev_build (parts := []) (vs := []) rfl (fun w => tb25_  w)) F S rfl rfl ?_; clear F a; intro a F
  refine wl_ev (wn rfl) (ev_neS tu25 tqa25 tqb25 tqc25 (xs := [.int .i64 y1.Code, .int .i64 y1.Index]) (ys := [.int .i64 0, .int .i64 0]) rfl rfl ⟨_, _, rfl, by decide, ⟨_, _, rfl, rfl, leaf_int tu3⟩, ⟨_, _, rfl, by decide, ⟨_, _, rfl, rfl, leaf_int tu3⟩, rfl⟩⟩) F S rfl rfl ?_; clear F a; intro a F
  refine wpList_nil ?_
  replace F := F.sub (e' := [(15, .bool (!(decide (y1.Code = 0) && decide (y1.Index = 0)))), (6, .pointer (some ⟨b3, 0, Option.none⟩)), (5, .pointer (some ⟨b2, 0, Option.none⟩)), (2, .pointer (some ⟨b1, 0, Option.none⟩)), (1, vtext1)]) ⟨rfl, rfl, rfl, rfl, rfl, trivial⟩
  refine then_n ?_
  obtain ⟨hc1, hm⟩ | ⟨hc1, hm⟩ := ite_or hm
  · refine wp_condT F rfl hc1 ?_
    refine wp_seq ?_
    refine wp_drawL ⟨3, [[16], [4], []], [[], [], [4]], [[3], [], []], [[6], [], [5]], [[], [], [0]], [5], [0, 1, 2, 3, 5]⟩
      [([16], fun us g c => us = [.agg #[.int .i64 y1.Code, .int .i64 y1.Index]]),
       ([4], fun us g c => us = [.slice Option.none 0 0]),
       ([], fun us g c => us = [] ∧ c = [(b2, .cells #[.int .i64 y1.Code, .int .i64 y1.Index] 25 (0, 0))])]
      mo (by kernel_rfl) rfl rfl ⟨fun _ _ _ _ _ h => h, fun _ _ _ _ _ h => h, fun _ _ _ _ _ h => h, trivial⟩ F S ⟨?_, ?_, ?_, trivial⟩ ?_
    · intro a w gd1 c fr hsz hdf hK ld1 hN hI S
      have F : Fr 53 a [(6, .pointer (some ⟨b3, 0, Option.none⟩))] := Fr.of hsz hdf ⟨hK 6 (by decide) _ rfl, trivial⟩
      replace S : St gd1 [c 3] fr w := S.of_eq (flat2 _ _ _ _)
      have q3 : c 3 = [(b3, .cells #[.int .i64 y1.Code, .int .i64 y1.Index] 25 (0, 0))] := hI 0 _ rfl
      rw [q3] at S
      refine wl_ev (wn rfl) (ev_loadA tu25 rfl (cs := [.int .i64 y1.Code, .int .i64 y1.Index]) ts25 rfl (box_ptr (cells := [.int .i64 y1.Code, .int .i64 y1.Index]) 0 rfl 0 rfl (Nat.le_of_ble_eq_true rfl))) F S rfl rfl ?_; clear F; intro a F
      refine wpList_nil ⟨rfl, F.sz, F.df, _, [], (Le.refl _), ?_, (lst1 (F.get 16 _ rfl))⟩
      refine St0.of_eq ?_ (flat3 c [] [3] fr).symm
      show St0 _ (fl ([] ++ [c 3]) fr) _
      rw [q3]
      exact S
    · intro a w gd1 c fr hsz hdf hK ld1 hN hI S
      have F : Fr 53 a [] := Fr.of hsz hdf trivial
      replace S : St gd1 [] fr w := S.of_eq (flat2 _ _ _ _)
      refine wl_ev (wn rfl) (ev_assign rfl) F S rfl rfl ?_; clear F; intro a F
      refine wpList_nil ⟨rfl, F.sz, F.df, _, [], (Le.refl _), ?_, (lst1 (F.get 4 _ rfl))⟩
      refine St0.of_eq ?_ (flat3 c [] [] fr).symm
      show St0 _ (fl ([] ++ []) fr) _
      exact S
    · intro a w gd1 c fr hsz hdf hK ld1 hN hI S
      have e0 := hN 0 (by decide)
      have e16x : val a 16 = .agg #[.int .i64 y1.Code, .int .i64 y1.Index] := nth e0 0
      have F : Fr 53 a [(5, .pointer (some ⟨b2, 0, Option.none⟩)), (16, .agg #[.int .i64 y1.Code, .int .i64 y1.Index])] := Fr.of hsz hdf ⟨hK 5 (by decide) _ rfl, e16x, trivial⟩
      replace S : St gd1 [c 4] fr w := S.of_eq (flat2 _ _ _ _)
      have q4 : c 4 = [(b2, .cells #[.int .i64 0, .int .i64 0] 25 (0, 0))] := hI 1 _ rfl
      rw [q4] at S
      refine wl_storeC (wn rfl) rfl F S rfl rfl (vs := [.int .i64 y1.Code, .int .i64 y1.Index]) rfl ts25 (one_cons rfl (one_cons rfl one_nil)) (k := 0) rfl (Nat.le_of_ble_eq_true rfl) (c' := #[.int .i64 y1.Code, .int .i64 y1.Index]) rfl rfl ?_; clear S; intro w S
      replace S : St gd1 [[(b2, .cells #[.int .i64 y1.Code, .int .i64 y1.Index] 25 (0, 0))]] fr w := S
      refine wpList_nil ⟨rfl, F.sz, F.df, _, [(b2, .cells #[.int .i64 y1.Code, .int .i64 y1.Index] 25 (0, 0))], (Le.refl _), ?_, ⟨rfl, rfl⟩⟩
      refine St0.of_eq ?_ (flat3s c ([(b2, .cells #[.int .i64 y1.Code, .int .i64 y1.Index] 25 (0, 0))]) [] fr).symm
      show St0 _ (fl ([[(b2, .cells #[.int .i64 y1.Code, .int .i64 y1.Index] 25 (0, 0))]] ++ []) fr) _
      exact S
    clear F S; intro a w gd1 c hsz hdf hK ld1 hI S hN
    have e1 := hN 1 (by decide)
    have e4x : val a 4 = .slice Option.none 0 0 := nth e1 0
    obtain ⟨e2, q2⟩ := hN 2 (by decide)
    have F : Fr 53 a [(5, .pointer (some ⟨b2, 0, Option.none⟩)), (4, .slice Option.none 0 0)] := Fr.of hsz hdf ⟨hK 5 (by decide) _ rfl, e4x, trivial⟩
    replace S : St gd1 [c 0, c 1, c 2, c 3, c 5] fr w := S.of_eq (flat_fl _ _ _)
    rw [q2] at S
    have q3 : c 3 = [(b3, .cells #[.int .i64 y1.Code, .int .i64 y1.Index] 25 (0, 0))] := hI 0 _ rfl
    rw [q3] at S
    have q5 : c 5 = [(b1, .cells #[vp_1] 40 (0, 0))] := hI 2 _ rfl
    rw [q5] at S
    replace S : St gd1 [[(b2, .cells #[.int .i64 y1.Code, .int .i64 y1.Index] 25 (0, 0))]] fr w := St.tail [[(b2, .cells #[.int .i64 y1.Code, .int .i64 y1.Index] 25 (0, 0))]] _ (S.frontC 2 rfl)
    clear hK hI hN hsz hdf e1 e2 e4x
    refine then_n ?_
    refine wp_ret ?_
    refine then_r ?_
    obtain rfl := Option.some.inj hm
    refine post_r (fn := Try.f22) (rs := [.tmp 4, .cell 5 25]) [.slice Option.none 0 0, .agg #[.int .i64 y1.Code, .int .i64 y1.Index]] F rfl (ar_cons (resT rfl) (ar_cons (resA rfl tu25 rfl ts25 (box_ptr (cells := [.int .i64 y1.Code, .int .i64 y1.Index]) 0 rfl 0 rfl (Nat.le_of_ble_eq_true rfl) w S)) ar_nil)) ?_
    replace S : St gd1 [] fr w := St.tail [] _ S
    exact ⟨_, rfl, gd1, (.slice Option.none 0 0), (l1.trans ld1), S, (RepSl.nil _), rfl⟩
  · refine wp_condF F rfl hc1 ?_
    refine wp_skip ?_
    refine then_n ?_
    refine wp_seq ?_
    refine wp_seq ?_
    refine wp_region_lit ?_
    refine wl_ev (wn rfl) (ev_move rfl) F S rfl rfl ?_; clear F a; intro a F
    obtain ⟨y2, hy2, hm⟩ := bind_some hm
    refine wl_call (wn rfl) rfl (xs := [.tmp 17, .const (.int .i64 (-2))]) (vs := [vtext1, .int .i64 (-2)]) (cap := []) F rfl rfl tc23 (lines_Second_ok (g := g1) (fr := (fl [[(b3, .cells #[.int .i64 y1.Code, .int .i64 y1.Index] 25 (0, 0))], [(b2, .cells #[.int .i64 0, .int .i64 0] 25 (0, 0))], [(b1, .cells #[vp_1] 40 (0, 0))]] fr)) (w := w) text vtext1 (htext1.mono l1) (-2) S hy2) rfl rfl ?_; clear F a S
    rintro _ a w ⟨g2, l2, S, rfl⟩ F; replace S : St g2 [[(b3, .cells #[.int .i64 y1.Code, .int .i64 y1.Index] 25 (0, 0))], [(b2, .cells #[.int .i64 0, .int .i64 0] 25 (0, 0))], [(b1, .cells #[vp_1] 40 (0, 0))]] fr w := S
    refine wl_alloc (wn rfl) rfl tz25 (cs := [.int .i64 0, .int .i64 0]) rfl F S rfl rfl ?_; clear F a S; rintro b4 a w F S
    refine wl_storeC (wn rfl) rfl F S rfl rfl (vs := [.int .i64 y2.Code, .int .i64 y2.Index]) rfl ts25 (one_cons rfl (one_cons rfl one_nil)) (k := 0) rfl (Nat.le_of_ble_eq_true rfl) (c' := #[.int .i64 y2.Code, .int .i64 y2.Index]) rfl rfl ?_; clear S; intro w S
    replace S : St g2 [[(b4, .cells #[.int .i64 y2.Code, .int .i64 y2.Index] 25 (0, 0))], [(b3, .cells #[.int .i64 y1.Code, .int .i64 y1.Index] 25 (0, 0))], [(b2, .cells #[.int .i64 0, .int .i64 0] 25 (0, 0))], [(b1, .cells #[vp_1] 40 (0, 0))]] fr w := S
    refine wpList_nil ?_
    replace F := F.sub (e' := [(7, .pointer (some ⟨b4, 0, Option.none⟩)), (5, .pointer (some ⟨b2, 0, Option.none⟩)), (2, .pointer (some ⟨b1, 0, Option.none⟩)), (1, vtext1)]) ⟨rfl, rfl, rfl, rfl, trivial⟩
    refine then_n ?_
    refine wp_seq ?_
    refine wp_region_lit ?_
    refine wl_ev (wn rfl) (ev_loadA tu25 rfl (cs := [.int .i64 y2.Code, .int .i64 y2.Index]) ts25 rfl (box_ptr (cells := [.int .i64 y2.Code, .int .i64 y2.Index]) 0 rfl 0 rfl (Nat.le_of_ble_eq_true rfl))) F S rfl rfl ?_; clear F a; intro a F
    refine wl_ev (wn rfl) (ev_build (parts := []) (vs := []) rfl (fun w => tb25_  w)) F S rfl rfl ?_; clear F a; intro a F
    refine wl_ev (wn rfl) (ev_neS tu25 tqa25 tqb25 tqc25 (xs := [.int .i64 y2.Code, .int .i64 y2.Index]) (ys := [.int .i64 0, .int .i64 0]) rfl rfl ⟨_, _, rfl, by decide, ⟨_, _, rfl, rfl, leaf_int tu3⟩, ⟨_, _, rfl, by decide, ⟨_, _, rfl, rfl, leaf_int tu3⟩, rfl⟩⟩) F S rfl rfl ?_; clear F a; intro a F
    refine wpList_nil ?_
    replace F := F.sub (e' := [(21, .bool (!(decide (y2.Code = 0) && decide (y2.Index = 0)))), (7, .pointer (some ⟨b4, 0, Option.none⟩)), (5, .pointer (some ⟨b2, 0, Option.none⟩)), (2, .pointer (some ⟨b1, 0, Option.none⟩)), (1, vtext1)]) ⟨rfl, rfl, rfl, rfl, rfl, trivial⟩
    refine then_n ?_
    obtain ⟨hc2, hm⟩ | ⟨hc2, hm⟩ := ite_or hm
    · refine wp_condT F rfl hc2 ?_
      refine wp_seq ?_
      refine wp_drawL ⟨4, [[22], [4], []], [[], [], [5]], [[3], [], []], [[7], [], [5]], [[], [], [0]], [5], [0, 1, 2, 3, 4, 6]⟩
        [([22], fun us g c => us = [.agg #[.int .i64 y2.Code, .int .i64 y2.Index]]),
         ([4], fun us g c => us = [.slice Option.none 0 0]),
         ([], fun us g c => us = [] ∧ c = [(b2, .cells #[.int .i64 y2.Code, .int .i64 y2.Index] 25 (0, 0))])]
        mo (by kernel_rfl) rfl rfl ⟨fun _ _ _ _ _ h => h, fun _ _ _ _ _ h => h, fun _ _ _ _ _ h => h, trivial⟩ F S ⟨?_, ?_, ?_, trivial⟩ ?_
      · intro a w gd6 c fr hsz hdf hK ld6 hN hI S
        have F : Fr 53 a [(7, .pointer (some ⟨b4, 0, Option.none⟩))] := Fr.of hsz hdf ⟨hK 7 (by decide) _ rfl, trivial⟩
        replace S : St gd6 [c 3] fr w := S.of_eq (flat2 _ _ _ _)
        have q3 : c 3 = [(b4, .cells #[.int .i64 y2.Code, .int .i64 y2.Index] 25 (0, 0))] := hI 0 _ rfl
        rw [q3] at S
        refine wl_ev (wn rfl) (ev_loadA tu25 rfl (cs := [.int .i64 y2.Code, .int .i64 y2.Index]) ts25 rfl (box_ptr (cells := [.int .i64 y2.Code, .int .i64 y2.Index]) 0 rfl 0 rfl (Nat.le_of_ble_eq_true rfl))) F S rfl rfl ?_; clear F; intro a F
        refine wpList_nil ⟨rfl, F.sz, F.df, _, [], (Le.refl _), ?_, (lst1 (F.get 22 _ rfl))⟩
        refine St0.of_eq ?_ (flat3 c [] [3] fr).symm
        show St0 _ (fl ([] ++ [c 3]) fr) _
        rw [q3]
        exact S
      · intro a w gd6 c fr hsz hdf hK ld6 hN hI S
        have F : Fr 53 a [] := Fr.of hsz hdf trivial
        replace S : St gd6 [] fr w := S.of_eq (flat2 _ _ _ _)
        refine wl_ev (wn rfl) (ev_assign rfl) F S rfl rfl ?_; clear F; intro a F
        refine wpList_nil ⟨rfl, F.sz, F.df, _, [], (Le.refl _), ?_, (lst1 (F.get 4 _ rfl))⟩
        refine St0.of_eq ?_ (flat3 c [] [] fr).symm
        show St0 _ (fl ([] ++ []) fr) _
        exact S
      · intro a w gd6 c fr hsz hdf hK ld6 hN hI S
        have e0 := hN 0 (by decide)
        have e22x : val a 22 = .agg #[.int .i64 y2.Code, .int .i64 y2.Index] := nth e0 0
        have F : Fr 53 a [(5, .pointer (some ⟨b2, 0, Option.none⟩)), (22, .agg #[.int .i64 y2.Code, .int .i64 y2.Index])] := Fr.of hsz hdf ⟨hK 5 (by decide) _ rfl, e22x, trivial⟩
        replace S : St gd6 [c 5] fr w := S.of_eq (flat2 _ _ _ _)
        have q5 : c 5 = [(b2, .cells #[.int .i64 0, .int .i64 0] 25 (0, 0))] := hI 2 _ rfl
        rw [q5] at S
        refine wl_storeC (wn rfl) rfl F S rfl rfl (vs := [.int .i64 y2.Code, .int .i64 y2.Index]) rfl ts25 (one_cons rfl (one_cons rfl one_nil)) (k := 0) rfl (Nat.le_of_ble_eq_true rfl) (c' := #[.int .i64 y2.Code, .int .i64 y2.Index]) rfl rfl ?_; clear S; intro w S
        replace S : St gd6 [[(b2, .cells #[.int .i64 y2.Code, .int .i64 y2.Index] 25 (0, 0))]] fr w := S
        refine wpList_nil ⟨rfl, F.sz, F.df, _, [(b2, .cells #[.int .i64 y2.Code, .int .i64 y2.Index] 25 (0, 0))], (Le.refl _), ?_, ⟨rfl, rfl⟩⟩
        refine St0.of_eq ?_ (flat3s c ([(b2, .cells #[.int .i64 y2.Code, .int .i64 y2.Index] 25 (0, 0))]) [] fr).symm
        show St0 _ (fl ([[(b2, .cells #[.int .i64 y2.Code, .int .i64 y2.Index] 25 (0, 0))]] ++ []) fr) _
        exact S
      clear F S; intro a w gd6 c hsz hdf hK ld6 hI S hN
      have e1 := hN 1 (by decide)
      have e4x : val a 4 = .slice Option.none 0 0 := nth e1 0
      obtain ⟨e2, q2⟩ := hN 2 (by decide)
      have F : Fr 53 a [(5, .pointer (some ⟨b2, 0, Option.none⟩)), (4, .slice Option.none 0 0)] := Fr.of hsz hdf ⟨hK 5 (by decide) _ rfl, e4x, trivial⟩
      replace S : St gd6 [c 0, c 1, c 2, c 3, c 4, c 6] fr w := S.of_eq (flat_fl _ _ _)
      rw [q2] at S
      have q3 : c 3 = [(b4, .cells #[.int .i64 y2.Code, .int .i64 y2.Index] 25 (0, 0))] := hI 0 _ rfl
      rw [q3] at S
      have q4 : c 4 = [(b3, .cells #[.int .i64 y1.Code, .int .i64 y1.Index] 25 (0, 0))] := hI 1 _ rfl
      rw [q4] at S
      have q6 : c 6 = [(b1, .cells #[vp_1] 40 (0, 0))] := hI 3 _ rfl
      rw [q6] at S
      replace S : St gd6 [[(b2, .cells #[.int .i64 y2.Code, .int .i64 y2.Index] 25 (0, 0))]] fr w := St.tail [[(b2, .cells #[.int .i64 y2.Code, .int .i64 y2.Index] 25 (0, 0))]] _ (S.frontC 2 rfl)
      clear hK hI hN hsz hdf e1 e2 e4x
      refine then_n ?_
      refine wp_ret ?_
      refine then_r ?_
      obtain rfl := Option.some.inj hm
      refine post_r (fn := Try.f22) (rs := [.tmp 4, .cell 5 25]) [.slice Option.none 0 0, .agg #[.int .i64 y2.Code, .int .i64 y2.Index]] F rfl (ar_cons (resT rfl) (ar_cons (resA rfl tu25 rfl ts25 (box_ptr (cells := [.int .i64 y2.Code, .int .i64 y2.Index]) 0 rfl 0 rfl (Nat.le_of_ble_eq_true rfl) w S)) ar_nil)) ?_
      replace S : St gd6 [] fr w := St.tail [] _ S
      exact ⟨_, rfl, gd6, (.slice Option.none 0 0), ((l1.trans l2).trans ld6), S, (RepSl.nil _), rfl⟩
    · refine wp_condF F rfl hc2 ?_
      refine wp_skip ?_
      refine then_n ?_
      refine wp_cut (fun a w => ∃ (g3 : Gh), Fr 53 a [(5, .pointer (some ⟨b2, 0, Option.none⟩)), (2, .pointer (some ⟨b1, 0, Option.none⟩)), (1, vtext1)] ∧ Le g2 g3 ∧ St g3 [[(b2, .cells #[.int .i64 0, .int .i64 0] 25 (0, 0))], [(b1, .cells #[vp_1] 40 (0, 0))]] fr w ∧ textpatch_Apply.j1 p_ text = some r) ?_ ?_
      · refine wp_seq ?_
        refine wp_region_lit ?_
        refine wl_ev (wn rfl) (ev_fieldAddr' tu40 tf40_0 (z := 0) ts38 rfl ⟨_, rfl⟩ rfl) F S rfl rfl ?_; clear F a; intro a F
        refine wl_ev (wn rfl) (ev_load1 tu38 rfl rfl (box_ptr (cells := [vp_1]) 3 rfl 0 rfl (Nat.le_of_ble_eq_true rfl))) F S rfl rfl ?_; clear F a; intro a F
        refine wl_ev (wn rfl) (ev_lenSh hp_1 rfl tu38) F S rfl rfl ?_; clear F a; intro a F
        refine wl_ev (wn rfl) (ev_move rfl) F S rfl rfl ?_; clear F a; intro a F
        refine wpList_nil ?_
        replace F := F.sub (e' := [(26, .int .i64 0), (25, .int .i64 (p_.Hunks.length : Int)), (24, vp_1), (5, .pointer (some ⟨b2, 0, Option.none⟩)), (2, .pointer (some ⟨b1, 0, Option.none⟩)), (1, vtext1)]) ⟨rfl, rfl, rfl, rfl, rfl, rfl, trivial⟩
        refine then_n ?_
        refine wp_block ?_
        obtain ⟨r1, hr1, hm⟩ := bind_some hm
        have hmo1 := hm; clear hm
        refine wp_iter (σ := Int) (ρ := ((List ByteArray) × Fault) ⊕ Unit) (m := fun s => textpatch_Apply.l1 p_ text s) (I := fun x1 a w => ∃ (g5 : Gh), Fr 53 a [(26, .int .i64 x1), (25, .int .i64 (p_.Hunks.length : Int)), (24, vp_1), (5, .pointer (some ⟨b2, 0, Option.none⟩)), (2, .pointer (some ⟨b1, 0, Option.none⟩)), (1, vtext1)] ∧ Le g2 g5 ∧ St g5 [[(b2, .cells #[.int .i64 0, .int .i64 0] 25 (0, 0))], [(b1, .cells #[vp_1] 40 (0, 0))]] fr w) hr1 ?_ ?_
        · replace S : St g2 [[(b2, .cells #[.int .i64 0, .int .i64 0] 25 (0, 0))], [(b1, .cells #[vp_1] 40 (0, 0))]] fr w := St.tail [[(b2, .cells #[.int .i64 0, .int .i64 0] 25 (0, 0))], [(b1, .cells #[vp_1] 40 (0, 0))]] _ ((S.frontC 3 rfl).frontC 3 rfl)
          exact ⟨g2, F.sub ⟨rfl, rfl, rfl, rfl, rfl, rfl, trivial⟩, (Le.refl _), S⟩
        · clear F S; rintro x1 a w x2 ⟨g5, F, l5, S⟩ hx1 hfin1
          have hm : textpatch_Apply.l1 p_ text x1 = some x2 := hx1; clear hx1
          unfold textpatch_Apply.l1 at hm
          refine wp_seq ?_
          refine wp_region_lit ?_
          refine wl_ev (wn rfl) (ev_int rfl rfl (bo_lss _ _ _ _)) F S rfl rfl ?_; clear F a; intro a F
          refine wpList_nil ?_
          refine then_n ?_
          refine wp_seq ?_
          obtain ⟨hc4, hm⟩ | ⟨hc4, hm⟩ := ite_or hm
          · refine wp_condT F rfl hc4 ?_
            refine wp_skip ?_
            refine then_n ?_
            refine wp_seq ?_
            refine wp_block ?_
            refine wp_seq ?_
            refine wp_region_lit ?_
            refine wl_ev (wn rfl) (ev_move rfl) F S rfl rfl ?_; clear F a; intro a F
            obtain ⟨y4, hy4, hm⟩ := bind_some hm
            obtain ⟨cs1, hr2, hp1⟩ := elemS (hp_1.mono ((l1.trans l2).trans l5)) hy4
            obtain ⟨v2, v3, rfl, h2, h3⟩ := rep_Hunk hr2
            refine wl_ev (wn rfl) (ev_idxS (hp_1.mono ((l1.trans l2).trans l5)) hy4 tu38 ts44 rfl rfl) F S rfl rfl ?_; clear F a; intro a F
            refine wl_ev (wn rfl) (ev_loadA tu44 rfl (cs := [.int .i64 y4.At, v2, v3]) ts44 rfl (ptr_mono (cks := [[(b2, .cells #[.int .i64 0, .int .i64 0] 25 (0, 0))], [(b1, .cells #[vp_1] 40 (0, 0))]]) (fr := fr) hp1 (Le.refl _))) F S rfl rfl ?_; clear F a; intro a F
            refine wl_alloc (wn rfl) rfl tz44 (cs := [.int .i64 0, .slice Option.none 0 0, .slice Option.none 0 0]) rfl F S rfl rfl ?_; clear F a S; rintro b5 a w F S
            refine wl_ev (wn rfl) (ev_assign rfl) F S rfl rfl ?_; clear F a; intro a F
            refine wl_storeC (wn rfl) rfl F S rfl rfl (vs := [.int .i64 y4.At, v2, v3]) rfl ts44 (one_cons rfl (one_cons h2.one (one_cons h3.one one_nil))) (k := 0) rfl (Nat.le_of_ble_eq_true rfl) (c' := #[.int .i64 y4.At, v2, v3]) rfl rfl ?_; clear S; intro w S
            replace S : St g5 [[(b5, .cells #[.int .i64 y4.At, v2, v3] 44 (0, 0))], [(b2, .cells #[.int .i64 0, .int .i64 0] 25 (0, 0))], [(b1, .cells #[vp_1] 40 (0, 0))]] fr w := S
            refine wpList_nil ?_
            replace F := F.sub (e' := [(8, .int .i64 x1), (9, .pointer (some ⟨b5, 0, Option.none⟩)), (26, .int .i64 x1), (25, .int .i64 (p_.Hunks.length : Int)), (24, vp_1), (5, .pointer (some ⟨b2, 0, Option.none⟩)), (2, .pointer (some ⟨b1, 0, Option.none⟩)), (1, vtext1)]) ⟨rfl, rfl, rfl, rfl, rfl, rfl, rfl, rfl, trivial⟩
            refine then_n ?_
            refine wp_seq ?_
            refine wp_region_lit ?_
            refine wl_ev (wn rfl) (ev_move rfl) F S rfl rfl ?_; clear F a; intro a F
            refine wl_ev (wn rfl) (ev_fieldAddr' tu44 tf44_1 (z := 0) ts31 rfl ⟨_, rfl⟩ rfl) F S rfl rfl ?_; clear F a; intro a F
            refine wl_ev (wn rfl) (ev_load1 tu31 rfl rfl (box_ptr (cells := [v2]) 0 rfl 1 rfl (Nat.le_of_ble_eq_true rfl))) F S rfl rfl ?_; clear F a; intro a F
            refine wl_ev (wn rfl) (ev_fieldAddr' tu44 tf44_0 (z := 0) ts3 rfl ⟨_, rfl⟩ rfl) F S rfl rfl ?_; clear F a; intro a F
            refine wl_ev (wn rfl) (ev_load1 tu3 rfl rfl (box_ptr (cells := [.int .i64 y4.At]) 0 rfl 0 rfl (Nat.le_of_ble_eq_true rfl))) F S rfl rfl ?_; clear F a; intro a F
            obtain ⟨y5, hy5, hm⟩ := bind_some hm
            refine wl_call (wn rfl) rfl (xs := [.tmp 31, .tmp 33, .tmp 35]) (vs := [vtext1, v2, .int .i64 y4.At]) (cap := []) F rfl rfl tc37 (lines_Occurs_ok (g := g5) (fr := (fl [[(b5, .cells #[.int .i64 y4.At, v2, v3] 44 (0, 0))], [(b2, .cells #[.int .i64 0, .int .i64 0] 25 (0, 0))], [(b1, .cells #[vp_1] 40 (0, 0))]] fr)) (w := w) text vtext1 (htext1.mono ((l1.trans l2).trans l5)) y4.Old v2 h2 y4.At S hy5) rfl rfl ?_; clear F a S
            rintro _ a w ⟨g6, l6, S, rfl⟩ F; replace S : St g6 [[(b5, .cells #[.int .i64 y4.At, v2, v3] 44 (0, 0))], [(b2, .cells #[.int .i64 0, .int .i64 0] 25 (0, 0))], [(b1, .cells #[vp_1] 40 (0, 0))]] fr w := S
            refine wl_ev (wn rfl) (ev_not rfl) F S rfl rfl ?_; clear F a; intro a F
            refine wpList_nil ?_
            replace F := F.sub (e' := [(37, .bool !y5), (8, .int .i64 x1), (26, .int .i64 x1), (25, .int .i64 (p_.Hunks.length : Int)), (24, vp_1), (5, .pointer (some ⟨b2, 0, Option.none⟩)), (2, .pointer (some ⟨b1, 0, Option.none⟩)), (1, vtext1)]) ⟨rfl, rfl, rfl, rfl, rfl, rfl, rfl, rfl, trivial⟩
            refine then_n ?_
            obtain ⟨hc5, hm⟩ | ⟨hc5, hm⟩ := ite_or hm
            · refine wp_condT F rfl hc5 ?_
              refine wp_seq ?_
              refine wp_region_lit ?_
              refine wl_ev (wn rfl) (ev_move rfl) F S rfl rfl ?_; clear F a; intro a F
              refine wl_ev (wn rfl) (ev_build (parts := [(0, .const (.int .i64 19)), (1, .tmp 38)]) (vs := [(0, .int .i64 19), (1, .int .i64 x1)]) rfl (fun w => tb25_0_1 19 x1 w)) F S rfl rfl ?_; clear F a; intro a F
              refine wl_ev (wn rfl) (ev_assign rfl) F S rfl rfl ?_; clear F a; intro a F
              refine wl_storeC (wn rfl) rfl F S rfl rfl (vs := [.int .i64 19, .int .i64 x1]) rfl ts25 (one_cons rfl (one_cons rfl one_nil)) (k := 1) rfl (Nat.le_of_ble_eq_true rfl) (c' := #[.int .i64 19, .int .i64 x1]) rfl rfl ?_; clear S; intro w S
              replace S : St g6 [[(b5, .cells #[.int .i64 y4.At, v2, v3] 44 (0, 0))], [(b2, .cells #[.int .i64 19, .int .i64 x1] 25 (0, 0))], [(b1, .cells #[vp_1] 40 (0, 0))]] fr w := S
              refine wpList_nil ?_
              replace F := F.sub (e' := [(4, .slice Option.none 0 0), (5, .pointer (some ⟨b2, 0, Option.none⟩))]) ⟨rfl, rfl, trivial⟩
              refine then_n ?_
              refine wp_ret ?_
              refine inb_r ?_
              refine then_r ?_
              refine then_r ?_
              refine inb_r ?_
              refine then_r ?_
              obtain rfl := Option.some.inj hm
              obtain rfl := hfin1 _ rfl
              clear hm
              have hm : (some ([], ({ Code := 19, Index := x1 } : Fault)) : Option ((List ByteArray) × Fault)) = some _ := hmo1
              obtain rfl := Option.some.inj hm
              refine post_r (fn := Try.f22) (rs := [.tmp 4, .cell 5 25]) [.slice Option.none 0 0, .agg #[.int .i64 19, .int .i64 x1]] F rfl (ar_cons (resT rfl) (ar_cons (resA rfl tu25 rfl ts25 (box_ptr (cells := [.int .i64 19, .int .i64 x1]) 1 rfl 0 rfl (Nat.le_of_ble_eq_true rfl) w S)) ar_nil)) ?_
              replace S : St g6 [] fr w := St.tail [] _ S
              exact ⟨_, rfl, g6, (.slice Option.none 0 0), (((l1.trans l2).trans l5).trans l6), S, (RepSl.nil _), rfl⟩
            · refine wp_condF F rfl hc5 ?_
              refine wp_skip ?_
              refine inb_n ?_
              refine then_n ?_
              refine wp_region_lit ?_
              obtain ⟨z1, hz1, hm⟩ := bind_some hm
              refine wl_ev (wn rfl) (ev_int rfl rfl (bo_add hz1)) F S rfl rfl ?_; clear F a; intro a F
              refine wl_ev (wn rfl) (ev_move rfl) F S rfl rfl ?_; clear F a; intro a F
              refine wpList_nil ?_
              replace F := F.sub (e' := [(26, .int .i64 z1), (25, .int .i64 (p_.Hunks.length : Int)), (24, vp_1), (5, .pointer (some ⟨b2, 0, Option.none⟩)), (2, .pointer (some ⟨b1, 0, Option.none⟩)), (1, vtext1)]) ⟨rfl, rfl, rfl, rfl, rfl, rfl, trivial⟩
              refine then_n ?_
              obtain rfl := Option.some.inj hm
              refine ⟨_, rfl, ?_⟩
              replace S : St g6 [[(b2, .cells #[.int .i64 0, .int .i64 0] 25 (0, 0))], [(b1, .cells #[vp_1] 40 (0, 0))]] fr w := St.tail [[(b2, .cells #[.int .i64 0, .int .i64 0] 25 (0, 0))], [(b1, .cells #[vp_1] 40 (0, 0))]] _ ((S.frontC 2 rfl).frontC 2 rfl)
              exact ⟨g6, F.sub ⟨rfl, rfl, rfl, rfl, rfl, rfl, trivial⟩, (l5.trans l6), S⟩
          · refine wp_condF F rfl hc4 ?_
            refine wp_exit ?_
            refine then_e ?_
            refine then_e ?_
            refine inb_x ?_
            refine then_n ?_
            obtain rfl := Option.some.inj hm
            obtain rfl := hfin1 _ rfl
            clear hm
            have hm : (textpatch_Apply.j1 p_ text : Option ((List ByteArray) × Fault)) = some _ := hmo1
            exact ⟨g5, F.sub ⟨rfl, rfl, rfl, trivial⟩, l5, S, hm⟩
      · clear F S hm; rintro a w ⟨g3, F, l3, S, hm⟩
        refine wp_seq ?_
        refine wp_region_lit ?_
        refine wl_ev (wn rfl) (ev_fieldAddr' tu40 tf40_0 (z := 0) ts38 rfl ⟨_, rfl⟩ rfl) F S rfl rfl ?_; clear F a; intro a F
        refine wl_ev (wn rfl) (ev_load1 tu38 rfl rfl (box_ptr (cells := [vp_1]) 1 rfl 0 rfl (Nat.le_of_ble_eq_true rfl))) F S rfl rfl ?_; clear F a; intro a F
        refine wl_ev (wn rfl) (ev_move rfl) F S rfl rfl ?_; clear F a; intro a F
        refine wl_ev (wn rfl) (ev_move rfl) F S rfl rfl ?_; clear F a; intro a F
        refine wl_ev (wn rfl) (ev_lenSh htext1 rfl tu31) F S rfl rfl ?_; clear F a; intro a F
        obtain ⟨y3, hy3, hm⟩ := bind_some hm
        refine wl_call (wn rfl) rfl (xs := [.tmp 42, .tmp 43, .const (.int .i64 0), .tmp 45]) (vs := [vp_1, vtext1, .int .i64 0, .int .i64 (text.length : Int)]) (cap := []) F rfl rfl tc38 (textpatch_Raw_ok (g := g3) (fr := (fl [[(b2, .cells #[.int .i64 0, .int .i64 0] 25 (0, 0))], [(b1, .cells #[vp_1] 40 (0, 0))]] fr)) (w := w) p_.Hunks vp_1 (hp_1.mono ((l1.trans l2).trans l3)) text vtext1 (htext1.mono ((l1.trans l2).trans l3)) 0 (text.length : Int) S hy3) rfl rfl ?_; clear F a S
        rintro _ a w ⟨g4, v1, l4, S, h1, rfl⟩ F; replace S : St g4 [[(b2, .cells #[.int .i64 0, .int .i64 0] 25 (0, 0))], [(b1, .cells #[vp_1] 40 (0, 0))]] fr w := S
        refine wl_ev (wn rfl) (ev_assign rfl) F S rfl rfl ?_; clear F a; intro a F
        refine wpList_nil ?_
        replace F := F.sub (e' := [(10, v1), (5, .pointer (some ⟨b2, 0, Option.none⟩))]) ⟨rfl, rfl, trivial⟩
        refine then_n ?_
        refine wp_seq ?_
        refine wp_seq ?_
        refine wp_region_lit ?_
        refine wl_ev (wn rfl) (ev_move rfl) F S rfl rfl ?_; clear F a; intro a F
        refine wl_ev (wn rfl) (ev_lenSh h1 rfl tu31) F S rfl rfl ?_; clear F a; intro a F
        refine wl_ev (wn rfl) (ev_int rfl rfl (bo_gtr _ _ _ _)) F S rfl rfl ?_; clear F a; intro a F
        refine wpList_nil ?_
        replace F := F.sub (e' := [(49, .bool (decide ((y3.length : Int) > 120))), (10, v1), (5, .pointer (some ⟨b2, 0, Option.none⟩))]) ⟨rfl, rfl, rfl, trivial⟩
        refine then_n ?_
        obtain ⟨hc3, hm⟩ | ⟨hc3, hm⟩ := ite_or hm
        · refine wp_condT F rfl hc3 ?_
          refine wp_seq ?_
          refine wp_region_lit ?_
          refine wl_ev (wn rfl) (ev_build (parts := [(0, .const (.int .i64 10)), (1, .const (.int .i64 (-1)))]) (vs := [(0, .int .i64 10), (1, .int .i64 (-1))]) rfl (fun w => tb25_0_1 10 (-1) w)) F S rfl rfl ?_; clear F a; intro a F
          refine wl_ev (wn rfl) (ev_assign rfl) F S rfl rfl ?_; clear F a; intro a F
          refine wl_storeC (wn rfl) rfl F S rfl rfl (vs := [.int .i64 10, .int .i64 (-1)]) rfl ts25 (one_cons rfl (one_cons rfl one_nil)) (k := 0) rfl (Nat.le_of_ble_eq_true rfl) (c' := #[.int .i64 10, .int .i64 (-1)]) rfl rfl ?_; clear S; intro w S
          replace S : St g4 [[(b2, .cells #[.int .i64 10, .int .i64 (-1)] 25 (0, 0))], [(b1, .cells #[vp_1] 40 (0, 0))]] fr w := S
          refine wpList_nil ?_
          replace F := F.sub (e' := [(4, .slice Option.none 0 0), (5, .pointer (some ⟨b2, 0, Option.none⟩))]) ⟨rfl, rfl, trivial⟩
          refine then_n ?_
          refine wp_ret ?_
          refine then_r ?_
          obtain rfl := Option.some.inj hm
          refine post_r (fn := Try.f22) (rs := [.tmp 4, .cell 5 25]) [.slice Option.none 0 0, .agg #[.int .i64 10, .int .i64 (-1)]] F rfl (ar_cons (resT rfl) (ar_cons (resA rfl tu25 rfl ts25 (box_ptr (cells := [.int .i64 10, .int .i64 (-1)]) 0 rfl 0 rfl (Nat.le_of_ble_eq_true rfl) w S)) ar_nil)) ?_
          replace S : St g4 [] fr w := St.tail [] _ S
          exact ⟨_, rfl, g4, (.slice Option.none 0 0), (((l1.trans l2).trans l3).trans l4), S, (RepSl.nil _), rfl⟩
        · refine wp_condF F rfl hc3 ?_
          refine wp_skip ?_
          refine then_n ?_
          refine wp_seq ?_
          refine wp_region_lit ?_
          refine wl_ev (wn rfl) (ev_move rfl) F S rfl rfl ?_; clear F a; intro a F
          refine wl_ev (wn rfl) (ev_build (parts := []) (vs := []) rfl (fun w => tb25_  w)) F S rfl rfl ?_; clear F a; intro a F
          refine wl_ev (wn rfl) (ev_assign rfl) F S rfl rfl ?_; clear F a; intro a F
          refine wl_storeC (wn rfl) rfl F S rfl rfl (vs := [.int .i64 0, .int .i64 0]) rfl ts25 (one_cons rfl (one_cons rfl one_nil)) (k := 0) rfl (Nat.le_of_ble_eq_true rfl) (c' := #[.int .i64 0, .int .i64 0]) rfl rfl ?_; clear S; intro w S
          replace S : St g4 [[(b2, .cells #[.int .i64 0, .int .i64 0] 25 (0, 0))], [(b1, .cells #[vp_1] 40 (0, 0))]] fr w := S
          refine wpList_nil ?_
          replace F := F.sub (e' := [(4, v1), (5, .pointer (some ⟨b2, 0, Option.none⟩))]) ⟨rfl, rfl, trivial⟩
          refine then_n ?_
          refine wp_ret ?_
          obtain rfl := Option.some.inj hm
          refine post_r (fn := Try.f22) (rs := [.tmp 4, .cell 5 25]) [v1, .agg #[.int .i64 0, .int .i64 0]] F rfl (ar_cons (resT rfl) (ar_cons (resA rfl tu25 rfl ts25 (box_ptr (cells := [.int .i64 0, .int .i64 0]) 0 rfl 0 rfl (Nat.le_of_ble_eq_true rfl) w S)) ar_nil)) ?_
          replace S : St g4 [] fr w := St.tail [] _ S
          exact ⟨_, rfl, g4, v1, (((l1.trans l2).trans l3).trans l4), S, h1, rfl⟩

theorem changeforgelaw2_BlameEdited_ok {g : Gh} {fr : Hl} {w : World} {r : Bool} (base : (List ByteArray)) (vbase1 : Value) (hbase1 : RepSl g base vbase1) (p_ : Patch) (vp_1 : Value) (hp_1 : RepSl g p_.Hunks vp_1) (S : St g [] fr w) (hm : changeforgelaw2_BlameEdited base p_ = some r) :
    Calls Try.prog 9 [vbase1, .agg #[vp_1]].toArray w (fun en w' => ∃ v, en = .returned v ∧ ∃ (g' : Gh), Le g g' ∧ St g' [] fr w' ∧ .bool r = v) := by
  unfold changeforgelaw2_BlameEdited at hm
  refine calls_enter (fn := Try.f9) Try.func9 rfl Try.ntmps9 (Nat.le_of_ble_eq_true rfl) ?_
  intro a F
  replace F : Fr 100 a [(0, vbase1), (1, .agg #[vp_1])] := F
  refine wp_seq ?_
  refine wp_region_lit ?_
  refine wl_boxC (wn rfl) rfl rfl rfl F S rfl rfl ?_; clear F a S; rintro b1 a w F S
  refine wl_ev (wn rfl) (ev_assign rfl) F S rfl rfl ?_; clear F a; intro a F
  refine wpList_nil ?_
  replace F := F.sub (e' := [(3, .pointer (some ⟨b1, 0, Option.none⟩)), (0, vbase1)]) ⟨rfl, rfl, trivial⟩
  refine then_n ?_
  refine wp_seq ?_
  refine wp_region_lit ?_
  refine wl_ev (wn rfl) (ev_loadA tu40 rfl (cs := [vp_1]) ts40 rfl (box_ptr (cells := [vp_1]) 0 rfl 0 rfl (Nat.le_of_ble_eq_true rfl))) F S rfl rfl ?_; clear F a; intro a F
  refine wl_ev (wn rfl) (ev_move rfl) F S rfl rfl ?_; clear F a; intro a F
  obtain ⟨y1, hy1, hm⟩ := bind_some hm
  refine wl_call (wn rfl) rfl (xs := [.tmp 13, .tmp 14]) (vs := [.agg #[vp_1], vbase1]) (cap := []) F rfl rfl tc22 (textpatch_Apply_ok (g := g) (fr := (fl [[(b1, .cells #[vp_1] 40 (0, 0))]] fr)) (w := w) p_ vp_1 hp_1 base vbase1 hbase1 S hy1) rfl rfl ?_; clear F a S
  rintro _ a w ⟨g1, v1, l1, S, h1, rfl⟩ F; replace S : St g1 [[(b1, .cells #[vp_1] 40 (0, 0))]] fr w := S
  refine wl_ev (wn rfl) (ev_move rfl) F S rfl rfl ?_; clear F a; intro a F
  refine wl_ev (wn rfl) (ev_extract (vs := [v1, .agg #[.int .i64 y1.2.Code, .int .i64 y1.2.Index]]) rfl rfl) F S rfl rfl ?_; clear F a; intro a F
  refine wl_ev (wn rfl) (ev_extract (vs := [v1, .agg #[.int .i64 y1.2.Code, .int .i64 y1.2.Index]]) rfl rfl) F S rfl rfl ?_; clear F a; intro a F
  refine wl_alloc (wn rfl) rfl tz25 (cs := [.int .i64 0, .int .i64 0]) rfl F S rfl rfl ?_; clear F a S; rintro b2 a w F S
  refine wl_ev (wn rfl) (ev_assign rfl) F S rfl rfl ?_; clear F a; intro a F
  refine wl_storeC (wn rfl) rfl F S rfl rfl (vs := [.int .i64 y1.2.Code, .int .i64 y1.2.Index]) rfl ts25 (one_cons rfl (one_cons rfl one_nil)) (k := 0) rfl (Nat.le_of_ble_eq_true rfl) (c' := #[.int .i64 y1.2.Code, .int .i64 y1.2.Index]) rfl rfl ?_; clear S; intro w S
  replace S : St g1 [[(b2, .cells #[.int .i64 y1.2.Code, .int .i64 y1.2.Index] 25 (0, 0))], [(b1, .cells #[vp_1] 40 (0, 0))]] fr w := S
  refine wpList_nil ?_
  replace F := F.sub (e' := [(5, v1), (6, .pointer (some ⟨b2, 0, Option.none⟩)), (3, .pointer (some ⟨b1, 0, Option.none⟩)), (0, vbase1)]) ⟨rfl, rfl, rfl, rfl, trivial⟩
  refine then_n ?_
  refine wp_seq ?_
  refine wp_seq ?_
  refine wp_region_lit ?_
  refine wl_ev (wn rfl) (ev_fieldAddr' tu25 tf25_0 (z := 0) ts3 rfl ⟨_, rfl⟩ rfl) F S rfl rfl ?_; clear F a; intro a F
  refine wl_ev (wn rfl) (ev_load1 tu3 rfl rfl (box_ptr (cells := [.int .i64 y1.2.Code]) 0 rfl 0 rfl (Nat.le_of_ble_eq_true rfl))) F S rfl rfl ?_; clear F a; intro a F
  refine wl_ev (wn rfl) (ev_int rfl rfl (bo_neq _ _ _ _)) F S rfl rfl ?_; clear F a; intro a F
  refine wpList_nil ?_
  replace F := F.sub (e' := [(20, .bool (!decide (y1.2.Code = 0))), (5, v1), (3, .pointer (some ⟨b1, 0, Option.none⟩)), (0, vbase1)]) ⟨rfl, rfl, rfl, rfl, trivial⟩
  refine then_n ?_
  obtain ⟨hc1, hm⟩ | ⟨hc1, hm⟩ := ite_or hm
  · refine wp_condT F rfl hc1 ?_
    refine wp_seq ?_
    refine wp_region_lit ?_
    obtain ⟨y2, hy2, hm⟩ := bind_some hm
    refine wl_call (wn rfl) rfl (xs := []) (vs := []) (cap := []) F rfl rfl tc12 (changeforgelaw2_added_ok (g := g1) (fr := (fl [[(b2, .cells #[.int .i64 y1.2.Code, .int .i64 y1.2.Index] 25 (0, 0))], [(b1, .cells #[vp_1] 40 (0, 0))]] fr)) (w := w)  S hy2) rfl rfl ?_; clear F a S
    rintro _ a w ⟨g2, l2, S, rfl⟩ F; replace S : St g2 [[(b2, .cells #[.int .i64 y1.2.Code, .int .i64 y1.2.Index] 25 (0, 0))], [(b1, .cells #[vp_1] 40 (0, 0))]] fr w := S
    refine wl_ev (wn rfl) (ev_assign rfl) F S rfl rfl ?_; clear F a; intro a F
    refine wpList_nil ?_
    replace F := F.sub (e' := [(4, .bool y2)]) ⟨rfl, trivial⟩
    refine then_n ?_
    refine wp_ret ?_
    refine then_r ?_
    obtain rfl := Option.some.inj hm
    refine post_r (fn := Try.f9) (rs := [.tmp 4]) [.bool y2] F rfl (ar_cons (resT rfl) ar_nil) ?_
    replace S : St g2 [] fr w := St.tail [] _ S
    exact ⟨_, rfl, g2, (l1.trans l2), S, rfl⟩
  · refine wp_condF F rfl hc1 ?_
    refine wp_skip ?_
    refine then_n ?_
    refine wp_cut (fun a w => ∃ (g3 : Gh), Fr 100 a [(5, v1), (0, vbase1)] ∧ Le g1 g3 ∧ St g3 [] fr w ∧ changeforgelaw2_BlameEdited.j1 base y1 = some r) ?_ ?_
    · refine wp_seq ?_
      refine wp_region_lit ?_
      refine wl_ev (wn rfl) (ev_assign rfl) F S rfl rfl ?_; clear F a; intro a F
      refine wpList_nil ?_
      replace F := F.sub (e' := [(7, .int .i64 0), (5, v1), (3, .pointer (some ⟨b1, 0, Option.none⟩)), (0, vbase1)]) ⟨rfl, rfl, rfl, rfl, trivial⟩
      refine then_n ?_
      refine wp_block ?_
      obtain ⟨r2, hr3, hm⟩ := bind_some hm
      have hmo2 := hm; clear hm
      refine wp_iter (σ := Int) (ρ := Bool ⊕ Unit) (m := fun s => changeforgelaw2_BlameEdited.l2 base p_ s) (I := fun x4 a w => ∃ (g10 : Gh), Fr 100 a [(7, .int .i64 x4), (5, v1), (3, .pointer (some ⟨b1, 0, Option.none⟩)), (0, vbase1)] ∧ Le g1 g10 ∧ St g10 [[(b1, .cells #[vp_1] 40 (0, 0))]] fr w) hr3 ?_ ?_
      · replace S : St g1 [[(b1, .cells #[vp_1] 40 (0, 0))]] fr w := St.tail [[(b1, .cells #[vp_1] 40 (0, 0))]] _ (S.frontC 1 rfl)
        exact ⟨g1, F.sub ⟨rfl, rfl, rfl, rfl, trivial⟩, (Le.refl _), S⟩
      · clear F S; rintro x4 a w x5 ⟨g10, F, l10, S⟩ hx3 hfin2
        have hm : changeforgelaw2_BlameEdited.l2 base p_ x4 = some x5 := hx3; clear hx3
        unfold changeforgelaw2_BlameEdited.l2 at hm
        refine wp_seq ?_
        refine wp_seq ?_
        refine wp_region_lit ?_
        refine wl_ev (wn rfl) (ev_move rfl) F S rfl rfl ?_; clear F a; intro a F
        refine wl_ev (wn rfl) (ev_move rfl) F S rfl rfl ?_; clear F a; intro a F
        refine wl_ev (wn rfl) (ev_lenSh hbase1 rfl tu31) F S rfl rfl ?_; clear F a; intro a F
        refine wl_ev (wn rfl) (ev_int rfl rfl (bo_lss _ _ _ _)) F S rfl rfl ?_; clear F a; intro a F
        refine wpList_nil ?_
        replace F := F.sub (e' := [(25, .bool (decide (x4 < (base.length : Int)))), (7, .int .i64 x4), (5, v1), (3, .pointer (some ⟨b1, 0, Option.none⟩)), (0, vbase1)]) ⟨rfl, rfl, rfl, rfl, rfl, trivial⟩
        refine then_n ?_
        obtain ⟨hc6, hm⟩ | ⟨hc6, hm⟩ := ite_or hm
        · refine wp_condT F rfl hc6 ?_
          refine wp_skip ?_
          refine then_n ?_
          refine wp_cut (fun a w => ∃ (g11 : Gh), Fr 100 a [(7, .int .i64 x4), (5, v1), (3, .pointer (some ⟨b1, 0, Option.none⟩)), (0, vbase1)] ∧ Le g10 g11 ∧ St g11 [[(b1, .cells #[vp_1] 40 (0, 0))]] fr w ∧ changeforgelaw2_BlameEdited.j3 x4 = some x5) ?_ ?_
          · refine wp_block ?_
            refine wp_seq ?_
            refine wp_region_lit ?_
            refine wl_ev (wn rfl) (ev_assign rfl) F S rfl rfl ?_; clear F a; intro a F
            refine wpList_nil ?_
            replace F := F.sub (e' := [(8, .int .i64 0), (7, .int .i64 x4), (5, v1), (3, .pointer (some ⟨b1, 0, Option.none⟩)), (0, vbase1)]) ⟨rfl, rfl, rfl, rfl, rfl, trivial⟩
            refine then_n ?_
            refine wp_cut1 (fun a w => ∃ (g12 : Gh), Fr 100 a [(7, .int .i64 x4), (5, v1), (3, .pointer (some ⟨b1, 0, Option.none⟩)), (0, vbase1)] ∧ Le g10 g12 ∧ St g12 [[(b1, .cells #[vp_1] 40 (0, 0))]] fr w ∧ changeforgelaw2_BlameEdited.j4 x4 = some x5) ?_ ?_
            · refine wp_block ?_
              obtain ⟨r3, hr4, hm⟩ := bind_some hm
              have hmo3 := hm; clear hm
              refine wp_iter (σ := Int) (ρ := Bool ⊕ Unit) (m := fun s => changeforgelaw2_BlameEdited.l3 base p_ x4 s) (I := fun x6 a w => ∃ (g13 : Gh), Fr 100 a [(8, .int .i64 x6), (7, .int .i64 x4), (5, v1), (3, .pointer (some ⟨b1, 0, Option.none⟩)), (0, vbase1)] ∧ Le g10 g13 ∧ St g13 [[(b1, .cells #[vp_1] 40 (0, 0))]] fr w) hr4 ?_ ?_
              · exact ⟨g10, F.sub ⟨rfl, rfl, rfl, rfl, rfl, trivial⟩, (Le.refl _), S⟩
              · clear F S; rintro x6 a w x7 ⟨g13, F, l13, S⟩ hx4 hfin3
                have hm : changeforgelaw2_BlameEdited.l3 base p_ x4 x6 = some x7 := hx4; clear hx4
                unfold changeforgelaw2_BlameEdited.l3 at hm
                refine wp_seq ?_
                refine wp_seq ?_
                refine wp_region_lit ?_
                refine wl_ev (wn rfl) (ev_move rfl) F S rfl rfl ?_; clear F a; intro a F
                refine wl_ev (wn rfl) (ev_fieldAddr' tu40 tf40_0 (z := 0) ts38 rfl ⟨_, rfl⟩ rfl) F S rfl rfl ?_; clear F a; intro a F
                refine wl_ev (wn rfl) (ev_load1 tu38 rfl rfl (box_ptr (cells := [vp_1]) 0 rfl 0 rfl (Nat.le_of_ble_eq_true rfl))) F S rfl rfl ?_; clear F a; intro a F
                refine wl_ev (wn rfl) (ev_lenSh hp_1 rfl tu38) F S rfl rfl ?_; clear F a; intro a F
                refine wl_ev (wn rfl) (ev_int rfl rfl (bo_lss _ _ _ _)) F S rfl rfl ?_; clear F a; intro a F
                refine wpList_nil ?_
                replace F := F.sub (e' := [(32, .bool (decide (x6 < (p_.Hunks.length : Int)))), (8, .int .i64 x6), (7, .int .i64 x4), (5, v1), (3, .pointer (some ⟨b1, 0, Option.none⟩)), (0, vbase1)]) ⟨rfl, rfl, rfl, rfl, rfl, rfl, trivial⟩
                refine then_n ?_
                obtain ⟨hc7, hm⟩ | ⟨hc7, hm⟩ := ite_or hm
                · refine wp_condT F rfl hc7 ?_
                  refine wp_skip ?_
                  refine then_n ?_
                  refine wp_seq ?_
                  refine wp_block ?_
                  refine wp_seq ?_
                  refine wp_quiet mo (by kernel_rfl) S ?_
                  refine wq_ev (wn rfl) (ev_move rfl) F rfl rfl ?_; clear F a; intro a F
                  refine wq_ev (wn rfl) (ev_move rfl) F rfl rfl ?_; clear F a; intro a F
                  refine wq_ev (wn rfl) (ev_move rfl) F rfl rfl ?_; clear F a; intro a F
                  obtain ⟨z4, hz4, hm⟩ := bind_some hm
                  refine wq_ev (wn rfl) (ev_int rfl rfl (bo_add hz4)) F rfl rfl ?_; clear F a; intro a F
                  obtain ⟨y8, hy8, hm⟩ := bind_some hm
                  refine wq_cutS (wn rfl) rfl (hbase1.mono ((l1.trans l10).trans l13)) hy8 tu31 ts9 rfl (bndV rfl) (bndV rfl) F rfl rfl ?_; clear F a; rintro v5 h6 a F
                  refine wq_ev (wn rfl) (ev_fieldAddr' tu40 tf40_0 (z := 0) ts38 rfl ⟨_, rfl⟩ rfl) F rfl rfl ?_; clear F a; intro a F
                  refine wq_ev (wn rfl) (ev_load1 tu38 rfl rfl (box_ptr (cells := [vp_1]) 0 rfl 0 rfl (Nat.le_of_ble_eq_true rfl))) F rfl rfl ?_; clear F a; intro a F
                  refine wq_ev (wn rfl) (ev_move rfl) F rfl rfl ?_; clear F a; intro a F
                  obtain ⟨y9, hy9, hm⟩ := bind_some hm
                  obtain ⟨cs2, hr5, hp2⟩ := elemS (hp_1.mono ((l1.trans l10).trans l13)) hy9
                  obtain ⟨v6, v7, rfl, h7, h8⟩ := rep_Hunk hr5
                  refine wq_ev (wn rfl) (ev_idxS (hp_1.mono ((l1.trans l10).trans l13)) hy9 tu38 ts44 rfl rfl) F rfl rfl ?_; clear F a; intro a F
                  have hp3 := PtrC.field hp2 2 1 (Nat.le_of_ble_eq_true rfl)
                  have hp3 : PtrC g13 (addP (elemP vp_1 x6 3) 2) [v7] := hp3
                  refine wq_ev (wn rfl) (ev_fieldAddr' tu44 tf44_2 (z := 0) ts31 rfl hp2.ptr rfl) F rfl rfl ?_; clear F a; intro a F
                  refine wq_ev (wn rfl) (ev_load1 tu31 rfl rfl (ptr_mono (cks := [[(b1, .cells #[vp_1] 40 (0, 0))]]) (fr := fr) hp3 (Le.refl _))) F rfl rfl ?_; clear F a; intro a F
                  obtain ⟨y10, hy10, hm⟩ := bind_some hm
                  refine wq_call (wn rfl) rfl (xs := [.tmp 39, .tmp 45]) (vs := [v5, v7]) (cap := []) F rfl rfl tc16 (v := .bool y10) (fun w S => (changeforgelaw2_follows_ok (g := g13) (fr := (fl [[(b1, .cells #[vp_1] 40 (0, 0))]] fr)) (w := w) y8 v5 h6 y9.New v7 h8 S hy10).mono (by rintro en w' ⟨_, rfl, g2, l2, S2, rfl⟩; exact ⟨rfl, S2.weak l2⟩)) rfl rfl ?_; clear F a; intro a F
                  refine wq_ev (wn rfl) (ev_move rfl) F rfl rfl ?_; clear F a; intro a F
                  obtain ⟨x8, hx5, hm⟩ := bind_some hm
                  refine wq_cut 14 (fun a => Fr 100 a [(61, .bool x8), (8, .int .i64 x6), (7, .int .i64 x4), (5, v1), (3, .pointer (some ⟨b1, 0, Option.none⟩)), (0, vbase1)]) ?_ ?_
                  · clear hm; obtain ⟨hc8, hm⟩ | ⟨hc8, hm⟩ := ite_or hx5
                    · refine wq_skip rfl rfl rfl rfl (ne_ft hc8) F rfl rfl ?_; clear F a; intro a F
                      refine wq_skip rfl rfl rfl rfl (ne_ft hc8) F rfl rfl ?_; clear F a; intro a F
                      refine wq_skip rfl rfl rfl rfl (ne_ft hc8) F rfl rfl ?_; clear F a; intro a F
                      refine wq_skipu rfl rfl rfl rfl F rfl rfl ?_; clear F a; intro a F
                      refine wq_skipu rfl rfl rfl rfl F rfl rfl ?_; clear F a; intro a F
                      refine wq_skipu rfl rfl rfl rfl F rfl rfl ?_; clear F a; intro a F
                      refine wq_skipu rfl rfl rfl rfl F rfl rfl ?_; clear F a; intro a F
                      refine wq_skipu rfl rfl rfl rfl F rfl rfl ?_; clear F a; intro a F
                      refine wq_skipu rfl rfl rfl rfl F rfl rfl ?_; clear F a; intro a F
                      refine wq_skipu rfl rfl rfl rfl F rfl rfl ?_; clear F a; intro a F
                      refine wq_skipu rfl rfl rfl rfl F rfl rfl ?_; clear F a; intro a F
                      refine wq_skipu rfl rfl rfl rfl F rfl rfl ?_; clear F a; intro a F
                      refine wq_skip rfl rfl rfl rfl (ne_ft hc8) F rfl rfl ?_; clear F a; intro a F
                      refine wq_ev (wn rfl) (ev_pickT rfl hc8 rfl) F rfl rfl ?_; clear F a; intro a F
                      obtain rfl := Option.some.inj hm
                      refine wq_nil ?_; exact F.sub ⟨rfl, rfl, rfl, rfl, rfl, rfl, trivial⟩
                    · refine wq_ev (wg F rfl rfl rfl rfl hc8) (ev_move rfl) F rfl rfl ?_; clear F a; intro a F
                      refine wq_ev (wg F rfl rfl rfl rfl hc8) (ev_int rfl rfl (bo_gtr _ _ _ _)) F rfl rfl ?_; clear F a; intro a F
                      refine wq_ev (wg F rfl rfl rfl rfl hc8) (ev_move rfl) F rfl rfl ?_; clear F a; intro a F
                      obtain ⟨x9, hx6, hm⟩ := bind_some hm
                      refine wq_cut 10 (fun a => Fr 100 a [(60, .bool x9), (50, .bool (decide (x4 > 0))), (49, .bool (decide (x4 > 0))), (48, .int .i64 x4), (47, .bool y10), (8, .int .i64 x6), (7, .int .i64 x4), (5, v1), (3, .pointer (some ⟨b1, 0, Option.none⟩)), (0, vbase1)]) ?_ ?_
                      · clear hm; obtain ⟨hc9, hm⟩ | ⟨hc9, hm⟩ := ite_or hx6
                        · refine wq_ev (wg F rfl rfl rfl rfl hc9) (ev_move rfl) F rfl rfl ?_; clear F a; intro a F
                          refine wq_ev (wg F rfl rfl rfl rfl hc9) (ev_move rfl) F rfl rfl ?_; clear F a; intro a F
                          refine wq_ev (wg F rfl rfl rfl rfl hc9) (ev_move rfl) F rfl rfl ?_; clear F a; intro a F
                          obtain ⟨z5, hz5, hm⟩ := bind_some hm
                          refine wq_ev (wg F rfl rfl rfl rfl hc9) (ev_int rfl rfl (bo_add hz5)) F rfl rfl ?_; clear F a; intro a F
                          obtain ⟨y11, hy11, hm⟩ := bind_some hm
                          refine wq_cutS (wg F rfl rfl rfl rfl hc9) rfl (hbase1.mono ((l1.trans l10).trans l13)) hy11 tu31 ts9 rfl (bndV rfl) (bndV rfl) F rfl rfl ?_; clear F a; rintro v8 h9 a F
                          refine wq_ev (wg F rfl rfl rfl rfl hc9) (ev_move rfl) F rfl rfl ?_; clear F a; intro a F
                          refine wq_ev (wg F rfl rfl rfl rfl hc9) (ev_move rfl) F rfl rfl ?_; clear F a; intro a F
                          obtain ⟨y12, hy12, hm⟩ := bind_some hm
                          refine wq_cutS (wg F rfl rfl rfl rfl hc9) rfl (hbase1.mono ((l1.trans l10).trans l13)) hy12 tu31 ts9 rfl (bnd0 _) (bndV rfl) F rfl rfl ?_; clear F a; rintro v9 h10 a F
                          obtain ⟨y13, hy13, hm⟩ := bind_some hm
                          refine wq_call (wg F rfl rfl rfl rfl hc9) rfl (xs := [.tmp 55, .tmp 58]) (vs := [v8, v9]) (cap := []) F rfl rfl tc16 (v := .bool y13) (fun w S => (changeforgelaw2_follows_ok (g := g13) (fr := (fl [[(b1, .cells #[vp_1] 40 (0, 0))]] fr)) (w := w) y11 v8 h9 y12 v9 h10 S hy13).mono (by rintro en w' ⟨_, rfl, g2, l2, S2, rfl⟩; exact ⟨rfl, S2.weak l2⟩)) rfl rfl ?_; clear F a; intro a F
                          refine wq_ev (wg F rfl rfl rfl rfl hc8) (ev_pickT rfl hc9 rfl) F rfl rfl ?_; clear F a; intro a F
                          obtain rfl := Option.some.inj hm
                          refine wq_nil ?_; exact F.sub ⟨rfl, rfl, rfl, rfl, rfl, rfl, rfl, rfl, rfl, rfl, trivial⟩
                        · refine wq_skip rfl rfl rfl rfl (ne_tf hc9) F rfl rfl ?_; clear F a; intro a F
                          refine wq_skip rfl rfl rfl rfl (ne_tf hc9) F rfl rfl ?_; clear F a; intro a F
                          refine wq_skip rfl rfl rfl rfl (ne_tf hc9) F rfl rfl ?_; clear F a; intro a F
                          refine wq_skip rfl rfl rfl rfl (ne_tf hc9) F rfl rfl ?_; clear F a; intro a F
                          refine wq_skip rfl rfl rfl rfl (ne_tf hc9) F rfl rfl ?_; clear F a; intro a F
                          refine wq_skip rfl rfl rfl rfl (ne_tf hc9) F rfl rfl ?_; clear F a; intro a F
                          refine wq_skip rfl rfl rfl rfl (ne_tf hc9) F rfl rfl ?_; clear F a; intro a F
                          refine wq_skip rfl rfl rfl rfl (ne_tf hc9) F rfl rfl ?_; clear F a; intro a F
                          refine wq_skip rfl rfl rfl rfl (ne_tf hc9) F rfl rfl ?_; clear F a; intro a F
                          refine wq_ev (wg F rfl rfl rfl rfl hc8) (ev_pickF rfl hc9 rfl) F rfl rfl ?_; clear F a; intro a F
                          obtain rfl := Option.some.inj hm
                          refine wq_nil ?_; exact F.sub ⟨rfl, rfl, rfl, rfl, rfl, rfl, rfl, rfl, rfl, rfl, trivial⟩
                      clear F; intro a F
                      refine wq_ev (wn rfl) (ev_pickF rfl hc8 rfl) F rfl rfl ?_; clear F a; intro a F
                      obtain rfl := Option.some.inj hm
                      refine wq_nil ?_; exact F.sub ⟨rfl, rfl, rfl, rfl, rfl, rfl, trivial⟩
                  clear F; intro a F
                  refine wq_nil ?_; clear S; intro w S
                  refine then_n ?_
                  obtain ⟨hc10, hm⟩ | ⟨hc10, hm⟩ := ite_or hm
                  · refine wp_condT F rfl hc10 ?_
                    refine wp_seq ?_
                    refine wp_region_lit ?_
                    obtain ⟨y14, hy14, hm⟩ := bind_some hm
                    refine wl_call (wn rfl) rfl (xs := []) (vs := []) (cap := []) F rfl rfl tc12 (changeforgelaw2_added_ok (g := g13) (fr := (fl [[(b1, .cells #[vp_1] 40 (0, 0))]] fr)) (w := w)  S hy14) rfl rfl ?_; clear F a S
                    rintro _ a w ⟨g16, l16, S, rfl⟩ F; replace S : St g16 [[(b1, .cells #[vp_1] 40 (0, 0))]] fr w := S
                    refine wl_ev (wn rfl) (ev_assign rfl) F S rfl rfl ?_; clear F a; intro a F
                    refine wpList_nil ?_
                    replace F := F.sub (e' := [(4, .bool y14)]) ⟨rfl, trivial⟩
                    refine then_n ?_
                    refine wp_ret ?_
                    refine inb_r ?_
                    refine then_r ?_
                    refine then_r ?_
                    refine inb_r ?_
                    refine then_r ?_
                    refine inb_r ?_
                    refine then_r ?_
                    refine then_r ?_
                    refine inb_r ?_
                    refine then_r ?_
                    obtain rfl := Option.some.inj hm
                    obtain rfl := hfin3 _ rfl
                    clear hm
                    have hm : (some (Step.done (Sum.inl y14)) : Option (Step Int (Bool ⊕ Unit))) = some _ := hmo3
                    obtain rfl := Option.some.inj hm
                    obtain rfl := hfin2 _ rfl
                    clear hm
                    have hm : (some y14 : Option Bool) = some _ := hmo2
                    obtain rfl := Option.some.inj hm
                    refine post_r (fn := Try.f9) (rs := [.tmp 4]) [.bool y14] F rfl (ar_cons (resT rfl) ar_nil) ?_
                    replace S : St g16 [] fr w := St.tail [] _ S
                    exact ⟨_, rfl, g16, (((l1.trans l10).trans l13).trans l16), S, rfl⟩
                  · refine wp_condF F rfl hc10 ?_
                    refine wp_skip ?_
                    refine inb_n ?_
                    refine then_n ?_
                    refine wp_region_lit ?_
                    refine wl_ev (wn rfl) (ev_move rfl) F S rfl rfl ?_; clear F a; intro a F
                    obtain ⟨z6, hz6, hm⟩ := bind_some hm
                    refine wl_ev (wn rfl) (ev_int rfl rfl (bo_add hz6)) F S rfl rfl ?_; clear F a; intro a F
                    refine wl_ev (wn rfl) (ev_assign rfl) F S rfl rfl ?_; clear F a; intro a F
                    refine wpList_nil ?_
                    replace F := F.sub (e' := [(8, .int .i64 z6), (7, .int .i64 x4), (5, v1), (3, .pointer (some ⟨b1, 0, Option.none⟩)), (0, vbase1)]) ⟨rfl, rfl, rfl, rfl, rfl, trivial⟩
                    refine then_n ?_
                    obtain rfl := Option.some.inj hm
                    refine ⟨_, rfl, ?_⟩
                    exact ⟨g13, F.sub ⟨rfl, rfl, rfl, rfl, rfl, trivial⟩, l13, S⟩
                · refine wp_condF F rfl hc7 ?_
                  refine wp_exit ?_
                  refine then_e ?_
                  refine then_e ?_
                  refine inb_x ?_
                  refine then_n ?_
                  obtain rfl := Option.some.inj hm
                  obtain rfl := hfin3 _ rfl
                  clear hm
                  have hm : (changeforgelaw2_BlameEdited.j4 x4 : Option (Step Int (Bool ⊕ Unit))) = some _ := hmo3
                  exact ⟨g13, F.sub ⟨rfl, rfl, rfl, rfl, trivial⟩, l13, S, hm⟩
            · clear F S hm; rintro a w ⟨g12, F, l12, S, hm⟩
              refine inb_n ?_
              refine then_n ?_
              exact ⟨g12, F.sub ⟨rfl, rfl, rfl, rfl, trivial⟩, l12, S, hm⟩
          · clear F S hm; rintro a w ⟨g11, F, l11, S, hm⟩
            refine wp_region_lit ?_
            refine wl_ev (wn rfl) (ev_move rfl) F S rfl rfl ?_; clear F a; intro a F
            obtain ⟨z3, hz3, hm⟩ := bind_some hm
            refine wl_ev (wn rfl) (ev_int rfl rfl (bo_add hz3)) F S rfl rfl ?_; clear F a; intro a F
            refine wl_ev (wn rfl) (ev_assign rfl) F S rfl rfl ?_; clear F a; intro a F
            refine wpList_nil ?_
            replace F := F.sub (e' := [(7, .int .i64 z3), (5, v1), (3, .pointer (some ⟨b1, 0, Option.none⟩)), (0, vbase1)]) ⟨rfl, rfl, rfl, rfl, trivial⟩
            refine then_n ?_
            obtain rfl := Option.some.inj hm
            refine ⟨_, rfl, ?_⟩
            exact ⟨g11, F.sub ⟨rfl, rfl, rfl, rfl, trivial⟩, (l10.trans l11), S⟩
        · refine wp_condF F rfl hc6 ?_
          refine wp_exit ?_
          refine then_e ?_
          refine then_e ?_
          refine inb_x ?_
          refine then_n ?_
          obtain rfl := Option.some.inj hm
          obtain rfl := hfin2 _ rfl
          clear hm
          have hm : (changeforgelaw2_BlameEdited.j1 base y1 : Option Bool) = some _ := hmo2
          replace S : St g10 [] fr w := St.tail [] _ S
          exact ⟨g10, F.sub ⟨rfl, rfl, trivial⟩, l10, S, hm⟩
    · clear F S hm; rintro a w ⟨g3, F, l3, S, hm⟩
      refine wp_seq ?_
      refine wp_region_lit ?_
      refine wl_ev (wn rfl) (ev_move rfl) F S rfl rfl ?_; clear F a; intro a F
      refine wl_ev (wn rfl) (ev_move rfl) F S rfl rfl ?_; clear F a; intro a F
      refine wl_lit (l := ([base, y1.1] : List (List ByteArray))) (vs := [vbase1, v1]) (parts := [(0, .tmp 64), (1, .tmp 65)]) (wn rfl) rfl rfl rfl tu22 te31 (sz_cons hbase1.csz (sz_cons h1.csz sz_nil)) rfl (Cat.cons ⟨_, rfl, (hbase1.mono (l1.trans l3))⟩ (Cat.cons ⟨_, rfl, (h1.mono l3)⟩ (Cat.nil _))) (coa_cons hbase1.cl (coa_cons h1.cl coa_nil)) rfl F S rfl rfl ?_; clear F a S
      rintro v2 c1 a w h2 F S
      obtain ⟨g4, l4, S, h3⟩ : ∃ gz, Le g3 gz ∧ St gz [] fr w ∧ RepSl gz ([base, y1.1] : List (List ByteArray)) v2 := ⟨_, Le.add _ _, S.freeze 0 rfl, OwnS.freeze (S.front 0 rfl) h2⟩
      obtain ⟨y3, hy3, hm⟩ := bind_some hm
      refine wl_call (wn rfl) rfl (xs := [.tmp 66]) (vs := [v2]) (cap := []) F rfl rfl tc10 (blame_Annotate_ok (g := g4) (fr := fr) (w := w) ([base, y1.1] : List (List ByteArray)) v2 h3 S hy3) rfl rfl ?_; clear F a S
      rintro _ a w ⟨g5, v3, l5, S, h4, rfl⟩ F; replace S : St g5 [] fr w := S
      refine wl_ev (wn rfl) (ev_move rfl) F S rfl rfl ?_; clear F a; intro a F
      refine wl_ev (wn rfl) (ev_extract (vs := [v3, .agg #[.int .i64 y3.2.Code, .int .i64 y3.2.Index]]) rfl rfl) F S rfl rfl ?_; clear F a; intro a F
      refine wl_ev (wn rfl) (ev_extract (vs := [v3, .agg #[.int .i64 y3.2.Code, .int .i64 y3.2.Index]]) rfl rfl) F S rfl rfl ?_; clear F a; intro a F
      refine wl_alloc (wn rfl) rfl tz25 (cs := [.int .i64 0, .int .i64 0]) rfl F S rfl rfl ?_; clear F a S; rintro b3 a w F S
      refine wl_ev (wn rfl) (ev_assign rfl) F S rfl rfl ?_; clear F a; intro a F
      refine wl_storeC (wn rfl) rfl F S rfl rfl (vs := [.int .i64 y3.2.Code, .int .i64 y3.2.Index]) rfl ts25 (one_cons rfl (one_cons rfl one_nil)) (k := 0) rfl (Nat.le_of_ble_eq_true rfl) (c' := #[.int .i64 y3.2.Code, .int .i64 y3.2.Index]) rfl rfl ?_; clear S; intro w S
      replace S : St g5 [[(b3, .cells #[.int .i64 y3.2.Code, .int .i64 y3.2.Index] 25 (0, 0))]] fr w := S
      refine wpList_nil ?_
      replace F := F.sub (e' := [(9, v3), (10, .pointer (some ⟨b3, 0, Option.none⟩)), (5, v1), (0, vbase1)]) ⟨rfl, rfl, rfl, rfl, trivial⟩
      refine then_n ?_
      refine wp_seq ?_
      refine wp_seq ?_
      refine wp_region_lit ?_
      refine wl_ev (wn rfl) (ev_fieldAddr' tu25 tf25_0 (z := 0) ts3 rfl ⟨_, rfl⟩ rfl) F S rfl rfl ?_; clear F a; intro a F
      refine wl_ev (wn rfl) (ev_load1 tu3 rfl rfl (box_ptr (cells := [.int .i64 y3.2.Code]) 0 rfl 0 rfl (Nat.le_of_ble_eq_true rfl))) F S rfl rfl ?_; clear F a; intro a F
      refine wl_ev (wn rfl) (ev_int rfl rfl (bo_neq _ _ _ _)) F S rfl rfl ?_; clear F a; intro a F
      refine wl_ev (wn rfl) (ev_move rfl) F S rfl rfl ?_; clear F a; intro a F
      obtain ⟨x1, hx1, hm⟩ := bind_some hm
      refine wl_cut 6 (fun a w' => w = w' ∧ Fr 100 a [(79, .bool x1), (9, v3), (5, v1), (0, vbase1)]) ?_ ?_
      · clear hm; obtain ⟨hc2, hm⟩ | ⟨hc2, hm⟩ := ite_or hx1
        · refine wl_skip rfl rfl rfl rfl (ne_ft hc2) F rfl rfl ?_; clear F a; intro a F
          refine wl_skip rfl rfl rfl rfl (ne_ft hc2) F rfl rfl ?_; clear F a; intro a F
          refine wl_skip rfl rfl rfl rfl (ne_ft hc2) F rfl rfl ?_; clear F a; intro a F
          refine wl_skip rfl rfl rfl rfl (ne_ft hc2) F rfl rfl ?_; clear F a; intro a F
          refine wl_skip rfl rfl rfl rfl (ne_ft hc2) F rfl rfl ?_; clear F a; intro a F
          refine wl_ev (wn rfl) (ev_pickT rfl hc2 rfl) F S rfl rfl ?_; clear F a; intro a F
          obtain rfl := Option.some.inj hm
          refine wpList_nil (then_n ?_); exact ⟨rfl, F.sub ⟨rfl, rfl, rfl, rfl, trivial⟩⟩
        · refine wl_ev (wg F rfl rfl rfl rfl hc2) (ev_move rfl) F S rfl rfl ?_; clear F a; intro a F
          refine wl_ev (wg F rfl rfl rfl rfl hc2) (ev_lenSh h4 rfl tu23) F S rfl rfl ?_; clear F a; intro a F
          refine wl_ev (wg F rfl rfl rfl rfl hc2) (ev_move rfl) F S rfl rfl ?_; clear F a; intro a F
          refine wl_ev (wg F rfl rfl rfl rfl hc2) (ev_lenSh h1 rfl tu31) F S rfl rfl ?_; clear F a; intro a F
          refine wl_ev (wg F rfl rfl rfl rfl hc2) (ev_int rfl rfl (bo_neq _ _ _ _)) F S rfl rfl ?_; clear F a; intro a F
          refine wl_ev (wn rfl) (ev_pickF rfl hc2 rfl) F S rfl rfl ?_; clear F a; intro a F
          obtain rfl := Option.some.inj hm
          refine wpList_nil (then_n ?_); exact ⟨rfl, F.sub ⟨rfl, rfl, rfl, rfl, trivial⟩⟩
      clear F; rintro a w' ⟨rfl, F⟩
      refine wpList_nil ?_
      refine then_n ?_
      obtain ⟨hc3, hm⟩ | ⟨hc3, hm⟩ := ite_or hm
      · refine wp_condT F rfl hc3 ?_
        refine wp_seq ?_
        refine wp_region_lit ?_
        refine wl_ev (wn rfl) (ev_assign rfl) F S rfl rfl ?_; clear F a; intro a F
        refine wpList_nil ?_
        replace F := F.sub (e' := [(4, .bool false)]) ⟨rfl, trivial⟩
        refine then_n ?_
        refine wp_ret ?_
        refine then_r ?_
        obtain rfl := Option.some.inj hm
        refine post_r (fn := Try.f9) (rs := [.tmp 4]) [.bool false] F rfl (ar_cons (resT rfl) ar_nil) ?_
        replace S : St g5 [] fr w := St.tail [] _ S
        exact ⟨_, rfl, g5, (((l1.trans l3).trans l4).trans l5), S, rfl⟩
      · refine wp_condF F rfl hc3 ?_
        refine wp_skip ?_
        refine then_n ?_
        refine wp_cut (fun a w => ∃ (g6 : Gh), Fr 100 a [] ∧ Le g5 g6 ∧ St g6 [] fr w ∧ changeforgelaw2_BlameEdited.j2 = some r) ?_ ?_
        · refine wp_seq ?_
          refine wp_region_lit ?_
          refine wl_ev (wn rfl) (ev_assign rfl) F S rfl rfl ?_; clear F a; intro a F
          refine wpList_nil ?_
          replace F := F.sub (e' := [(11, .int .i64 0), (9, v3), (5, v1), (0, vbase1)]) ⟨rfl, rfl, rfl, rfl, trivial⟩
          refine then_n ?_
          refine wp_block ?_
          obtain ⟨r1, hr1, hm⟩ := bind_some hm
          have hmo1 := hm; clear hm
          refine wp_iter (σ := Int) (ρ := Bool ⊕ Unit) (m := fun s => changeforgelaw2_BlameEdited.l1 base y1 y3 s) (I := fun x2 a w => ∃ (g8 : Gh), Fr 100 a [(11, .int .i64 x2), (9, v3), (5, v1), (0, vbase1)] ∧ Le g5 g8 ∧ St g8 [] fr w) hr1 ?_ ?_
          · replace S : St g5 [] fr w := St.tail [] _ S
            exact ⟨g5, F.sub ⟨rfl, rfl, rfl, rfl, trivial⟩, (Le.refl _), S⟩
          · clear F S; rintro x2 a w x3 ⟨g8, F, l8, S⟩ hx2 hfin1
            have hm : changeforgelaw2_BlameEdited.l1 base y1 y3 x2 = some x3 := hx2; clear hx2
            unfold changeforgelaw2_BlameEdited.l1 at hm
            refine wp_seq ?_
            refine wp_seq ?_
            refine wp_region_lit ?_
            refine wl_ev (wn rfl) (ev_move rfl) F S rfl rfl ?_; clear F a; intro a F
            refine wl_ev (wn rfl) (ev_move rfl) F S rfl rfl ?_; clear F a; intro a F
            refine wl_ev (wn rfl) (ev_lenSh h4 rfl tu23) F S rfl rfl ?_; clear F a; intro a F
            refine wl_ev (wn rfl) (ev_int rfl rfl (bo_lss _ _ _ _)) F S rfl rfl ?_; clear F a; intro a F
            refine wpList_nil ?_
            replace F := F.sub (e' := [(83, .bool (decide (x2 < (y3.1.length : Int)))), (11, .int .i64 x2), (9, v3), (5, v1), (0, vbase1)]) ⟨rfl, rfl, rfl, rfl, rfl, trivial⟩
            refine then_n ?_
            obtain ⟨hc4, hm⟩ | ⟨hc4, hm⟩ := ite_or hm
            · refine wp_condT F rfl hc4 ?_
              refine wp_skip ?_
              refine then_n ?_
              refine wp_seq ?_
              refine wp_block ?_
              refine wp_seq ?_
              refine wp_quiet mo (by kernel_rfl) S ?_
              refine wq_ev (wn rfl) (ev_move rfl) F rfl rfl ?_; clear F a; intro a F
              refine wq_ev (wn rfl) (ev_move rfl) F rfl rfl ?_; clear F a; intro a F
              obtain ⟨y5, hy5, hm⟩ := bind_some hm
              obtain ⟨cs1, hr2, hp1⟩ := elemS (h4.mono l8) hy5
              obtain rfl := rep_int hr2
              refine wq_ev (wn rfl) (ev_idxS (h4.mono l8) hy5 tu23 ts3 rfl rfl) F rfl rfl ?_; clear F a; intro a F
              refine wq_ev (wn rfl) (ev_load1 tu3 rfl rfl (ptr_mono (cks := []) (fr := fr) hp1 (Le.refl _))) F rfl rfl ?_; clear F a; intro a F
              refine wq_ev (wn rfl) (ev_int rfl rfl (bo_eql _ _ _ _)) F rfl rfl ?_; clear F a; intro a F
              refine wq_ev (wn rfl) (ev_move rfl) F rfl rfl ?_; clear F a; intro a F
              refine wq_ev (wn rfl) (ev_move rfl) F rfl rfl ?_; clear F a; intro a F
              refine wq_ev (wn rfl) (ev_move rfl) F rfl rfl ?_; clear F a; intro a F
              obtain ⟨z1, hz1, hm⟩ := bind_some hm
              refine wq_ev (wn rfl) (ev_int rfl rfl (bo_add hz1)) F rfl rfl ?_; clear F a; intro a F
              obtain ⟨y6, hy6, hm⟩ := bind_some hm
              refine wq_cutS (wn rfl) rfl (h1.mono (((l3.trans l4).trans l5).trans l8)) hy6 tu31 ts9 rfl (bndV rfl) (bndV rfl) F rfl rfl ?_; clear F a; rintro v4 h5 a F
              refine wq_ev (wn rfl) (ev_move rfl) F rfl rfl ?_; clear F a; intro a F
              obtain ⟨y7, hy7, hm⟩ := bind_some hm
              refine wq_call (wn rfl) rfl (xs := [.tmp 95, .tmp 96]) (vs := [v4, vbase1]) (cap := []) F rfl rfl tc16 (v := .bool y7) (fun w S => (changeforgelaw2_follows_ok (g := g8) (fr := fr) (w := w) y6 v4 h5 base vbase1 (hbase1.mono ((((l1.trans l3).trans l4).trans l5).trans l8)) S hy7).mono (by rintro en w' ⟨_, rfl, g2, l2, S2, rfl⟩; exact ⟨rfl, S2.weak l2⟩)) rfl rfl ?_; clear F a; intro a F
              refine wq_ev (wn rfl) (ev_neB tu4 rfl rfl) F rfl rfl ?_; clear F a; intro a F
              refine wq_nil ?_; clear S; intro w S
              replace F := F.sub (e' := [(98, .bool (!decide (decide (y5 = 0) = y7))), (11, .int .i64 x2), (9, v3), (5, v1), (0, vbase1)]) ⟨rfl, rfl, rfl, rfl, rfl, trivial⟩
              refine then_n ?_
              obtain ⟨hc5, hm⟩ | ⟨hc5, hm⟩ := ite_or hm
              · refine wp_condT F rfl hc5 ?_
                refine wp_seq ?_
                refine wp_region_lit ?_
                refine wl_ev (wn rfl) (ev_assign rfl) F S rfl rfl ?_; clear F a; intro a F
                refine wpList_nil ?_
                replace F := F.sub (e' := [(4, .bool false)]) ⟨rfl, trivial⟩
                refine then_n ?_
                refine wp_ret ?_
                refine inb_r ?_
                refine then_r ?_
                refine then_r ?_
                refine inb_r ?_
                refine then_r ?_
                obtain rfl := Option.some.inj hm
                obtain rfl := hfin1 _ rfl
                clear hm
                have hm : (some false : Option Bool) = some _ := hmo1
                obtain rfl := Option.some.inj hm
                refine post_r (fn := Try.f9) (rs := [.tmp 4]) [.bool false] F rfl (ar_cons (resT rfl) ar_nil) ?_
                exact ⟨_, rfl, g8, ((((l1.trans l3).trans l4).trans l5).trans l8), S, rfl⟩
              · refine wp_condF F rfl hc5 ?_
                refine wp_skip ?_
                refine inb_n ?_
                refine then_n ?_
                refine wp_region_lit ?_
                refine wl_ev (wn rfl) (ev_move rfl) F S rfl rfl ?_; clear F a; intro a F
                obtain ⟨z2, hz2, hm⟩ := bind_some hm
                refine wl_ev (wn rfl) (ev_int rfl rfl (bo_add hz2)) F S rfl rfl ?_; clear F a; intro a F
                refine wl_ev (wn rfl) (ev_assign rfl) F S rfl rfl ?_; clear F a; intro a F
                refine wpList_nil ?_
                replace F := F.sub (e' := [(11, .int .i64 z2), (9, v3), (5, v1), (0, vbase1)]) ⟨rfl, rfl, rfl, rfl, trivial⟩
                refine then_n ?_
                obtain rfl := Option.some.inj hm
                refine ⟨_, rfl, ?_⟩
                exact ⟨g8, F.sub ⟨rfl, rfl, rfl, rfl, trivial⟩, l8, S⟩
            · refine wp_condF F rfl hc4 ?_
              refine wp_exit ?_
              refine then_e ?_
              refine then_e ?_
              refine inb_x ?_
              refine then_n ?_
              obtain rfl := Option.some.inj hm
              obtain rfl := hfin1 _ rfl
              clear hm
              have hm : (changeforgelaw2_BlameEdited.j2 : Option Bool) = some _ := hmo1
              exact ⟨g8, F.sub trivial, l8, S, hm⟩
        · clear F S hm; rintro a w ⟨g6, F, l6, S, hm⟩
          refine wp_seq ?_
          refine wp_region_lit ?_
          obtain ⟨y4, hy4, hm⟩ := bind_some hm
          refine wl_call (wn rfl) rfl (xs := []) (vs := []) (cap := []) F rfl rfl tc12 (changeforgelaw2_added_ok (g := g6) (fr := fr) (w := w)  S hy4) rfl rfl ?_; clear F a S
          rintro _ a w ⟨g7, l7, S, rfl⟩ F; replace S : St g7 [] fr w := S
          refine wl_ev (wn rfl) (ev_assign rfl) F S rfl rfl ?_; clear F a; intro a F
          refine wpList_nil ?_
          replace F := F.sub (e' := [(4, .bool y4)]) ⟨rfl, trivial⟩
          refine then_n ?_
          refine wp_ret ?_
          obtain rfl := Option.some.inj hm
          refine post_r (fn := Try.f9) (rs := [.tmp 4]) [.bool y4] F rfl (ar_cons (resT rfl) ar_nil) ?_
          exact ⟨_, rfl, g7, (((((l1.trans l3).trans l4).trans l5).trans l6).trans l7), S, rfl⟩
end Go.Dc
