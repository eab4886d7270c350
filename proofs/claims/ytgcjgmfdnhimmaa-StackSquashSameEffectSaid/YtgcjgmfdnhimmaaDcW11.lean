/- Walks: each function comes to what its model says. -/
import Derived.Test.YtgcjgmfdnhimmaaDcTab
import Derived.Test.YtgcjgmfdnhimmaaDcM
import Derived.Test.YtgcjgmfdnhimmaaDcW10
import Derived.Test.YtgcjgmfdnhimmaaDcW4
namespace Go.Dc
open Go Go.Proofs
set_option maxRecDepth 100000
set_option maxHeartbeats 4000000
set_option linter.unusedVariables false
theorem changeforgelaw2_single_ok {g : Gh} {fr : Hl} {w : World} {r : Patch} (at_ : Int) (old_ : (List ByteArray)) (vold_1 : Value) (hold_1 : RepSl g old_ vold_1) (new_ : (List ByteArray)) (vnew_1 : Value) (hnew_1 : RepSl g new_ vnew_1) (S : St g [] fr w) (hm : changeforgelaw2_single at_ old_ new_ = some r) :
  Calls Try.prog 29 [.int .i64 at_, vold_1, vnew_1].toArray w (fun en w' => ∃ v, en = .returned v ∧ ∃ (g' : Gh) (v1 : Value) (c1 : Hl), Le g g' ∧ St g' [c1] fr w' ∧ OwnS g' r.Hunks v1 c1 ∧ .agg #[v1] = v) := by
 unfold changeforgelaw2_single at hm
 refine calls_enter (fn := Try.f29) Try.func29 rfl Try.ntmps29 (lb rfl) ?_
 intro a F
 replace F : Fr 13 a [(0, .int .i64 at_), (1, vold_1), (2, vnew_1)] := F
 refine wp_seq ?_
 refine wp_region_lit ?_
 refine wl_alloc (wn rfl) rfl tz38 (cs := [nilS]) rfl F S rfl rfl ?_; clear F a S; rintro b1 a w F S
 refine wpList_nil ?_
 refine then_n ?_
 refine wp_seq ?_
 refine wp_region_lit ?_
 refine wl_ev (wn rfl) (ev_move rfl) F S rfl rfl ?_; clear F a; intro a F
 refine wl_ev (wn rfl) (ev_move rfl) F S rfl rfl ?_; clear F a; intro a F
 refine wl_ev (wn rfl) (ev_move rfl) F S rfl rfl ?_; clear F a; intro a F
 refine wl_ev (wn rfl) (ev_build (parts := [(0, .tmp 7), (1, .tmp 8), (2, .tmp 9)]) (vs := [(0, .int .i64 at_), (1, vold_1), (2, vnew_1)]) rfl (fun w => tb60_0_1_2 at_ vold_1 (RepSl.isSl hold_1) vnew_1 (RepSl.isSl hnew_1) w)) F S rfl rfl ?_; clear F a; intro a F
 refine wl_lit (l := ([({ At := at_, Old := old_, New := new_ } : Hunk)] : List Hunk)) (vs := [.agg #[.int .i64 at_, vold_1, vnew_1]]) (parts := [(0, .tmp 10)]) (wn rfl) rfl rfl rfl tu36 te60 (sz_cons rfl sz_nil) rfl (Cat.cons (rep_Hunk_mk (x := ({ At := at_, Old := old_, New := new_ } : Hunk)) hold_1 hnew_1) (Cat.nil _)) (coa_cons rfl coa_nil) rfl F S rfl rfl ?_; clear F a S
 rintro v1 c1 a w h1 F S
 refine wl_ev (wn rfl) (ev_build (parts := [(0, .tmp 11)]) (vs := [(0, v1)]) rfl (fun w => tb38_0 v1 (OwnS.isSl h1) w)) F S rfl rfl ?_; clear F a; intro a F
 refine wl_storeC (wn rfl) rfl F S rfl rfl (vs := [v1]) rfl ts38 (one_cons (OwnS.one h1) one_nil) (k := 1) rfl (lb rfl) (c' := #[v1]) rfl rfl ?_; clear S; intro w S
 replace S : St g [c1, [(b1, .cells #[v1] 38 (0, 0))]] fr w := S
 refine wpList_nil ?_
 replace F := F.sub (e' := [(6, bp b1 0)]) ⟨rfl, trivial⟩
 refine then_n ?_
 refine wp_ret ?_
 obtain rfl := sinj hm
 refine post_r (fn := Try.f29) (rs := [.cell 6 38]) [.agg #[v1]] F rfl (ar_cons (resA rfl tu38 rfl ts38 (box_ptr (cells := [v1]) 1 rfl 0 rfl (lb rfl) w S)) ar_nil) ?_
 replace S : St g [c1] fr w := St.tail [c1] _ (S.frontC 0 rfl)
 exact ⟨_, rfl, g, v1, c1, (Le.refl _), S, h1, rfl⟩

theorem changeforgelaw2_dropped_ok {g : Gh} {fr : Hl} {w : World} {r : Bool}  (S : St g [] fr w) (hm : changeforgelaw2_dropped = some r) :
  Calls Try.prog 15 [].toArray w (fun en w' => ∃ v, en = .returned v ∧ ∃ (g' : Gh), Le g g' ∧ St g' [] fr w' ∧ .bool r = v) := by
 unfold changeforgelaw2_dropped at hm
 refine calls_enter (fn := Try.f15) Try.func15 rfl Try.ntmps15 (lb rfl) ?_
 intro a F
 replace F : Fr 46 a [] := F
 refine wp_seq ?_
 refine wp_region_lit ?_
 refine wl_ev (wn rfl) (ev_assign rfl) F S rfl rfl ?_; clear F a; intro a F
 refine wpList_nil ?_
 replace F := F.sub (e' := []) trivial
 refine then_n ?_
 refine wp_seq ?_
 refine wp_region_lit ?_
 refine wl_lit (l := ([(⟨#[97]⟩ : ByteArray)] : List ByteArray)) (vs := [.string (⟨#[97]⟩ : ByteArray)]) (parts := [(0, .const (.string (⟨#[97]⟩ : ByteArray)))]) (wn rfl) rfl rfl rfl tu31 te9 (sz_cons rfl sz_nil) rfl (Cat.cons (show Rep.rep _ (⟨#[97]⟩ : ByteArray) _ from rfl) (Cat.nil _)) (coa_cons rfl coa_nil) rfl F S rfl rfl ?_; clear F a S
 rintro v1 c1 a w h1 F S
 obtain ⟨g1, l1, S, h2⟩ : ∃ gz, Le g gz ∧ St gz [] fr w ∧ RepSl gz ([(⟨#[97]⟩ : ByteArray)] : List ByteArray) v1 := ⟨_, Le.add _ _, S.freeze 0 rfl, OwnS.freeze (S.front 0 rfl) h1⟩
 obtain ⟨y1, hy1, hm⟩ := bind_some hm
 refine wl_call (wn rfl) rfl (xs := [.const (.int .i64 0), .const (nilS), .tmp 7]) (vs := [.int .i64 0, nilS, v1]) (cap := []) F rfl rfl tc29 (changeforgelaw2_single_ok (g := g1) (fr := fr) (w := w) 0 ([] : List ByteArray) (nilS) (RepSl.nil _) ([(⟨#[97]⟩ : ByteArray)] : List ByteArray) v1 h2 S hy1) rfl rfl ?_; clear F a S
 rintro _ a w ⟨g2, v2, c2, l2, S, h3, rfl⟩ F; replace S : St g2 [c2] fr w := S
 refine wl_alloc (wn rfl) rfl tz38 (cs := [nilS]) rfl F S rfl rfl ?_; clear F a S; rintro b1 a w F S
 refine wl_storeC (wn rfl) rfl F S rfl rfl (vs := [v2]) rfl ts38 (one_cons (OwnS.one h3) one_nil) (k := 0) rfl (lb rfl) (c' := #[v2]) rfl rfl ?_; clear S; intro w S
 replace S : St g2 [[(b1, .cells #[v2] 38 (0, 0))], c2] fr w := S
 refine wpList_nil ?_
 replace F := F.sub (e' := [(1, bp b1 0)]) ⟨rfl, trivial⟩
 refine then_n ?_
 refine wp_seq ?_
 obtain ⟨g3, l3, S, h4⟩ : ∃ gz, Le g2 gz ∧ St gz [[(b1, .cells #[v2] 38 (0, 0))]] fr w ∧ RepSl gz y1.Hunks v2 := ⟨_, Le.add _ _, S.freeze 1 rfl, OwnS.freeze (S.front 1 rfl) h3⟩
 obtain ⟨y2, hy2, hm⟩ := bind_some hm
 obtain ⟨y3, hy3, hm⟩ := bind_some hm
 refine wp_drawL ⟨1, [[10], [11], [12], [13], [14], [9, 14], [15, 14], [16], [17], [4], [2, 14], [3], [4]], [[], [], [1], [2], [3], [], [], [], [], [], [], [], [9]], [[13], [], [], [], [], [], [], [], [], [], [], [], []], [[1], [], [], [], [], [], [], [], [], [], [], [], []], [[], [], [1], [0, 2], [3], [4], [4, 5], [4, 5], [4, 5], [], [4, 6], [7], [8, 9]], [1], [0, 4, 5, 6, 7, 8, 10, 11, 12, 13]⟩
  [([10], fun us g c => us = [.agg #[v2]]),
   ([11], fun us g c => ∃ v3 : Value, us = [v3] ∧ OwnS g ([(⟨#[98]⟩ : ByteArray)] : List ByteArray) v3 c),
   ([12], fun us g c => ∃ v4 : Value, us = [.agg #[v4]] ∧ OwnS g y2.Hunks v4 c),
   ([13], fun us g c => ∃ v5 : Value, us = [v5] ∧ OwnS g ([y1, y2] : List Patch) v5 c),
   ([14], fun us g c => ∃ v6 : Value, us = [.tuple #[v6, .bool y3.2.1, .agg #[.int .i64 y3.2.2.Code, .int .i64 y3.2.2.Index]]] ∧ OwnS g y3.1 v6 c),
   ([9, 14], fun us g c => ∃ v6 : Value, us = [.tuple #[v6, .bool y3.2.1, .agg #[.int .i64 y3.2.2.Code, .int .i64 y3.2.2.Index]], .tuple #[v6, .bool y3.2.1, .agg #[.int .i64 y3.2.2.Code, .int .i64 y3.2.2.Index]]]),
   ([15, 14], fun us g c => ∃ v6 : Value, us = [v6, .tuple #[v6, .bool y3.2.1, .agg #[.int .i64 y3.2.2.Code, .int .i64 y3.2.2.Index]]]),
   ([16], fun us g c => us = [.bool y3.2.1]),
   ([17], fun us g c => us = [.agg #[.int .i64 y3.2.2.Code, .int .i64 y3.2.2.Index]]),
   ([4], fun us g c => ∃ b2 : Nat, us = [bp b2 0] ∧ c = [(b2, .cells #[.int .i64 0, .int .i64 0] 24 (0, 0))]),
   ([2, 14], fun us g c => ∃ v6 : Value, us = [v6, .tuple #[v6, .bool y3.2.1, .agg #[.int .i64 y3.2.2.Code, .int .i64 y3.2.2.Index]]]),
   ([3], fun us g c => us = [.bool y3.2.1]),
   ([4], fun us g c => ∃ b2 : Nat, us = [bp b2 0] ∧ c = [(b2, .cells #[.int .i64 y3.2.2.Code, .int .i64 y3.2.2.Index] 24 (0, 0))])]
  mo (by kernel_rfl) rfl rfl ⟨fun _ _ _ _ _ h => h, fun _ _ _ _ l ⟨x0, e0, h0⟩ => ⟨x0, e0, h0.mono l⟩, fun _ _ _ _ l ⟨x0, e0, h0⟩ => ⟨x0, e0, h0.mono l⟩, fun _ _ _ _ l ⟨x0, e0, h0⟩ => ⟨x0, e0, h0.mono l⟩, fun _ _ _ _ l ⟨x0, e0, h0⟩ => ⟨x0, e0, h0.mono l⟩, fun _ _ _ _ _ h => h, fun _ _ _ _ _ h => h, fun _ _ _ _ _ h => h, fun _ _ _ _ _ h => h, fun _ _ _ _ _ h => h, fun _ _ _ _ _ h => h, fun _ _ _ _ _ h => h, fun _ _ _ _ _ h => h, trivial⟩ F S ⟨?_, ?_, ?_, ?_, ?_, ?_, ?_, ?_, ?_, ?_, ?_, ?_, ?_, trivial⟩ ?_
 ·intro a w gd1 c fr hsz hdf hK ld1 hN hI S
  have F : Fr 46 a [(1, bp b1 0)] := Fr.of hsz hdf ⟨hK 1 (by decide) _ rfl, trivial⟩
  replace S : St gd1 [c 13] fr w := S.of_eq (flat2 _ _ _ _)
  have q13 : c 13 = [(b1, .cells #[v2] 38 (0, 0))] := hI 0 _ rfl
  rw [q13] at S
  refine wl_ev (wn rfl) (ev_loadA tu38 rfl (cs := [v2]) ts38 rfl (box_ptr (cells := [v2]) 0 rfl 0 rfl (lb rfl))) F S rfl rfl ?_; clear F; intro a F
  refine wpList_nil ⟨rfl, F.sz, F.df, _, [], (Le.refl _), ?_, (lst1 (F.get 10 _ rfl))⟩
  refine St0.of_eq ?_ (flat3 c [] [13] fr).symm
  show St0 _ (fl ([] ++ [c 13]) fr) _
  rw [q13]
  exact S
 ·intro a w gd1 c fr hsz hdf hK ld1 hN hI S
  have F : Fr 46 a [] := Fr.of hsz hdf trivial
  replace S : St gd1 [] fr w := S.of_eq (flat2 _ _ _ _)
  refine wl_lit (l := ([(⟨#[98]⟩ : ByteArray)] : List ByteArray)) (vs := [.string (⟨#[98]⟩ : ByteArray)]) (parts := [(0, .const (.string (⟨#[98]⟩ : ByteArray)))]) (wn rfl) rfl rfl rfl tu31 te9 (sz_cons rfl sz_nil) rfl (Cat.cons (show Rep.rep _ (⟨#[98]⟩ : ByteArray) _ from rfl) (Cat.nil _)) (coa_cons rfl coa_nil) rfl F S rfl rfl ?_; clear F S
  rintro v3 c3 a w h5 F S
  refine wpList_nil ⟨rfl, F.sz, F.df, _, c3, (Le.refl _), ?_, ⟨v3, (lst1 (F.get 11 _ rfl)), h5⟩⟩
  refine St0.of_eq ?_ (flat3s c (c3) [] fr).symm
  show St0 _ (fl ([c3] ++ []) fr) _
  exact S
 ·intro a w gd1 c fr hsz hdf hK ld1 hN hI S
  obtain ⟨v3, e1, lh1⟩ := hN 1 (by decide)
  have e11x : val a 11 = v3 := nth e1 0
  have F : Fr 46 a [(11, v3)] := Fr.of hsz hdf ⟨e11x, trivial⟩
  replace S : St gd1 [c 1] fr w := S.of_eq (flat2 _ _ _ _)
  obtain ⟨g4, l4, S, h6⟩ : ∃ gz, Le gd1 gz ∧ St gz [] fr w ∧ RepSl gz ([(⟨#[98]⟩ : ByteArray)] : List ByteArray) v3 := ⟨_, Le.add _ _, S.freeze 0 rfl, OwnS.freeze (S.front 0 rfl) lh1⟩
  refine wl_call (wn rfl) rfl (xs := [.const (.int .i64 1), .const (nilS), .tmp 11]) (vs := [.int .i64 1, nilS, v3]) (cap := []) F rfl rfl tc29 (changeforgelaw2_single_ok (g := g4) (fr := fr) (w := w) 1 ([] : List ByteArray) (nilS) (RepSl.nil _) ([(⟨#[98]⟩ : ByteArray)] : List ByteArray) v3 h6 S hy2) rfl rfl ?_; clear F S
  rintro _ a w ⟨g5, v4, c4, l5, S, h7, rfl⟩ F; replace S : St g5 [c4] fr w := S
  refine wpList_nil ⟨rfl, F.sz, F.df, _, c4, (l4.trans l5), ?_, ⟨v4, (lst1 (F.get 12 _ rfl)), h7⟩⟩
  refine St0.of_eq ?_ (flat3s c (c4) [] fr).symm
  show St0 _ (fl ([c4] ++ []) fr) _
  exact S
 ·intro a w gd1 c fr hsz hdf hK ld1 hN hI S
  have e0 := hN 0 (by decide)
  have e10x : val a 10 = .agg #[v2] := nth e0 0
  obtain ⟨v4, e2, lh1⟩ := hN 2 (by decide)
  have e12x : val a 12 = .agg #[v4] := nth e2 0
  have F : Fr 46 a [(10, .agg #[v2]), (12, .agg #[v4])] := Fr.of hsz hdf ⟨e10x, e12x, trivial⟩
  replace S : St gd1 [c 2] fr w := S.of_eq (flat2 _ _ _ _)
  obtain ⟨g6, l6, S, h8⟩ : ∃ gz, Le gd1 gz ∧ St gz [] fr w ∧ RepSl gz y2.Hunks v4 := ⟨_, Le.add _ _, S.freeze 0 rfl, OwnS.freeze (S.front 0 rfl) lh1⟩
  refine wl_lit (l := ([y1, y2] : List Patch)) (vs := [.agg #[v2], .agg #[v4]]) (parts := [(0, .tmp 10), (1, .tmp 12)]) (wn rfl) rfl rfl rfl tu22 te38 (sz_cons rfl (sz_cons rfl sz_nil)) rfl (Cat.cons (rep_Patch_mk (x := y1) (h4.mono (ld1.trans l6))) (Cat.cons (rep_Patch_mk (x := y2) h8) (Cat.nil _))) (coa_cons rfl (coa_cons rfl coa_nil)) rfl F S rfl rfl ?_; clear F S
  rintro v5 c5 a w h9 F S
  refine wpList_nil ⟨rfl, F.sz, F.df, _, c5, l6, ?_, ⟨v5, (lst1 (F.get 13 _ rfl)), h9⟩⟩
  refine St0.of_eq ?_ (flat3s c (c5) [] fr).symm
  show St0 _ (fl ([c5] ++ []) fr) _
  exact S
 ·intro a w gd1 c fr hsz hdf hK ld1 hN hI S
  obtain ⟨v5, e3, lh1⟩ := hN 3 (by decide)
  have e13x : val a 13 = v5 := nth e3 0
  have F : Fr 46 a [(13, v5)] := Fr.of hsz hdf ⟨e13x, trivial⟩
  replace S : St gd1 [c 3] fr w := S.of_eq (flat2 _ _ _ _)
  obtain ⟨g7, l7, S, h10⟩ : ∃ gz, Le gd1 gz ∧ St gz [] fr w ∧ RepSl gz ([y1, y2] : List Patch) v5 := ⟨_, Le.add _ _, S.freeze 0 rfl, OwnS.freeze (S.front 0 rfl) lh1⟩
  refine wl_call (wn rfl) rfl (xs := [.tmp 13, .const (.int .i64 1)]) (vs := [v5, .int .i64 1]) (cap := []) F rfl rfl tc12 (stack_Drop_ok (g := g7) (fr := fr) (w := w) ([y1, y2] : List Patch) v5 h10 1 S hy3) rfl rfl ?_; clear F S
  rintro _ a w ⟨g8, v6, c6, l8, S, h11, rfl⟩ F; replace S : St g8 [c6] fr w := S
  refine wpList_nil ⟨rfl, F.sz, F.df, _, c6, (l7.trans l8), ?_, ⟨v6, (lst1 (F.get 14 _ rfl)), h11⟩⟩
  refine St0.of_eq ?_ (flat3s c (c6) [] fr).symm
  show St0 _ (fl ([c6] ++ []) fr) _
  exact S
 ·intro a w gd1 c fr hsz hdf hK ld1 hN hI S
  obtain ⟨v6, e4, lh1⟩ := hN 4 (by decide)
  have e14x : val a 14 = .tuple #[v6, .bool y3.2.1, .agg #[.int .i64 y3.2.2.Code, .int .i64 y3.2.2.Index]] := nth e4 0
  have F : Fr 46 a [(14, .tuple #[v6, .bool y3.2.1, .agg #[.int .i64 y3.2.2.Code, .int .i64 y3.2.2.Index]])] := Fr.of hsz hdf ⟨e14x, trivial⟩
  replace S : St gd1 [] fr w := S.of_eq (flat2 _ _ _ _)
  refine wl_ev (wn rfl) (ev_move rfl) F S rfl rfl ?_; clear F; intro a F
  refine wpList_nil ⟨rfl, F.sz, F.df, _, [], (Le.refl _), ?_, ⟨v6, (lst2 (F.get 9 _ rfl) (F.get 14 _ rfl))⟩⟩
  refine St0.of_eq ?_ (flat3 c [] [] fr).symm
  show St0 _ (fl ([] ++ []) fr) _
  exact S
 ·intro a w gd1 c fr hsz hdf hK ld1 hN hI S
  obtain ⟨v6, e4, lh1⟩ := hN 4 (by decide)
  have e14x : val a 14 = .tuple #[v6, .bool y3.2.1, .agg #[.int .i64 y3.2.2.Code, .int .i64 y3.2.2.Index]] := nth e4 0
  obtain ⟨dup1, e5⟩ := hN 5 (by decide)
  obtain rfl : v6 = dup1 := by have hq := e14x.symm.trans (nth e5 1); simp at hq; first | exact hq | exact hq.1 | exact hq.2 | exact hq.2.1 | exact hq.2.2
  have e9x : val a 9 = .tuple #[v6, .bool y3.2.1, .agg #[.int .i64 y3.2.2.Code, .int .i64 y3.2.2.Index]] := nth e5 0
  have F : Fr 46 a [(14, .tuple #[v6, .bool y3.2.1, .agg #[.int .i64 y3.2.2.Code, .int .i64 y3.2.2.Index]]), (9, .tuple #[v6, .bool y3.2.1, .agg #[.int .i64 y3.2.2.Code, .int .i64 y3.2.2.Index]])] := Fr.of hsz hdf ⟨e14x, e9x, trivial⟩
  replace S : St gd1 [] fr w := S.of_eq (flat2 _ _ _ _)
  refine wl_ev (wn rfl) (ev_extract (vs := [v6, .bool y3.2.1, .agg #[.int .i64 y3.2.2.Code, .int .i64 y3.2.2.Index]]) rfl rfl) F S rfl rfl ?_; clear F; intro a F
  refine wpList_nil ⟨rfl, F.sz, F.df, _, [], (Le.refl _), ?_, ⟨v6, (lst2 (F.get 15 _ rfl) (F.get 14 _ rfl))⟩⟩
  refine St0.of_eq ?_ (flat3 c [] [] fr).symm
  show St0 _ (fl ([] ++ []) fr) _
  exact S
 ·intro a w gd1 c fr hsz hdf hK ld1 hN hI S
  obtain ⟨v6, e4, lh1⟩ := hN 4 (by decide)
  have e14x : val a 14 = .tuple #[v6, .bool y3.2.1, .agg #[.int .i64 y3.2.2.Code, .int .i64 y3.2.2.Index]] := nth e4 0
  obtain ⟨dup1, e5⟩ := hN 5 (by decide)
  obtain rfl : v6 = dup1 := by have hq := e14x.symm.trans (nth e5 1); simp at hq; first | exact hq | exact hq.1 | exact hq.2 | exact hq.2.1 | exact hq.2.2
  have e9x : val a 9 = .tuple #[v6, .bool y3.2.1, .agg #[.int .i64 y3.2.2.Code, .int .i64 y3.2.2.Index]] := nth e5 0
  have F : Fr 46 a [(14, .tuple #[v6, .bool y3.2.1, .agg #[.int .i64 y3.2.2.Code, .int .i64 y3.2.2.Index]]), (9, .tuple #[v6, .bool y3.2.1, .agg #[.int .i64 y3.2.2.Code, .int .i64 y3.2.2.Index]])] := Fr.of hsz hdf ⟨e14x, e9x, trivial⟩
  replace S : St gd1 [] fr w := S.of_eq (flat2 _ _ _ _)
  refine wl_ev (wn rfl) (ev_extract (vs := [v6, .bool y3.2.1, .agg #[.int .i64 y3.2.2.Code, .int .i64 y3.2.2.Index]]) rfl rfl) F S rfl rfl ?_; clear F; intro a F
  refine wpList_nil ⟨rfl, F.sz, F.df, _, [], (Le.refl _), ?_, (lst1 (F.get 16 _ rfl))⟩
  refine St0.of_eq ?_ (flat3 c [] [] fr).symm
  show St0 _ (fl ([] ++ []) fr) _
  exact S
 ·intro a w gd1 c fr hsz hdf hK ld1 hN hI S
  obtain ⟨v6, e4, lh1⟩ := hN 4 (by decide)
  have e14x : val a 14 = .tuple #[v6, .bool y3.2.1, .agg #[.int .i64 y3.2.2.Code, .int .i64 y3.2.2.Index]] := nth e4 0
  obtain ⟨dup1, e5⟩ := hN 5 (by decide)
  obtain rfl : v6 = dup1 := by have hq := e14x.symm.trans (nth e5 1); simp at hq; first | exact hq | exact hq.1 | exact hq.2 | exact hq.2.1 | exact hq.2.2
  have e9x : val a 9 = .tuple #[v6, .bool y3.2.1, .agg #[.int .i64 y3.2.2.Code, .int .i64 y3.2.2.Index]] := nth e5 0
  have F : Fr 46 a [(14, .tuple #[v6, .bool y3.2.1, .agg #[.int .i64 y3.2.2.Code, .int .i64 y3.2.2.Index]]), (9, .tuple #[v6, .bool y3.2.1, .agg #[.int .i64 y3.2.2.Code, .int .i64 y3.2.2.Index]])] := Fr.of hsz hdf ⟨e14x, e9x, trivial⟩
  replace S : St gd1 [] fr w := S.of_eq (flat2 _ _ _ _)
  refine wl_ev (wn rfl) (ev_extract (vs := [v6, .bool y3.2.1, .agg #[.int .i64 y3.2.2.Code, .int .i64 y3.2.2.Index]]) rfl rfl) F S rfl rfl ?_; clear F; intro a F
  refine wpList_nil ⟨rfl, F.sz, F.df, _, [], (Le.refl _), ?_, (lst1 (F.get 17 _ rfl))⟩
  refine St0.of_eq ?_ (flat3 c [] [] fr).symm
  show St0 _ (fl ([] ++ []) fr) _
  exact S
 ·intro a w gd1 c fr hsz hdf hK ld1 hN hI S
  have F : Fr 46 a [] := Fr.of hsz hdf trivial
  replace S : St gd1 [] fr w := S.of_eq (flat2 _ _ _ _)
  refine wl_alloc (wn rfl) rfl tz24 (cs := [.int .i64 0, .int .i64 0]) rfl F S rfl rfl ?_; clear F S; rintro b2 a w F S
  refine wpList_nil ⟨rfl, F.sz, F.df, _, [(b2, .cells #[.int .i64 0, .int .i64 0] 24 (0, 0))], (Le.refl _), ?_, ⟨b2, (lst1 (F.get 4 _ rfl)), rfl⟩⟩
  refine St0.of_eq ?_ (flat3s c ([(b2, .cells #[.int .i64 0, .int .i64 0] 24 (0, 0))]) [] fr).symm
  show St0 _ (fl ([[(b2, .cells #[.int .i64 0, .int .i64 0] 24 (0, 0))]] ++ []) fr) _
  exact S
 ·intro a w gd1 c fr hsz hdf hK ld1 hN hI S
  obtain ⟨v6, e4, lh1⟩ := hN 4 (by decide)
  have e14x : val a 14 = .tuple #[v6, .bool y3.2.1, .agg #[.int .i64 y3.2.2.Code, .int .i64 y3.2.2.Index]] := nth e4 0
  obtain ⟨dup1, e6⟩ := hN 6 (by decide)
  obtain rfl : v6 = dup1 := by have hq := e14x.symm.trans (nth e6 1); simp at hq; first | exact hq | exact hq.1 | exact hq.2 | exact hq.2.1 | exact hq.2.2
  have e15x : val a 15 = v6 := nth e6 0
  have F : Fr 46 a [(14, .tuple #[v6, .bool y3.2.1, .agg #[.int .i64 y3.2.2.Code, .int .i64 y3.2.2.Index]]), (15, v6)] := Fr.of hsz hdf ⟨e14x, e15x, trivial⟩
  replace S : St gd1 [] fr w := S.of_eq (flat2 _ _ _ _)
  refine wl_ev (wn rfl) (ev_assign rfl) F S rfl rfl ?_; clear F; intro a F
  refine wpList_nil ⟨rfl, F.sz, F.df, _, [], (Le.refl _), ?_, ⟨v6, (lst2 (F.get 2 _ rfl) (F.get 14 _ rfl))⟩⟩
  refine St0.of_eq ?_ (flat3 c [] [] fr).symm
  show St0 _ (fl ([] ++ []) fr) _
  exact S
 ·intro a w gd1 c fr hsz hdf hK ld1 hN hI S
  have e7 := hN 7 (by decide)
  have e16x : val a 16 = .bool y3.2.1 := nth e7 0
  have F : Fr 46 a [(16, .bool y3.2.1)] := Fr.of hsz hdf ⟨e16x, trivial⟩
  replace S : St gd1 [] fr w := S.of_eq (flat2 _ _ _ _)
  refine wl_ev (wn rfl) (ev_assign rfl) F S rfl rfl ?_; clear F; intro a F
  refine wpList_nil ⟨rfl, F.sz, F.df, _, [], (Le.refl _), ?_, (lst1 (F.get 3 _ rfl))⟩
  refine St0.of_eq ?_ (flat3 c [] [] fr).symm
  show St0 _ (fl ([] ++ []) fr) _
  exact S
 ·intro a w gd1 c fr hsz hdf hK ld1 hN hI S
  have e8 := hN 8 (by decide)
  have e17x : val a 17 = .agg #[.int .i64 y3.2.2.Code, .int .i64 y3.2.2.Index] := nth e8 0
  obtain ⟨b2, e9, q9⟩ := hN 9 (by decide)
  have e4x : val a 4 = bp b2 0 := nth e9 0
  have F : Fr 46 a [(17, .agg #[.int .i64 y3.2.2.Code, .int .i64 y3.2.2.Index]), (4, bp b2 0)] := Fr.of hsz hdf ⟨e17x, e4x, trivial⟩
  replace S : St gd1 [c 9] fr w := S.of_eq (flat2 _ _ _ _)
  rw [q9] at S
  refine wl_storeC (wn rfl) rfl F S rfl rfl (vs := [.int .i64 y3.2.2.Code, .int .i64 y3.2.2.Index]) rfl ts24 (one_cons rfl (one_cons rfl one_nil)) (k := 0) rfl (lb rfl) (c' := #[.int .i64 y3.2.2.Code, .int .i64 y3.2.2.Index]) rfl rfl ?_; clear S; intro w S
  replace S : St gd1 [[(b2, .cells #[.int .i64 y3.2.2.Code, .int .i64 y3.2.2.Index] 24 (0, 0))]] fr w := S
  refine wpList_nil ⟨rfl, F.sz, F.df, _, [(b2, .cells #[.int .i64 y3.2.2.Code, .int .i64 y3.2.2.Index] 24 (0, 0))], (Le.refl _), ?_, ⟨b2, (lst1 (F.get 4 _ rfl)), rfl⟩⟩
  refine St0.of_eq ?_ (flat3s c ([(b2, .cells #[.int .i64 y3.2.2.Code, .int .i64 y3.2.2.Index] 24 (0, 0))]) [] fr).symm
  show St0 _ (fl ([[(b2, .cells #[.int .i64 y3.2.2.Code, .int .i64 y3.2.2.Index] 24 (0, 0))]] ++ []) fr) _
  exact S
 clear F S; intro a w gd1 c hsz hdf hK ld1 hI S hN
 obtain ⟨v6, e4, lh1⟩ := hN 4 (by decide)
 have e14x : val a 14 = .tuple #[v6, .bool y3.2.1, .agg #[.int .i64 y3.2.2.Code, .int .i64 y3.2.2.Index]] := nth e4 0
 obtain ⟨b2, e9, q9⟩ := hN 9 (by decide)
 have e4x : val a 4 = bp b2 0 := nth e9 0
 obtain ⟨dup1, e10⟩ := hN 10 (by decide)
 obtain rfl : v6 = dup1 := by have hq := e14x.symm.trans (nth e10 1); simp at hq; first | exact hq | exact hq.1 | exact hq.2 | exact hq.2.1 | exact hq.2.2
 have e2x : val a 2 = v6 := nth e10 0
 have e11 := hN 11 (by decide)
 have e3x : val a 3 = .bool y3.2.1 := nth e11 0
 obtain ⟨dup2, e12, q12⟩ := hN 12 (by decide)
 obtain rfl : b2 = dup2 := by have hq := e4x.symm.trans (nth e12 0); simp at hq; first | exact hq | exact hq.1 | exact hq.2 | exact hq.2.1 | exact hq.2.2
 have F : Fr 46 a [(1, bp b1 0), (4, bp b2 0), (2, v6), (3, .bool y3.2.1)] := Fr.of hsz hdf ⟨hK 1 (by decide) _ rfl, e4x, e2x, e3x, trivial⟩
 replace S : St gd1 [c 0, c 4, c 5, c 6, c 7, c 8, c 10, c 11, c 12, c 13] fr w := S.of_eq (flat_fl _ _ _)
 generalize c 4 = c6 at *
 rw [q12] at S
 have q13 : c 13 = [(b1, .cells #[v2] 38 (0, 0))] := hI 0 _ rfl
 rw [q13] at S
 replace S : St gd1 [c6, [(b2, .cells #[.int .i64 y3.2.2.Code, .int .i64 y3.2.2.Index] 24 (0, 0))], [(b1, .cells #[v2] 38 (0, 0))]] fr w := St.tail [c6, [(b2, .cells #[.int .i64 y3.2.2.Code, .int .i64 y3.2.2.Index] 24 (0, 0))], [(b1, .cells #[v2] 38 (0, 0))]] _ (((S.frontC 9 rfl).frontC 9 rfl).frontC 3 rfl)
 clear hK hI hN hsz hdf e4 e9 e10 e11 e12 e14x e4x e2x e3x
 refine then_n ?_
 refine wp_seq ?_
 refine wp_region_lit ?_
 refine wl_ev (wn rfl) (ev_loadA tu38 rfl (cs := [v2]) ts38 rfl (box_ptr (cells := [v2]) 2 rfl 0 rfl (lb rfl))) F S rfl rfl ?_; clear F a; intro a F
 refine wl_lit (l := ([y1] : List Patch)) (vs := [.agg #[v2]]) (parts := [(0, .tmp 19)]) (wn rfl) rfl rfl rfl tu22 te38 (sz_cons rfl sz_nil) rfl (Cat.cons (rep_Patch_mk (x := y1) (h4.mono ld1)) (Cat.nil _)) (coa_cons rfl coa_nil) rfl F S rfl rfl ?_; clear F a S
 rintro v7 c7 a w h12 F S
 obtain ⟨g9, l9, S, h13⟩ : ∃ gz, Le gd1 gz ∧ St gz [c6, [(b2, .cells #[.int .i64 y3.2.2.Code, .int .i64 y3.2.2.Index] 24 (0, 0))], [(b1, .cells #[v2] 38 (0, 0))]] fr w ∧ RepSl gz ([y1] : List Patch) v7 := ⟨_, Le.add _ _, S.freeze 0 rfl, OwnS.freeze (S.front 0 rfl) h12⟩
 obtain ⟨y4, hy4, hm⟩ := bind_some hm
 refine wl_call (wn rfl) rfl (xs := [.const (nilS), .tmp 20]) (vs := [nilS, v7]) (cap := []) F rfl rfl tc16 (stack_Apply_ok (g := g9) (fr := (fl [c6, [(b2, .cells #[.int .i64 y3.2.2.Code, .int .i64 y3.2.2.Index] 24 (0, 0))], [(b1, .cells #[v2] 38 (0, 0))]] fr)) (w := w) ([] : List ByteArray) (nilS) (RepSl.nil _) ([y1] : List Patch) v7 h13 S hy4) rfl rfl ?_; clear F a S
 rintro _ a w ⟨g10, v8, c8, l10, S, h14, rfl⟩ F; replace S : St g10 [c8, c6, [(b2, .cells #[.int .i64 y3.2.2.Code, .int .i64 y3.2.2.Index] 24 (0, 0))], [(b1, .cells #[v2] 38 (0, 0))]] fr w := S
 refine wl_ev (wn rfl) (ev_move rfl) F S rfl rfl ?_; clear F a; intro a F
 refine wl_ev (wn rfl) (ev_extract (vs := [v8, .agg #[.int .i64 y4.2.Code, .int .i64 y4.2.Index]]) rfl rfl) F S rfl rfl ?_; clear F a; intro a F
 refine wl_ev (wn rfl) (ev_extract (vs := [v8, .agg #[.int .i64 y4.2.Code, .int .i64 y4.2.Index]]) rfl rfl) F S rfl rfl ?_; clear F a; intro a F
 refine wl_alloc (wn rfl) rfl tz24 (cs := [.int .i64 0, .int .i64 0]) rfl F S rfl rfl ?_; clear F a S; rintro b3 a w F S
 refine wl_ev (wn rfl) (ev_assign rfl) F S rfl rfl ?_; clear F a; intro a F
 refine wl_storeC (wn rfl) rfl F S rfl rfl (vs := [.int .i64 y4.2.Code, .int .i64 y4.2.Index]) rfl ts24 (one_cons rfl (one_cons rfl one_nil)) (k := 0) rfl (lb rfl) (c' := #[.int .i64 y4.2.Code, .int .i64 y4.2.Index]) rfl rfl ?_; clear S; intro w S
 replace S : St g10 [[(b3, .cells #[.int .i64 y4.2.Code, .int .i64 y4.2.Index] 24 (0, 0))], c8, c6, [(b2, .cells #[.int .i64 y3.2.2.Code, .int .i64 y3.2.2.Index] 24 (0, 0))], [(b1, .cells #[v2] 38 (0, 0))]] fr w := S
 refine wpList_nil ?_
 replace F := F.sub (e' := [(5, v8), (6, bp b3 0), (1, bp b1 0), (4, bp b2 0), (2, v6), (3, .bool y3.2.1)]) ⟨rfl, rfl, rfl, rfl, rfl, rfl, trivial⟩
 refine then_n ?_
 refine wp_seq ?_
 refine wp_region_lit ?_
 refine wl_ev (wn rfl) (ev_fieldAddr' tu24 tf24_0 (z := 0) ts3 rfl ⟨_, rfl⟩ rfl) F S rfl rfl ?_; clear F a; intro a F
 refine wl_ev (wn rfl) (ev_load1 tu3 rfl rfl (box_ptr (cells := [.int .i64 y3.2.2.Code]) 3 rfl 0 rfl (lb rfl))) F S rfl rfl ?_; clear F a; intro a F
 refine wl_ev (wn rfl) (ev_int rfl rfl (bo_eql _ _ _ _)) F S rfl rfl ?_; clear F a; intro a F
 refine wl_ev (wn rfl) (ev_move rfl) F S rfl rfl ?_; clear F a; intro a F
 obtain ⟨x1, hx1, hm⟩ := bind_some hm
 refine wl_cut 4 (fun a w' => w = w' ∧ Fr 46 a [(31, .bool x1), (5, v8), (1, bp b1 0), (2, v6), (3, .bool y3.2.1)]) ?_ ?_
 ·clear hm; obtain ⟨hc1, hm⟩ | ⟨hc1, hm⟩ := ite_or hx1
  ·refine wl_ev (wg F rfl rfl rfl rfl hc1) (ev_fieldAddr' tu24 tf24_0 (z := 0) ts3 rfl ⟨_, rfl⟩ rfl) F S rfl rfl ?_; clear F a; intro a F
   refine wl_ev (wg F rfl rfl rfl rfl hc1) (ev_load1 tu3 rfl rfl (box_ptr (cells := [.int .i64 y4.2.Code]) 0 rfl 0 rfl (lb rfl))) F S rfl rfl ?_; clear F a; intro a F
   refine wl_ev (wg F rfl rfl rfl rfl hc1) (ev_int rfl rfl (bo_eql _ _ _ _)) F S rfl rfl ?_; clear F a; intro a F
   refine wl_ev (wn rfl) (ev_pickT rfl hc1 rfl) F S rfl rfl ?_; clear F a; intro a F
   obtain rfl := sinj hm
   refine wpList_nil (then_n ?_); exact ⟨rfl, F.sub ⟨rfl, rfl, rfl, rfl, rfl, trivial⟩⟩
  ·refine wl_skip rfl rfl rfl rfl (ne_tf hc1) F rfl rfl ?_; clear F a; intro a F
   refine wl_skip rfl rfl rfl rfl (ne_tf hc1) F rfl rfl ?_; clear F a; intro a F
   refine wl_skip rfl rfl rfl rfl (ne_tf hc1) F rfl rfl ?_; clear F a; intro a F
   refine wl_ev (wn rfl) (ev_pickF rfl hc1 rfl) F S rfl rfl ?_; clear F a; intro a F
   obtain rfl := sinj hm
   refine wpList_nil (then_n ?_); exact ⟨rfl, F.sub ⟨rfl, rfl, rfl, rfl, rfl, trivial⟩⟩
 clear F; rintro a w' ⟨rfl, F⟩
 refine wl_ev (wn rfl) (ev_move rfl) F S rfl rfl ?_; clear F a; intro a F
 obtain ⟨x2, hx2, hm⟩ := bind_some hm
 refine wl_cut 2 (fun a w' => w = w' ∧ Fr 46 a [(34, .bool x2), (5, v8), (1, bp b1 0), (2, v6)]) ?_ ?_
 ·clear hm; obtain ⟨hc2, hm⟩ | ⟨hc2, hm⟩ := ite_or hx2
  ·refine wl_ev (wg F rfl rfl rfl rfl hc2) (ev_move rfl) F S rfl rfl ?_; clear F a; intro a F
   refine wl_ev (wn rfl) (ev_pickT rfl hc2 rfl) F S rfl rfl ?_; clear F a; intro a F
   obtain rfl := sinj hm
   refine wpList_nil (then_n ?_); exact ⟨rfl, F.sub ⟨rfl, rfl, rfl, rfl, trivial⟩⟩
  ·refine wl_skip rfl rfl rfl rfl (ne_tf hc2) F rfl rfl ?_; clear F a; intro a F
   refine wl_ev (wn rfl) (ev_pickF rfl hc2 rfl) F S rfl rfl ?_; clear F a; intro a F
   obtain rfl := sinj hm
   refine wpList_nil (then_n ?_); exact ⟨rfl, F.sub ⟨rfl, rfl, rfl, rfl, trivial⟩⟩
 clear F; rintro a w' ⟨rfl, F⟩
 refine wl_ev (wn rfl) (ev_move rfl) F S rfl rfl ?_; clear F a; intro a F
 obtain ⟨g11, l11, S, h15⟩ : ∃ gz, Le g10 gz ∧ St gz [[(b3, .cells #[.int .i64 y4.2.Code, .int .i64 y4.2.Index] 24 (0, 0))], c8, [(b2, .cells #[.int .i64 y3.2.2.Code, .int .i64 y3.2.2.Index] 24 (0, 0))], [(b1, .cells #[v2] 38 (0, 0))]] fr w ∧ RepSl gz y3.1 v6 := ⟨_, Le.add _ _, S.freeze 2 rfl, OwnS.freeze (S.front 2 rfl) (lh1.mono (l9.trans l10))⟩
 obtain ⟨x3, hx3, hm⟩ := bind_some hm
 refine wl_cut 5 (fun a w => ∃ g12, Fr 46 a [(40, .bool x3), (5, v8)] ∧ Le g11 g12 ∧ St g12 [[(b3, .cells #[.int .i64 y4.2.Code, .int .i64 y4.2.Index] 24 (0, 0))], c8, [(b2, .cells #[.int .i64 y3.2.2.Code, .int .i64 y3.2.2.Index] 24 (0, 0))], [(b1, .cells #[v2] 38 (0, 0))]] fr w) ?_ ?_
 ·clear hm; obtain ⟨hc3, hm⟩ | ⟨hc3, hm⟩ := ite_or hx3
  ·refine wl_ev (wg F rfl rfl rfl rfl hc3) (ev_move rfl) F S rfl rfl ?_; clear F a; intro a F
   refine wl_ev (wg F rfl rfl rfl rfl hc3) (ev_loadA tu38 rfl (cs := [v2]) ts38 rfl (box_ptr (cells := [v2]) 3 rfl 0 rfl (lb rfl))) F S rfl rfl ?_; clear F a; intro a F
   refine wl_lit (l := ([y1] : List Patch)) (vs := [.agg #[v2]]) (parts := [(0, .tmp 37)]) (wg F rfl rfl rfl rfl hc3) rfl rfl rfl tu22 te38 (sz_cons rfl sz_nil) rfl (Cat.cons (rep_Patch_mk (x := y1) (h4.mono (((ld1.trans l9).trans l10).trans l11))) (Cat.nil _)) (coa_cons rfl coa_nil) rfl F S rfl rfl ?_; clear F a S
   rintro v9 c9 a w h16 F S
   obtain ⟨g13, l13, S, h17⟩ : ∃ gz, Le g11 gz ∧ St gz [[(b3, .cells #[.int .i64 y4.2.Code, .int .i64 y4.2.Index] 24 (0, 0))], c8, [(b2, .cells #[.int .i64 y3.2.2.Code, .int .i64 y3.2.2.Index] 24 (0, 0))], [(b1, .cells #[v2] 38 (0, 0))]] fr w ∧ RepSl gz ([y1] : List Patch) v9 := ⟨_, Le.add _ _, S.freeze 0 rfl, OwnS.freeze (S.front 0 rfl) h16⟩
   obtain ⟨y5, hy5, hm⟩ := bind_some hm
   refine wl_call (wg F rfl rfl rfl rfl hc3) rfl (xs := [.tmp 36, .tmp 38]) (vs := [v6, v9]) (cap := []) F rfl rfl tc14 (changeforgeequal_Patches_ok (g := g13) (fr := (fl [[(b3, .cells #[.int .i64 y4.2.Code, .int .i64 y4.2.Index] 24 (0, 0))], c8, [(b2, .cells #[.int .i64 y3.2.2.Code, .int .i64 y3.2.2.Index] 24 (0, 0))], [(b1, .cells #[v2] 38 (0, 0))]] fr)) (w := w) y3.1 v6 (h15.mono l13) ([y1] : List Patch) v9 h17 S hy5) rfl rfl ?_; clear F a S
   rintro _ a w ⟨g14, l14, S, rfl⟩ F; replace S : St g14 [[(b3, .cells #[.int .i64 y4.2.Code, .int .i64 y4.2.Index] 24 (0, 0))], c8, [(b2, .cells #[.int .i64 y3.2.2.Code, .int .i64 y3.2.2.Index] 24 (0, 0))], [(b1, .cells #[v2] 38 (0, 0))]] fr w := S
   refine wl_ev (wn rfl) (ev_pickT rfl hc3 rfl) F S rfl rfl ?_; clear F a; intro a F
   obtain rfl := sinj hm
   refine wpList_nil (then_n ?_); exact ⟨g14, F.sub ⟨rfl, rfl, trivial⟩, (l13.trans l14), S⟩
  ·refine wl_skip rfl rfl rfl rfl (ne_tf hc3) F rfl rfl ?_; clear F a; intro a F
   refine wl_skip rfl rfl rfl rfl (ne_tf hc3) F rfl rfl ?_; clear F a; intro a F
   refine wl_skip rfl rfl rfl rfl (ne_tf hc3) F rfl rfl ?_; clear F a; intro a F
   refine wl_skip rfl rfl rfl rfl (ne_tf hc3) F rfl rfl ?_; clear F a; intro a F
   refine wl_ev (wn rfl) (ev_pickF rfl hc3 rfl) F S rfl rfl ?_; clear F a; intro a F
   obtain rfl := sinj hm
   refine wpList_nil (then_n ?_); exact ⟨g11, F.sub ⟨rfl, rfl, trivial⟩, (Le.refl _), S⟩
 clear F S; rintro a w ⟨g12, F, l12, S⟩
 refine wl_ev (wn rfl) (ev_move rfl) F S rfl rfl ?_; clear F a; intro a F
 obtain ⟨g15, l15, S, h18⟩ : ∃ gz, Le g12 gz ∧ St gz [[(b3, .cells #[.int .i64 y4.2.Code, .int .i64 y4.2.Index] 24 (0, 0))], [(b2, .cells #[.int .i64 y3.2.2.Code, .int .i64 y3.2.2.Index] 24 (0, 0))], [(b1, .cells #[v2] 38 (0, 0))]] fr w ∧ RepSl gz y4.1 v8 := ⟨_, Le.add _ _, S.freeze 1 rfl, OwnS.freeze (S.front 1 rfl) (h14.mono (l11.trans l12))⟩
 obtain ⟨x4, hx4, hm⟩ := bind_some hm
 refine wl_cut 4 (fun a w => ∃ g16, Fr 46 a [(45, .bool x4)] ∧ Le g15 g16 ∧ St g16 [[(b3, .cells #[.int .i64 y4.2.Code, .int .i64 y4.2.Index] 24 (0, 0))], [(b2, .cells #[.int .i64 y3.2.2.Code, .int .i64 y3.2.2.Index] 24 (0, 0))], [(b1, .cells #[v2] 38 (0, 0))]] fr w) ?_ ?_
 ·clear hm; obtain ⟨hc4, hm⟩ | ⟨hc4, hm⟩ := ite_or hx4
  ·refine wl_ev (wg F rfl rfl rfl rfl hc4) (ev_move rfl) F S rfl rfl ?_; clear F a; intro a F
   refine wl_lit (l := ([(⟨#[97]⟩ : ByteArray)] : List ByteArray)) (vs := [.string (⟨#[97]⟩ : ByteArray)]) (parts := [(0, .const (.string (⟨#[97]⟩ : ByteArray)))]) (wg F rfl rfl rfl rfl hc4) rfl rfl rfl tu31 te9 (sz_cons rfl sz_nil) rfl (Cat.cons (show Rep.rep _ (⟨#[97]⟩ : ByteArray) _ from rfl) (Cat.nil _)) (coa_cons rfl coa_nil) rfl F S rfl rfl ?_; clear F a S
   rintro v10 c10 a w h19 F S
   obtain ⟨g17, l17, S, h20⟩ : ∃ gz, Le g15 gz ∧ St gz [[(b3, .cells #[.int .i64 y4.2.Code, .int .i64 y4.2.Index] 24 (0, 0))], [(b2, .cells #[.int .i64 y3.2.2.Code, .int .i64 y3.2.2.Index] 24 (0, 0))], [(b1, .cells #[v2] 38 (0, 0))]] fr w ∧ RepSl gz ([(⟨#[97]⟩ : ByteArray)] : List ByteArray) v10 := ⟨_, Le.add _ _, S.freeze 0 rfl, OwnS.freeze (S.front 0 rfl) h19⟩
   obtain ⟨y6, hy6, hm⟩ := bind_some hm
   refine wl_call (wg F rfl rfl rfl rfl hc4) rfl (xs := [.tmp 42, .tmp 43]) (vs := [v8, v10]) (cap := []) F rfl rfl tc17 (changeforgeequal_Strings_ok (g := g17) (fr := (fl [[(b3, .cells #[.int .i64 y4.2.Code, .int .i64 y4.2.Index] 24 (0, 0))], [(b2, .cells #[.int .i64 y3.2.2.Code, .int .i64 y3.2.2.Index] 24 (0, 0))], [(b1, .cells #[v2] 38 (0, 0))]] fr)) (w := w) y4.1 v8 (h18.mono l17) ([(⟨#[97]⟩ : ByteArray)] : List ByteArray) v10 h20 S hy6) rfl rfl ?_; clear F a S
   rintro _ a w ⟨g18, l18, S, rfl⟩ F; replace S : St g18 [[(b3, .cells #[.int .i64 y4.2.Code, .int .i64 y4.2.Index] 24 (0, 0))], [(b2, .cells #[.int .i64 y3.2.2.Code, .int .i64 y3.2.2.Index] 24 (0, 0))], [(b1, .cells #[v2] 38 (0, 0))]] fr w := S
   refine wl_ev (wn rfl) (ev_pickT rfl hc4 rfl) F S rfl rfl ?_; clear F a; intro a F
   obtain rfl := sinj hm
   refine wpList_nil (then_n ?_); exact ⟨g18, F.sub ⟨rfl, trivial⟩, (l17.trans l18), S⟩
  ·refine wl_skip rfl rfl rfl rfl (ne_tf hc4) F rfl rfl ?_; clear F a; intro a F
   refine wl_skip rfl rfl rfl rfl (ne_tf hc4) F rfl rfl ?_; clear F a; intro a F
   refine wl_skip rfl rfl rfl rfl (ne_tf hc4) F rfl rfl ?_; clear F a; intro a F
   refine wl_ev (wn rfl) (ev_pickF rfl hc4 rfl) F S rfl rfl ?_; clear F a; intro a F
   obtain rfl := sinj hm
   refine wpList_nil (then_n ?_); exact ⟨g15, F.sub ⟨rfl, trivial⟩, (Le.refl _), S⟩
 clear F S; rintro a w ⟨g16, F, l16, S⟩
 refine wl_ev (wn rfl) (ev_assign rfl) F S rfl rfl ?_; clear F a; intro a F
 refine wpList_nil ?_
 replace F := F.sub (e' := [(0, .bool x4)]) ⟨rfl, trivial⟩
 refine then_n ?_
 refine wp_ret ?_
 obtain rfl := sinj hm
 refine post_r (fn := Try.f15) (rs := [.tmp 0]) [.bool x4] F rfl (ar_cons (resT rfl) ar_nil) ?_
 replace S : St g16 [] fr w := St.tail [] _ S
 exact ⟨_, rfl, g16, (((((((((l1.trans l2).trans l3).trans ld1).trans l9).trans l10).trans l11).trans l12).trans l15).trans l16), S, rfl⟩
end Go.Dc
