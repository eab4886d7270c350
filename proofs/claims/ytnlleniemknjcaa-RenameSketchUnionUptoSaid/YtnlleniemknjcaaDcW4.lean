/- Walks: each function comes to what its model says. -/
import Derived.Test.YtnlleniemknjcaaDcTab
import Derived.Test.YtnlleniemknjcaaDcM
import Derived.Test.YtnlleniemknjcaaDcW3
namespace Go.Dc
open Go Go.Proofs
set_option maxRecDepth 100000
set_option linter.unusedVariables false
theorem changeforgelaw2_RenameSimilarityBounds_ok {g : Gh} {fr : Hl} {w : World} {r : Bool} (a_ : (List ByteArray)) (va_1 : Value) (ha_1 : RepSl g a_ va_1) (b_ : (List ByteArray)) (vb_1 : Value) (hb_1 : RepSl g b_ vb_1) (S : St g [] fr w) (hm : changeforgelaw2_RenameSimilarityBounds a_ b_ = some r) :
    Calls Try.prog 6 [va_1, vb_1].toArray w (fun en w' => ∃ v, en = .returned v ∧ ∃ (g' : Gh), Le g g' ∧ St g' [] fr w' ∧ .bool r = v) := by
  unfold changeforgelaw2_RenameSimilarityBounds at hm
  refine calls_enter (fn := Try.f6) Try.func6 rfl Try.ntmps6 (Nat.le_of_ble_eq_true rfl) ?_
  intro a F
  replace F : Fr 52 a [(0, va_1), (1, vb_1)] := F
  refine wp_seq ?_
  refine wp_region_lit ?_
  refine wl_ev (wn rfl) (ev_assign rfl) F S rfl rfl ?_; clear F a; intro a F
  refine wpList_nil ?_
  replace F := F.sub (e' := [(0, va_1), (1, vb_1)]) ⟨rfl, rfl, trivial⟩
  refine then_n ?_
  refine wp_seq ?_
  refine wp_region_lit ?_
  refine wl_ev (wn rfl) (ev_move rfl) F S rfl rfl ?_; clear F a; intro a F
  refine wl_ev (wn rfl) (ev_move rfl) F S rfl rfl ?_; clear F a; intro a F
  obtain ⟨y1, hy1, hm⟩ := bind_some hm
  refine wl_call (wn rfl) rfl (xs := [.tmp 10, .tmp 11]) (vs := [va_1, vb_1]) (cap := []) F rfl rfl tc17 (rename_Similarity_ok (g := g) (fr := fr) (w := w) a_ va_1 ha_1 b_ vb_1 hb_1 S hy1) rfl rfl ?_; clear F a S
  rintro _ a w ⟨g1, l1, S, rfl⟩ F; replace S : St g1 [] fr w := S
  refine wl_ev (wn rfl) (ev_move rfl) F S rfl rfl ?_; clear F a; intro a F
  refine wl_ev (wn rfl) (ev_extract (vs := [.int .i64 y1.1, .agg #[.int .i64 y1.2.Code, .int .i64 y1.2.Index]]) rfl rfl) F S rfl rfl ?_; clear F a; intro a F
  refine wl_ev (wn rfl) (ev_extract (vs := [.int .i64 y1.1, .agg #[.int .i64 y1.2.Code, .int .i64 y1.2.Index]]) rfl rfl) F S rfl rfl ?_; clear F a; intro a F
  refine wl_alloc (wn rfl) rfl tz25 (cs := [.int .i64 0, .int .i64 0]) rfl F S rfl rfl ?_; clear F a S; rintro b1 a w F S
  refine wl_ev (wn rfl) (ev_assign rfl) F S rfl rfl ?_; clear F a; intro a F
  refine wl_storeC (wn rfl) rfl F S rfl rfl (vs := [.int .i64 y1.2.Code, .int .i64 y1.2.Index]) rfl ts25 (one_cons rfl (one_cons rfl one_nil)) (k := 0) rfl (Nat.le_of_ble_eq_true rfl) (c' := #[.int .i64 y1.2.Code, .int .i64 y1.2.Index]) rfl rfl ?_; clear S; intro w S
  replace S : St g1 [[(b1, .cells #[.int .i64 y1.2.Code, .int .i64 y1.2.Index] 25 (0, 0))]] fr w := S
  refine wpList_nil ?_
  replace F := F.sub (e' := [(5, .int .i64 y1.1), (6, .pointer (some ⟨b1, 0, Option.none⟩)), (0, va_1), (1, vb_1)]) ⟨rfl, rfl, rfl, rfl, trivial⟩
  refine then_n ?_
  refine wp_seq ?_
  refine wp_region_lit ?_
  refine wl_ev (wn rfl) (ev_move rfl) F S rfl rfl ?_; clear F a; intro a F
  refine wl_ev (wn rfl) (ev_move rfl) F S rfl rfl ?_; clear F a; intro a F
  obtain ⟨y2, hy2, hm⟩ := bind_some hm
  refine wl_call (wn rfl) rfl (xs := [.tmp 16, .tmp 17]) (vs := [vb_1, va_1]) (cap := []) F rfl rfl tc17 (rename_Similarity_ok (g := g1) (fr := (fl [[(b1, .cells #[.int .i64 y1.2.Code, .int .i64 y1.2.Index] 25 (0, 0))]] fr)) (w := w) b_ vb_1 (hb_1.mono l1) a_ va_1 (ha_1.mono l1) S hy2) rfl rfl ?_; clear F a S
  rintro _ a w ⟨g2, l2, S, rfl⟩ F; replace S : St g2 [[(b1, .cells #[.int .i64 y1.2.Code, .int .i64 y1.2.Index] 25 (0, 0))]] fr w := S
  refine wl_ev (wn rfl) (ev_move rfl) F S rfl rfl ?_; clear F a; intro a F
  refine wl_ev (wn rfl) (ev_extract (vs := [.int .i64 y2.1, .agg #[.int .i64 y2.2.Code, .int .i64 y2.2.Index]]) rfl rfl) F S rfl rfl ?_; clear F a; intro a F
  refine wl_ev (wn rfl) (ev_extract (vs := [.int .i64 y2.1, .agg #[.int .i64 y2.2.Code, .int .i64 y2.2.Index]]) rfl rfl) F S rfl rfl ?_; clear F a; intro a F
  refine wl_alloc (wn rfl) rfl tz25 (cs := [.int .i64 0, .int .i64 0]) rfl F S rfl rfl ?_; clear F a S; rintro b2 a w F S
  refine wl_ev (wn rfl) (ev_assign rfl) F S rfl rfl ?_; clear F a; intro a F
  refine wl_storeC (wn rfl) rfl F S rfl rfl (vs := [.int .i64 y2.2.Code, .int .i64 y2.2.Index]) rfl ts25 (one_cons rfl (one_cons rfl one_nil)) (k := 0) rfl (Nat.le_of_ble_eq_true rfl) (c' := #[.int .i64 y2.2.Code, .int .i64 y2.2.Index]) rfl rfl ?_; clear S; intro w S
  replace S : St g2 [[(b2, .cells #[.int .i64 y2.2.Code, .int .i64 y2.2.Index] 25 (0, 0))], [(b1, .cells #[.int .i64 y1.2.Code, .int .i64 y1.2.Index] 25 (0, 0))]] fr w := S
  refine wpList_nil ?_
  replace F := F.sub (e' := [(7, .int .i64 y2.1), (8, .pointer (some ⟨b2, 0, Option.none⟩)), (5, .int .i64 y1.1), (6, .pointer (some ⟨b1, 0, Option.none⟩)), (0, va_1), (1, vb_1)]) ⟨rfl, rfl, rfl, rfl, rfl, rfl, trivial⟩
  refine then_n ?_
  refine wp_seq ?_
  refine wp_seq ?_
  refine wp_region_lit ?_
  refine wl_ev (wn rfl) (ev_fieldAddr' tu25 tf25_0 (z := 0) ts3 rfl ⟨_, rfl⟩ rfl) F S rfl rfl ?_; clear F a; intro a F
  refine wl_ev (wn rfl) (ev_load1 tu3 rfl rfl (box_ptr (cells := [.int .i64 y1.2.Code]) 1 rfl 0 rfl (Nat.le_of_ble_eq_true rfl))) F S rfl rfl ?_; clear F a; intro a F
  refine wl_ev (wn rfl) (ev_int rfl rfl (bo_neq _ _ _ _)) F S rfl rfl ?_; clear F a; intro a F
  refine wl_ev (wn rfl) (ev_move rfl) F S rfl rfl ?_; clear F a; intro a F
  obtain ⟨x1, hx1, hm⟩ := bind_some hm
  refine wl_cut 4 (fun a w' => w = w' ∧ Fr 52 a [(28, .bool x1), (7, .int .i64 y2.1), (5, .int .i64 y1.1), (0, va_1), (1, vb_1)]) ?_ ?_
  · clear hm; obtain ⟨hc1, hm⟩ | ⟨hc1, hm⟩ := ite_or hx1
    · refine wl_skip rfl rfl rfl rfl (ne_ft hc1) F rfl rfl ?_; clear F a; intro a F
      refine wl_skip rfl rfl rfl rfl (ne_ft hc1) F rfl rfl ?_; clear F a; intro a F
      refine wl_skip rfl rfl rfl rfl (ne_ft hc1) F rfl rfl ?_; clear F a; intro a F
      refine wl_ev (wn rfl) (ev_pickT rfl hc1 rfl) F S rfl rfl ?_; clear F a; intro a F
      obtain rfl := Option.some.inj hm
      refine wpList_nil (then_n ?_); exact ⟨rfl, F.sub ⟨rfl, rfl, rfl, rfl, rfl, trivial⟩⟩
    · refine wl_ev (wg F rfl rfl rfl rfl hc1) (ev_fieldAddr' tu25 tf25_0 (z := 0) ts3 rfl ⟨_, rfl⟩ rfl) F S rfl rfl ?_; clear F a; intro a F
      refine wl_ev (wg F rfl rfl rfl rfl hc1) (ev_load1 tu3 rfl rfl (box_ptr (cells := [.int .i64 y2.2.Code]) 0 rfl 0 rfl (Nat.le_of_ble_eq_true rfl))) F S rfl rfl ?_; clear F a; intro a F
      refine wl_ev (wg F rfl rfl rfl rfl hc1) (ev_int rfl rfl (bo_neq _ _ _ _)) F S rfl rfl ?_; clear F a; intro a F
      refine wl_ev (wn rfl) (ev_pickF rfl hc1 rfl) F S rfl rfl ?_; clear F a; intro a F
      obtain rfl := Option.some.inj hm
      refine wpList_nil (then_n ?_); exact ⟨rfl, F.sub ⟨rfl, rfl, rfl, rfl, rfl, trivial⟩⟩
  clear F; rintro a w' ⟨rfl, F⟩
  refine wpList_nil ?_
  refine then_n ?_
  obtain ⟨hc2, hm⟩ | ⟨hc2, hm⟩ := ite_or hm
  · refine wp_condT F rfl hc2 ?_
    refine wp_seq ?_
    refine wp_region_lit ?_
    obtain ⟨y3, hy3, hm⟩ := bind_some hm
    refine wl_call (wn rfl) rfl (xs := []) (vs := []) (cap := []) F rfl rfl tc18 (changeforgelaw2_half_ok (g := g2) (fr := (fl [[(b2, .cells #[.int .i64 y2.2.Code, .int .i64 y2.2.Index] 25 (0, 0))], [(b1, .cells #[.int .i64 y1.2.Code, .int .i64 y1.2.Index] 25 (0, 0))]] fr)) (w := w)  S hy3) rfl rfl ?_; clear F a S
    rintro _ a w ⟨g3, l3, S, rfl⟩ F; replace S : St g3 [[(b2, .cells #[.int .i64 y2.2.Code, .int .i64 y2.2.Index] 25 (0, 0))], [(b1, .cells #[.int .i64 y1.2.Code, .int .i64 y1.2.Index] 25 (0, 0))]] fr w := S
    refine wl_ev (wn rfl) (ev_assign rfl) F S rfl rfl ?_; clear F a; intro a F
    refine wpList_nil ?_
    replace F := F.sub (e' := [(4, .bool y3)]) ⟨rfl, trivial⟩
    refine then_n ?_
    refine wp_ret ?_
    refine then_r ?_
    obtain rfl := Option.some.inj hm
    refine post_r (fn := Try.f6) (rs := [.tmp 4]) [.bool y3] F rfl (ar_cons (resT rfl) ar_nil) ?_
    replace S : St g3 [] fr w := St.tail [] _ S
    exact ⟨_, rfl, g3, ((l1.trans l2).trans l3), S, rfl⟩
  · refine wp_condF F rfl hc2 ?_
    refine wp_skip ?_
    refine then_n ?_
    refine wp_seq ?_
    refine wp_region_lit ?_
    refine wl_ev (wn rfl) (ev_move rfl) F S rfl rfl ?_; clear F a; intro a F
    refine wl_ev (wn rfl) (ev_move rfl) F S rfl rfl ?_; clear F a; intro a F
    refine wl_ev (wn rfl) (ev_int rfl rfl (bo_eql _ _ _ _)) F S rfl rfl ?_; clear F a; intro a F
    refine wl_ev (wn rfl) (ev_move rfl) F S rfl rfl ?_; clear F a; intro a F
    obtain ⟨x2, hx2, hm⟩ := bind_some hm
    refine wl_cut 3 (fun a w' => w = w' ∧ Fr 52 a [(36, .bool x2), (5, .int .i64 y1.1), (0, va_1), (1, vb_1)]) ?_ ?_
    · clear hm; obtain ⟨hc3, hm⟩ | ⟨hc3, hm⟩ := ite_or hx2
      · refine wl_ev (wg F rfl rfl rfl rfl hc3) (ev_move rfl) F S rfl rfl ?_; clear F a; intro a F
        refine wl_ev (wg F rfl rfl rfl rfl hc3) (ev_int rfl rfl (bo_geq _ _ _ _)) F S rfl rfl ?_; clear F a; intro a F
        refine wl_ev (wn rfl) (ev_pickT rfl hc3 rfl) F S rfl rfl ?_; clear F a; intro a F
        obtain rfl := Option.some.inj hm
        refine wpList_nil (then_n ?_); exact ⟨rfl, F.sub ⟨rfl, rfl, rfl, rfl, trivial⟩⟩
      · refine wl_skip rfl rfl rfl rfl (ne_tf hc3) F rfl rfl ?_; clear F a; intro a F
        refine wl_skip rfl rfl rfl rfl (ne_tf hc3) F rfl rfl ?_; clear F a; intro a F
        refine wl_ev (wn rfl) (ev_pickF rfl hc3 rfl) F S rfl rfl ?_; clear F a; intro a F
        obtain rfl := Option.some.inj hm
        refine wpList_nil (then_n ?_); exact ⟨rfl, F.sub ⟨rfl, rfl, rfl, rfl, trivial⟩⟩
    clear F; rintro a w' ⟨rfl, F⟩
    refine wl_ev (wn rfl) (ev_move rfl) F S rfl rfl ?_; clear F a; intro a F
    obtain ⟨x3, hx3, hm⟩ := bind_some hm
    refine wl_cut 3 (fun a w' => w = w' ∧ Fr 52 a [(40, .bool x3), (5, .int .i64 y1.1), (0, va_1), (1, vb_1)]) ?_ ?_
    · clear hm; obtain ⟨hc4, hm⟩ | ⟨hc4, hm⟩ := ite_or hx3
      · refine wl_ev (wg F rfl rfl rfl rfl hc4) (ev_move rfl) F S rfl rfl ?_; clear F a; intro a F
        refine wl_ev (wg F rfl rfl rfl rfl hc4) (ev_int rfl rfl (bo_leq _ _ _ _)) F S rfl rfl ?_; clear F a; intro a F
        refine wl_ev (wn rfl) (ev_pickT rfl hc4 rfl) F S rfl rfl ?_; clear F a; intro a F
        obtain rfl := Option.some.inj hm
        refine wpList_nil (then_n ?_); exact ⟨rfl, F.sub ⟨rfl, rfl, rfl, rfl, trivial⟩⟩
      · refine wl_skip rfl rfl rfl rfl (ne_tf hc4) F rfl rfl ?_; clear F a; intro a F
        refine wl_skip rfl rfl rfl rfl (ne_tf hc4) F rfl rfl ?_; clear F a; intro a F
        refine wl_ev (wn rfl) (ev_pickF rfl hc4 rfl) F S rfl rfl ?_; clear F a; intro a F
        obtain rfl := Option.some.inj hm
        refine wpList_nil (then_n ?_); exact ⟨rfl, F.sub ⟨rfl, rfl, rfl, rfl, trivial⟩⟩
    clear F; rintro a w' ⟨rfl, F⟩
    refine wl_ev (wn rfl) (ev_move rfl) F S rfl rfl ?_; clear F a; intro a F
    obtain ⟨x4, hx4, hm⟩ := bind_some hm
    refine wl_cut 7 (fun a w => ∃ g4, Fr 52 a [(48, .bool x4)] ∧ Le g2 g4 ∧ St g4 [[(b2, .cells #[.int .i64 y2.2.Code, .int .i64 y2.2.Index] 25 (0, 0))], [(b1, .cells #[.int .i64 y1.2.Code, .int .i64 y1.2.Index] 25 (0, 0))]] fr w) ?_ ?_
    · clear hm; obtain ⟨hc5, hm⟩ | ⟨hc5, hm⟩ := ite_or hx4
      · refine wl_ev (wg F rfl rfl rfl rfl hc5) (ev_move rfl) F S rfl rfl ?_; clear F a; intro a F
        refine wl_ev (wg F rfl rfl rfl rfl hc5) (ev_int rfl rfl (bo_eql _ _ _ _)) F S rfl rfl ?_; clear F a; intro a F
        refine wl_ev (wg F rfl rfl rfl rfl hc5) (ev_move rfl) F S rfl rfl ?_; clear F a; intro a F
        refine wl_ev (wg F rfl rfl rfl rfl hc5) (ev_move rfl) F S rfl rfl ?_; clear F a; intro a F
        obtain ⟨y4, hy4, hm⟩ := bind_some hm
        refine wl_call (wg F rfl rfl rfl rfl hc5) rfl (xs := [.tmp 44, .tmp 45]) (vs := [va_1, vb_1]) (cap := []) F rfl rfl tc19 (changeforgeequal_Strings_ok (g := g2) (fr := (fl [[(b2, .cells #[.int .i64 y2.2.Code, .int .i64 y2.2.Index] 25 (0, 0))], [(b1, .cells #[.int .i64 y1.2.Code, .int .i64 y1.2.Index] 25 (0, 0))]] fr)) (w := w) a_ va_1 (ha_1.mono (l1.trans l2)) b_ vb_1 (hb_1.mono (l1.trans l2)) S hy4) rfl rfl ?_; clear F a S
        rintro _ a w ⟨g5, l5, S, rfl⟩ F; replace S : St g5 [[(b2, .cells #[.int .i64 y2.2.Code, .int .i64 y2.2.Index] 25 (0, 0))], [(b1, .cells #[.int .i64 y1.2.Code, .int .i64 y1.2.Index] 25 (0, 0))]] fr w := S
        refine wl_ev (wg F rfl rfl rfl rfl hc5) (ev_eqB tu4 rfl rfl) F S rfl rfl ?_; clear F a; intro a F
        refine wl_ev (wn rfl) (ev_pickT rfl hc5 rfl) F S rfl rfl ?_; clear F a; intro a F
        obtain rfl := Option.some.inj hm
        refine wpList_nil (then_n ?_); exact ⟨g5, F.sub ⟨rfl, trivial⟩, l5, S⟩
      · refine wl_skip rfl rfl rfl rfl (ne_tf hc5) F rfl rfl ?_; clear F a; intro a F
        refine wl_skip rfl rfl rfl rfl (ne_tf hc5) F rfl rfl ?_; clear F a; intro a F
        refine wl_skip rfl rfl rfl rfl (ne_tf hc5) F rfl rfl ?_; clear F a; intro a F
        refine wl_skip rfl rfl rfl rfl (ne_tf hc5) F rfl rfl ?_; clear F a; intro a F
        refine wl_skip rfl rfl rfl rfl (ne_tf hc5) F rfl rfl ?_; clear F a; intro a F
        refine wl_skip rfl rfl rfl rfl (ne_tf hc5) F rfl rfl ?_; clear F a; intro a F
        refine wl_ev (wn rfl) (ev_pickF rfl hc5 rfl) F S rfl rfl ?_; clear F a; intro a F
        obtain rfl := Option.some.inj hm
        refine wpList_nil (then_n ?_); exact ⟨g2, F.sub ⟨rfl, trivial⟩, (Le.refl _), S⟩
    clear F S; rintro a w ⟨g4, F, l4, S⟩
    refine wl_ev (wn rfl) (ev_move rfl) F S rfl rfl ?_; clear F a; intro a F
    obtain ⟨x5, hx5, hm⟩ := bind_some hm
    refine wl_cut 2 (fun a w => ∃ g6, Fr 52 a [(51, .bool x5)] ∧ Le g4 g6 ∧ St g6 [[(b2, .cells #[.int .i64 y2.2.Code, .int .i64 y2.2.Index] 25 (0, 0))], [(b1, .cells #[.int .i64 y1.2.Code, .int .i64 y1.2.Index] 25 (0, 0))]] fr w) ?_ ?_
    · clear hm; obtain ⟨hc6, hm⟩ | ⟨hc6, hm⟩ := ite_or hx5
      · obtain ⟨y5, hy5, hm⟩ := bind_some hm
        refine wl_call (wg F rfl rfl rfl rfl hc6) rfl (xs := []) (vs := []) (cap := []) F rfl rfl tc18 (changeforgelaw2_half_ok (g := g4) (fr := (fl [[(b2, .cells #[.int .i64 y2.2.Code, .int .i64 y2.2.Index] 25 (0, 0))], [(b1, .cells #[.int .i64 y1.2.Code, .int .i64 y1.2.Index] 25 (0, 0))]] fr)) (w := w)  S hy5) rfl rfl ?_; clear F a S
        rintro _ a w ⟨g7, l7, S, rfl⟩ F; replace S : St g7 [[(b2, .cells #[.int .i64 y2.2.Code, .int .i64 y2.2.Index] 25 (0, 0))], [(b1, .cells #[.int .i64 y1.2.Code, .int .i64 y1.2.Index] 25 (0, 0))]] fr w := S
        refine wl_ev (wn rfl) (ev_pickT rfl hc6 rfl) F S rfl rfl ?_; clear F a; intro a F
        obtain rfl := Option.some.inj hm
        refine wpList_nil (then_n ?_); exact ⟨g7, F.sub ⟨rfl, trivial⟩, l7, S⟩
      · refine wl_skip rfl rfl rfl rfl (ne_tf hc6) F rfl rfl ?_; clear F a; intro a F
        refine wl_ev (wn rfl) (ev_pickF rfl hc6 rfl) F S rfl rfl ?_; clear F a; intro a F
        obtain rfl := Option.some.inj hm
        refine wpList_nil (then_n ?_); exact ⟨g4, F.sub ⟨rfl, trivial⟩, (Le.refl _), S⟩
    clear F S; rintro a w ⟨g6, F, l6, S⟩
    refine wl_ev (wn rfl) (ev_assign rfl) F S rfl rfl ?_; clear F a; intro a F
    refine wpList_nil ?_
    replace F := F.sub (e' := [(4, .bool x5)]) ⟨rfl, trivial⟩
    refine then_n ?_
    refine wp_ret ?_
    obtain rfl := Option.some.inj hm
    refine post_r (fn := Try.f6) (rs := [.tmp 4]) [.bool x5] F rfl (ar_cons (resT rfl) ar_nil) ?_
    replace S : St g6 [] fr w := St.tail [] _ S
    exact ⟨_, rfl, g6, (((l1.trans l2).trans l4).trans l6), S, rfl⟩

theorem diff_Script_ok {g : Gh} {fr : Hl} {w : World} {r : Patch × Fault} (a_ : (List ByteArray)) (va_1 : Value) (ha_1 : RepSl g a_ va_1) (b_ : (List ByteArray)) (vb_1 : Value) (hb_1 : RepSl g b_ vb_1) (S : St g [] fr w) (hm : diff_Script a_ b_ = some r) :
    Calls Try.prog 20 [va_1, vb_1].toArray w (fun en w' => ∃ v, en = .returned v ∧ ∃ (g' : Gh) (v1 : Value), Le g g' ∧ St g' [] fr w' ∧ RepSl g' r.1.Hunks v1 ∧ .tuple #[.agg #[v1], .agg #[.int .i64 r.2.Code, .int .i64 r.2.Index]] = v) := by
  unfold diff_Script at hm
  refine calls_enter (fn := Try.f20) Try.func20 rfl Try.ntmps20 (Nat.le_of_ble_eq_true rfl) ?_
  intro a F
  replace F : Fr 55 a [(0, va_1), (1, vb_1)] := F
  refine wp_seq ?_
  refine wp_region_lit ?_
  refine wl_alloc (wn rfl) rfl tz40 (cs := [.slice Option.none 0 0]) rfl F S rfl rfl ?_; clear F a S; rintro b1 a w F S
  refine wl_alloc (wn rfl) rfl tz25 (cs := [.int .i64 0, .int .i64 0]) rfl F S rfl rfl ?_; clear F a S; rintro b2 a w F S
  refine wpList_nil ?_
  refine then_n ?_
  refine wp_seq ?_
  refine wp_seq ?_
  refine wp_region_lit ?_
  refine wl_ev (wn rfl) (ev_move rfl) F S rfl rfl ?_; clear F a; intro a F
  refine wl_ev (wn rfl) (ev_move rfl) F S rfl rfl ?_; clear F a; intro a F
  obtain ⟨y1, hy1, hm⟩ := bind_some hm
  refine wl_call (wn rfl) rfl (xs := [.tmp 12, .tmp 13]) (vs := [va_1, vb_1]) (cap := []) F rfl rfl tc28 (lines_Both_ok (g := g) (fr := (fl [[(b2, .cells #[.int .i64 0, .int .i64 0] 25 (0, 0))], [(b1, .cells #[.slice Option.none 0 0] 40 (0, 0))]] fr)) (w := w) a_ va_1 ha_1 b_ vb_1 hb_1 S hy1) rfl rfl ?_; clear F a S
  rintro _ a w ⟨g1, l1, S, rfl⟩ F; replace S : St g1 [[(b2, .cells #[.int .i64 0, .int .i64 0] 25 (0, 0))], [(b1, .cells #[.slice Option.none 0 0] 40 (0, 0))]] fr w := S
  refine wl_alloc (wn rfl) rfl tz25 (cs := [.int .i64 0, .int .i64 0]) rfl F S rfl rfl ?_; clear F a S; rintro b3 a w F S
  refine wl_storeC (wn rfl) rfl F S rfl rfl (vs := [.int .i64 y1.Code, .int .i64 y1.Index]) rfl ts25 (one_cons rfl (one_cons rfl one_nil)) (k := 0) rfl (Nat.le_of_ble_eq_true rfl) (c' := #[.int .i64 y1.Code, .int .i64 y1.Index]) rfl rfl ?_; clear S; intro w S
  replace S : St g1 [[(b3, .cells #[.int .i64 y1.Code, .int .i64 y1.Index] 25 (0, 0))], [(b2, .cells #[.int .i64 0, .int .i64 0] 25 (0, 0))], [(b1, .cells #[.slice Option.none 0 0] 40 (0, 0))]] fr w := S
  refine wpList_nil ?_
  replace F := F.sub (e' := [(6, .pointer (some ⟨b3, 0, Option.none⟩)), (5, .pointer (some ⟨b2, 0, Option.none⟩)), (4, .pointer (some ⟨b1, 0, Option.none⟩)), (0, va_1), (1, vb_1)]) ⟨rfl, rfl, rfl, rfl, rfl, trivial⟩
  refine then_n ?_
  refine wp_seq ?_
  refine wp_region_lit ?_
  refine wl_ev (wn rfl) (ev_loadA tu25 rfl (cs := [.int .i64 y1.Code, .int .i64 y1.Index]) ts25 rfl (box_ptr (cells := [.int .i64 y1.Code, .int .i64 y1.Index]) 0 rfl 0 rfl (Nat.le_of_ble_eq_true rfl))) F S rfl rfl ?_; clear F a; intro a F
  refine wl_ev (wn rfl) (ev_build (parts := []) (vs := []) rfl (fun w => tb25_  w)) F S rfl rfl ?_; clear F a; intro a F
  refine wl_ev (wn rfl) (ev_neS tu25 tqa25 tqb25 tqc25 (xs := [.int .i64 y1.Code, .int .i64 y1.Index]) (ys := [.int .i64 0, .int .i64 0]) rfl rfl ⟨_, _, rfl, by decide, ⟨_, _, rfl, rfl, leaf_int tu3⟩, ⟨_, _, rfl, by decide, ⟨_, _, rfl, rfl, leaf_int tu3⟩, rfl⟩⟩) F S rfl rfl ?_; clear F a; intro a F
  refine wpList_nil ?_
  replace F := F.sub (e' := [(17, .bool (!(decide (y1.Code = 0) && decide (y1.Index = 0)))), (6, .pointer (some ⟨b3, 0, Option.none⟩)), (5, .pointer (some ⟨b2, 0, Option.none⟩)), (4, .pointer (some ⟨b1, 0, Option.none⟩)), (0, va_1), (1, vb_1)]) ⟨rfl, rfl, rfl, rfl, rfl, rfl, trivial⟩
  refine then_n ?_
  obtain ⟨hc1, hm⟩ | ⟨hc1, hm⟩ := ite_or hm
  · refine wp_condT F rfl hc1 ?_
    refine wp_seq ?_
    refine wp_drawL ⟨3, [[18], [19], [], []], [[], [], [6], [5]], [[], [4], [], []], [[], [6], [4], [5]], [[], [], [0], [1]], [5, 4], [0, 1, 2, 3, 4]⟩
      [([18], fun us g c => us = [.agg #[.slice Option.none 0 0]]),
       ([19], fun us g c => us = [.agg #[.int .i64 y1.Code, .int .i64 y1.Index]]),
       ([], fun us g c => us = [] ∧ c = [(b1, .cells #[.slice Option.none 0 0] 40 (0, 0))]),
       ([], fun us g c => us = [] ∧ c = [(b2, .cells #[.int .i64 y1.Code, .int .i64 y1.Index] 25 (0, 0))])]
      mo (by kernel_rfl) rfl rfl ⟨fun _ _ _ _ _ h => h, fun _ _ _ _ _ h => h, fun _ _ _ _ _ h => h, fun _ _ _ _ _ h => h, trivial⟩ F S ⟨?_, ?_, ?_, ?_, trivial⟩ ?_
    · intro a w gd1 c fr hsz hdf hK ld1 hN hI S
      have F : Fr 55 a [] := Fr.of hsz hdf trivial
      replace S : St gd1 [] fr w := S.of_eq (flat2 _ _ _ _)
      refine wl_ev (wn rfl) (ev_build (parts := []) (vs := []) rfl (fun w => tb40_  w)) F S rfl rfl ?_; clear F; intro a F
      refine wpList_nil ⟨rfl, F.sz, F.df, _, [], (Le.refl _), ?_, (lst1 (F.get 18 _ rfl))⟩
      refine St0.of_eq ?_ (flat3 c [] [] fr).symm
      show St0 _ (fl ([] ++ []) fr) _
      exact S
    · intro a w gd1 c fr hsz hdf hK ld1 hN hI S
      have F : Fr 55 a [(6, .pointer (some ⟨b3, 0, Option.none⟩))] := Fr.of hsz hdf ⟨hK 6 (by decide) _ rfl, trivial⟩
      replace S : St gd1 [c 4] fr w := S.of_eq (flat2 _ _ _ _)
      have q4 : c 4 = [(b3, .cells #[.int .i64 y1.Code, .int .i64 y1.Index] 25 (0, 0))] := hI 0 _ rfl
      rw [q4] at S
      refine wl_ev (wn rfl) (ev_loadA tu25 rfl (cs := [.int .i64 y1.Code, .int .i64 y1.Index]) ts25 rfl (box_ptr (cells := [.int .i64 y1.Code, .int .i64 y1.Index]) 0 rfl 0 rfl (Nat.le_of_ble_eq_true rfl))) F S rfl rfl ?_; clear F; intro a F
      refine wpList_nil ⟨rfl, F.sz, F.df, _, [], (Le.refl _), ?_, (lst1 (F.get 19 _ rfl))⟩
      refine St0.of_eq ?_ (flat3 c [] [4] fr).symm
      show St0 _ (fl ([] ++ [c 4]) fr) _
      rw [q4]
      exact S
    · intro a w gd1 c fr hsz hdf hK ld1 hN hI S
      have e0 := hN 0 (by decide)
      have e18x : val a 18 = .agg #[.slice Option.none 0 0] := nth e0 0
      have F : Fr 55 a [(4, .pointer (some ⟨b1, 0, Option.none⟩)), (18, .agg #[.slice Option.none 0 0])] := Fr.of hsz hdf ⟨hK 4 (by decide) _ rfl, e18x, trivial⟩
      replace S : St gd1 [c 6] fr w := S.of_eq (flat2 _ _ _ _)
      have q6 : c 6 = [(b1, .cells #[.slice Option.none 0 0] 40 (0, 0))] := hI 2 _ rfl
      rw [q6] at S
      refine wl_storeC (wn rfl) rfl F S rfl rfl (vs := [.slice Option.none 0 0]) rfl ts40 (one_cons rfl one_nil) (k := 0) rfl (Nat.le_of_ble_eq_true rfl) (c' := #[.slice Option.none 0 0]) rfl rfl ?_; clear S; intro w S
      replace S : St gd1 [[(b1, .cells #[.slice Option.none 0 0] 40 (0, 0))]] fr w := S
      refine wpList_nil ⟨rfl, F.sz, F.df, _, [(b1, .cells #[.slice Option.none 0 0] 40 (0, 0))], (Le.refl _), ?_, ⟨rfl, rfl⟩⟩
      refine St0.of_eq ?_ (flat3s c ([(b1, .cells #[.slice Option.none 0 0] 40 (0, 0))]) [] fr).symm
      show St0 _ (fl ([[(b1, .cells #[.slice Option.none 0 0] 40 (0, 0))]] ++ []) fr) _
      exact S
    · intro a w gd1 c fr hsz hdf hK ld1 hN hI S
      have e1 := hN 1 (by decide)
      have e19x : val a 19 = .agg #[.int .i64 y1.Code, .int .i64 y1.Index] := nth e1 0
      have F : Fr 55 a [(5, .pointer (some ⟨b2, 0, Option.none⟩)), (19, .agg #[.int .i64 y1.Code, .int .i64 y1.Index])] := Fr.of hsz hdf ⟨hK 5 (by decide) _ rfl, e19x, trivial⟩
      replace S : St gd1 [c 5] fr w := S.of_eq (flat2 _ _ _ _)
      have q5 : c 5 = [(b2, .cells #[.int .i64 0, .int .i64 0] 25 (0, 0))] := hI 1 _ rfl
      rw [q5] at S
      refine wl_storeC (wn rfl) rfl F S rfl rfl (vs := [.int .i64 y1.Code, .int .i64 y1.Index]) rfl ts25 (one_cons rfl (one_cons rfl one_nil)) (k := 0) rfl (Nat.le_of_ble_eq_true rfl) (c' := #[.int .i64 y1.Code, .int .i64 y1.Index]) rfl rfl ?_; clear S; intro w S
      replace S : St gd1 [[(b2, .cells #[.int .i64 y1.Code, .int .i64 y1.Index] 25 (0, 0))]] fr w := S
      refine wpList_nil ⟨rfl, F.sz, F.df, _, [(b2, .cells #[.int .i64 y1.Code, .int .i64 y1.Index] 25 (0, 0))], (Le.refl _), ?_, ⟨rfl, rfl⟩⟩
      refine St0.of_eq ?_ (flat3s c ([(b2, .cells #[.int .i64 y1.Code, .int .i64 y1.Index] 25 (0, 0))]) [] fr).symm
      show St0 _ (fl ([[(b2, .cells #[.int .i64 y1.Code, .int .i64 y1.Index] 25 (0, 0))]] ++ []) fr) _
      exact S
    clear F S; intro a w gd1 c hsz hdf hK ld1 hI S hN
    obtain ⟨e2, q2⟩ := hN 2 (by decide)
    obtain ⟨e3, q3⟩ := hN 3 (by decide)
    have F : Fr 55 a [(5, .pointer (some ⟨b2, 0, Option.none⟩)), (4, .pointer (some ⟨b1, 0, Option.none⟩))] := Fr.of hsz hdf ⟨hK 5 (by decide) _ rfl, hK 4 (by decide) _ rfl, trivial⟩
    replace S : St gd1 [c 0, c 1, c 2, c 3, c 4] fr w := S.of_eq (flat_fl _ _ _)
    rw [q2] at S
    rw [q3] at S
    have q4 : c 4 = [(b3, .cells #[.int .i64 y1.Code, .int .i64 y1.Index] 25 (0, 0))] := hI 0 _ rfl
    rw [q4] at S
    replace S : St gd1 [[(b1, .cells #[.slice Option.none 0 0] 40 (0, 0))], [(b2, .cells #[.int .i64 y1.Code, .int .i64 y1.Index] 25 (0, 0))]] fr w := St.tail [[(b1, .cells #[.slice Option.none 0 0] 40 (0, 0))], [(b2, .cells #[.int .i64 y1.Code, .int .i64 y1.Index] 25 (0, 0))]] _ ((S.frontC 3 rfl).frontC 3 rfl)
    clear hK hI hN hsz hdf e2 e3 
    refine then_n ?_
    refine wp_ret ?_
    refine then_r ?_
    obtain rfl := Option.some.inj hm
    refine post_r (fn := Try.f20) (rs := [.cell 4 40, .cell 5 25]) [.agg #[.slice Option.none 0 0], .agg #[.int .i64 y1.Code, .int .i64 y1.Index]] F rfl (ar_cons (resA rfl tu40 rfl ts40 (box_ptr (cells := [.slice Option.none 0 0]) 0 rfl 0 rfl (Nat.le_of_ble_eq_true rfl) w S)) (ar_cons (resA rfl tu25 rfl ts25 (box_ptr (cells := [.int .i64 y1.Code, .int .i64 y1.Index]) 1 rfl 0 rfl (Nat.le_of_ble_eq_true rfl) w S)) ar_nil)) ?_
    replace S : St gd1 [] fr w := St.tail [] _ S
    exact ⟨_, rfl, gd1, (.slice Option.none 0 0), (l1.trans ld1), S, (RepSl.nil _), rfl⟩
  · refine wp_condF F rfl hc1 ?_
    refine wp_skip ?_
    refine then_n ?_
    refine wp_seq ?_
    refine wp_region_lit ?_
    refine wl_alloc (wn rfl) rfl tz58 (cs := [.slice Option.none 0 0, .int .i64 0, .bool false]) rfl F S rfl rfl ?_; clear F a S; rintro b4 a w F S
    refine wpList_nil ?_
    replace F := F.sub (e' := [(7, .pointer (some ⟨b4, 0, Option.none⟩)), (5, .pointer (some ⟨b2, 0, Option.none⟩)), (4, .pointer (some ⟨b1, 0, Option.none⟩)), (0, va_1), (1, vb_1)]) ⟨rfl, rfl, rfl, rfl, rfl, trivial⟩
    refine then_n ?_
    refine wp_seq ?_
    refine wp_region_lit ?_
    refine wl_ev (wn rfl) (ev_assign rfl) F S rfl rfl ?_; clear F a; intro a F
    refine wl_ev (wn rfl) (ev_assign rfl) F S rfl rfl ?_; clear F a; intro a F
    refine wpList_nil ?_
    refine then_n ?_
    refine wp_cut (fun a w => ∃ (x1 : List Hunk) (x2 : Int) (x3 : Bool) (v1 : Value) (c1 : Hl) (g2 : Gh), Fr 55 a [(7, .pointer (some ⟨b4, 0, Option.none⟩)), (5, .pointer (some ⟨b2, 0, Option.none⟩)), (4, .pointer (some ⟨b1, 0, Option.none⟩))] ∧ Le g1 g2 ∧ St g2 [[(b4, .cells #[v1, .int .i64 x2, .bool x3] 58 (0, 0))], [(b2, .cells #[.int .i64 0, .int .i64 0] 25 (0, 0))], [(b1, .cells #[.slice Option.none 0 0] 40 (0, 0))], c1] fr w ∧ OwnN g2 x1 v1 c1 ∧ diff_Script.j1 x1 x2 x3 = some r) ?_ ?_
    · refine wp_seq ?_
      refine wp_region_lit ?_
      refine wl_ev (wn rfl) (ev_move rfl) F S rfl rfl ?_; clear F a; intro a F
      refine wl_ev (wn rfl) (ev_move rfl) F S rfl rfl ?_; clear F a; intro a F
      obtain ⟨y2, hy2, hm⟩ := bind_some hm
      refine wl_call (wn rfl) rfl (xs := [.tmp 20, .tmp 21]) (vs := [va_1, vb_1]) (cap := []) F rfl rfl tc24 (diff_Align_ok (g := g1) (fr := (fl [[(b4, .cells #[.slice Option.none 0 0, .int .i64 0, .bool false] 58 (0, 0))], [(b3, .cells #[.int .i64 y1.Code, .int .i64 y1.Index] 25 (0, 0))], [(b2, .cells #[.int .i64 0, .int .i64 0] 25 (0, 0))], [(b1, .cells #[.slice Option.none 0 0] 40 (0, 0))]] fr)) (w := w) a_ va_1 (ha_1.mono l1) b_ vb_1 (hb_1.mono l1) S hy2) rfl rfl ?_; clear F a S
      rintro _ a w ⟨g4, v2, l4, S, h3, rfl⟩ F; replace S : St g4 [[(b4, .cells #[.slice Option.none 0 0, .int .i64 0, .bool false] 58 (0, 0))], [(b3, .cells #[.int .i64 y1.Code, .int .i64 y1.Index] 25 (0, 0))], [(b2, .cells #[.int .i64 0, .int .i64 0] 25 (0, 0))], [(b1, .cells #[.slice Option.none 0 0] 40 (0, 0))]] fr w := S
      refine wl_ev (wn rfl) (ev_lenSh h3 rfl tu23) F S rfl rfl ?_; clear F a; intro a F
      refine wl_ev (wn rfl) (ev_move rfl) F S rfl rfl ?_; clear F a; intro a F
      refine wpList_nil ?_
      replace F := F.sub (e' := [(24, .int .i64 0), (23, .int .i64 (y2.length : Int)), (22, v2), (9, .int .i64 0), (8, .int .i64 0), (7, .pointer (some ⟨b4, 0, Option.none⟩)), (5, .pointer (some ⟨b2, 0, Option.none⟩)), (4, .pointer (some ⟨b1, 0, Option.none⟩)), (0, va_1), (1, vb_1)]) ⟨rfl, rfl, rfl, rfl, rfl, rfl, rfl, rfl, rfl, rfl, trivial⟩
      refine then_n ?_
      refine wp_block ?_
      obtain ⟨r1, hr1, hm⟩ := bind_some hm
      have hmo1 := hm; clear hm
      refine wp_iter (σ := Int × Int × Int × (List Hunk) × Int × Bool) (ρ := (List Hunk) × Int × Bool) (m := fun s => diff_Script.l1 a_ b_ y2 s.1 s.2.1 s.2.2.1 s.2.2.2.1 s.2.2.2.2.1 s.2.2.2.2.2) (I := fun s a w => match s with | (x4, x5, x6, x7, x8, x9) => ∃ (v3 : Value) (c2 : Hl) (g5 : Gh), Fr 55 a [(24, .int .i64 x4), (23, .int .i64 (y2.length : Int)), (22, v2), (9, .int .i64 x5), (8, .int .i64 x6), (7, .pointer (some ⟨b4, 0, Option.none⟩)), (5, .pointer (some ⟨b2, 0, Option.none⟩)), (4, .pointer (some ⟨b1, 0, Option.none⟩)), (0, va_1), (1, vb_1)] ∧ Le g4 g5 ∧ St g5 [[(b4, .cells #[v3, .int .i64 x8, .bool x9] 58 (0, 0))], [(b2, .cells #[.int .i64 0, .int .i64 0] 25 (0, 0))], [(b1, .cells #[.slice Option.none 0 0] 40 (0, 0))], c2] fr w ∧ OwnN g5 x7 v3 c2) hr1 ?_ ?_
      · dsimp only
        replace S : St g4 [[], [(b4, .cells #[.slice Option.none 0 0, .int .i64 0, .bool false] 58 (0, 0))], [(b3, .cells #[.int .i64 y1.Code, .int .i64 y1.Index] 25 (0, 0))], [(b2, .cells #[.int .i64 0, .int .i64 0] 25 (0, 0))], [(b1, .cells #[.slice Option.none 0 0] 40 (0, 0))]] fr w := S
        replace S : St g4 [[(b4, .cells #[.slice Option.none 0 0, .int .i64 0, .bool false] 58 (0, 0))], [(b2, .cells #[.int .i64 0, .int .i64 0] 25 (0, 0))], [(b1, .cells #[.slice Option.none 0 0] 40 (0, 0))], []] fr w := St.tail [[(b4, .cells #[.slice Option.none 0 0, .int .i64 0, .bool false] 58 (0, 0))], [(b2, .cells #[.int .i64 0, .int .i64 0] 25 (0, 0))], [(b1, .cells #[.slice Option.none 0 0] 40 (0, 0))], []] _ ((((S.frontC 0 rfl).frontC 5 rfl).frontC 5 rfl).frontC 4 rfl)
        exact ⟨(.slice Option.none 0 0), [], g4, F.sub ⟨rfl, rfl, rfl, rfl, rfl, rfl, rfl, rfl, rfl, rfl, trivial⟩, (Le.refl _), S, (OwnN.nil _)⟩
      · clear F S; rintro ⟨x4, x5, x6, x7, x8, x9⟩ a w x10 ⟨v3, c2, g5, F, l5, S, h4⟩ hx1 hfin1
        have hm : diff_Script.l1 a_ b_ y2 x4 x5 x6 x7 x8 x9 = some x10 := hx1; clear hx1
        unfold diff_Script.l1 at hm
        refine wp_seq ?_
        refine wp_region_lit ?_
        refine wl_ev (wn rfl) (ev_int rfl rfl (bo_lss _ _ _ _)) F S rfl rfl ?_; clear F a; intro a F
        refine wpList_nil ?_
        refine then_n ?_
        refine wp_seq ?_
        obtain ⟨hc2, hm⟩ | ⟨hc2, hm⟩ := ite_or hm
        · refine wp_condT F rfl hc2 ?_
          refine wp_skip ?_
          refine then_n ?_
          refine wp_cut (fun a w => ∃ (x11 : Int) (x12 : Int) (x13 : List Hunk) (x14 : Int) (x15 : Bool) (v4 : Value) (c3 : Hl) (g6 : Gh), Fr 55 a [(9, .int .i64 x11), (8, .int .i64 x12), (24, .int .i64 x4), (23, .int .i64 (y2.length : Int)), (22, v2), (7, .pointer (some ⟨b4, 0, Option.none⟩)), (5, .pointer (some ⟨b2, 0, Option.none⟩)), (4, .pointer (some ⟨b1, 0, Option.none⟩)), (0, va_1), (1, vb_1)] ∧ Le g5 g6 ∧ St g6 [[(b4, .cells #[v4, .int .i64 x14, .bool x15] 58 (0, 0))], [(b2, .cells #[.int .i64 0, .int .i64 0] 25 (0, 0))], [(b1, .cells #[.slice Option.none 0 0] 40 (0, 0))], c3] fr w ∧ OwnN g6 x13 v4 c3 ∧ diff_Script.j2 x4 x11 x12 x13 x14 x15 = some x10) ?_ ?_
          · refine wp_block ?_
            refine wp_seq ?_
            refine wp_region_lit ?_
            obtain ⟨y3, hy3, hm⟩ := bind_some hm
            obtain ⟨cs1, hr2, hp1⟩ := elemS (h3.mono l5) hy3
            obtain rfl := rep_int hr2
            refine wl_ev (wn rfl) (ev_idxS (h3.mono l5) hy3 tu23 ts3 rfl rfl) F S rfl rfl ?_; clear F a; intro a F
            refine wl_ev (wn rfl) (ev_load1 tu3 rfl rfl (ptr_mono (cks := [[(b4, .cells #[v3, .int .i64 x8, .bool x9] 58 (0, 0))], [(b2, .cells #[.int .i64 0, .int .i64 0] 25 (0, 0))], [(b1, .cells #[.slice Option.none 0 0] 40 (0, 0))], c2]) (fr := fr) hp1 (Le.refl _))) F S rfl rfl ?_; clear F a; intro a F
            refine wl_ev (wn rfl) (ev_assign rfl) F S rfl rfl ?_; clear F a; intro a F
            refine wpList_nil ?_
            replace F := F.sub (e' := [(11, .int .i64 y3), (24, .int .i64 x4), (23, .int .i64 (y2.length : Int)), (22, v2), (9, .int .i64 x5), (8, .int .i64 x6), (7, .pointer (some ⟨b4, 0, Option.none⟩)), (5, .pointer (some ⟨b2, 0, Option.none⟩)), (4, .pointer (some ⟨b1, 0, Option.none⟩)), (0, va_1), (1, vb_1)]) ⟨rfl, rfl, rfl, rfl, rfl, rfl, rfl, rfl, rfl, rfl, rfl, trivial⟩
            refine then_n ?_
            refine wp_seq ?_
            refine wp_region_lit ?_
            refine wl_ev (wn rfl) (ev_move rfl) F S rfl rfl ?_; clear F a; intro a F
            refine wpList_nil ?_
            replace F := F.sub (e' := [(28, .int .i64 y3), (24, .int .i64 x4), (23, .int .i64 (y2.length : Int)), (22, v2), (9, .int .i64 x5), (8, .int .i64 x6), (7, .pointer (some ⟨b4, 0, Option.none⟩)), (5, .pointer (some ⟨b2, 0, Option.none⟩)), (4, .pointer (some ⟨b1, 0, Option.none⟩)), (0, va_1), (1, vb_1)]) ⟨rfl, rfl, rfl, rfl, rfl, rfl, rfl, rfl, rfl, rfl, rfl, trivial⟩
            refine then_n ?_
            refine wp_block ?_
            refine wp_seq ?_
            refine wp_region_lit ?_
            refine wl_ev (wn rfl) (ev_int rfl rfl (bo_eql _ _ _ _)) F S rfl rfl ?_; clear F a; intro a F
            refine wl_ev (wn rfl) (ev_assign rfl) F S rfl rfl ?_; clear F a; intro a F
            refine wpList_nil ?_
            replace F := F.sub (e' := [(36, .bool (decide (y3 = 0))), (28, .int .i64 y3), (24, .int .i64 x4), (23, .int .i64 (y2.length : Int)), (22, v2), (9, .int .i64 x5), (8, .int .i64 x6), (7, .pointer (some ⟨b4, 0, Option.none⟩)), (5, .pointer (some ⟨b2, 0, Option.none⟩)), (4, .pointer (some ⟨b1, 0, Option.none⟩)), (0, va_1), (1, vb_1)]) ⟨rfl, rfl, rfl, rfl, rfl, rfl, rfl, rfl, rfl, rfl, rfl, rfl, trivial⟩
            refine then_n ?_
            obtain ⟨hc3, hm⟩ | ⟨hc3, hm⟩ := ite_or hm
            · refine wp_condT F rfl hc3 ?_
              refine wp_seq ?_
              refine wp_region_lit ?_
              refine wl_call (wn rfl) rfl (xs := [.tmp 7, .const (.int .i64 1)]) (vs := [.pointer (some ⟨b4, 0, Option.none⟩), .int .i64 1]) (cap := []) (R := fun u1 w => ∃ (x16 : Int) (x17 : Bool) (g7 : Gh), u1 = .tuple #[] ∧ Le g5 g7 ∧ St g7 [[(b4, .cells #[v3, .int .i64 x16, .bool x17] 58 (0, 0))], [(b2, .cells #[.int .i64 0, .int .i64 0] 25 (0, 0))], [(b1, .cells #[.slice Option.none 0 0] 40 (0, 0))], c2] fr w ∧ diff_Script.j3 x4 x5 x6 x7 x16 x17 = some x10) F rfl rfl tc29 (calls_enter (fn := Try.f29) Try.func29 rfl Try.ntmps29 (Nat.le_of_ble_eq_true rfl) ?_) rfl rfl ?_
              · clear F a; intro a F
                replace F : Fr 18 a [(0, .pointer (some ⟨b4, 0, Option.none⟩)), (1, .int .i64 1)] := F
                refine wp_seq ?_
                refine wp_region_lit ?_
                refine wl_ev (wn rfl) (ev_move rfl) F S rfl rfl ?_; clear F a; intro a F
                refine wl_ev (wn rfl) (ev_int rfl rfl (bo_gtr _ _ _ _)) F S rfl rfl ?_; clear F a; intro a F
                refine wpList_nil ?_
                replace F := F.sub (e' := [(5, .bool (decide (1 > 0))), (0, .pointer (some ⟨b4, 0, Option.none⟩)), (1, .int .i64 1)]) ⟨rfl, rfl, rfl, trivial⟩
                refine then_n ?_
                obtain ⟨hc4, hm⟩ | ⟨hc4, hm⟩ := ite_or hm
                · refine wp_condT F rfl hc4 ?_
                  refine wp_region_lit ?_
                  refine wl_ev (wn rfl) (ev_move rfl) F S rfl rfl ?_; clear F a; intro a F
                  refine wl_ev (wn rfl) (ev_move rfl) F S rfl rfl ?_; clear F a; intro a F
                  refine wl_ev (wn rfl) (ev_move rfl) F S rfl rfl ?_; clear F a; intro a F
                  refine wl_ev (wn rfl) (ev_nil rfl) F S rfl rfl ?_; clear F a; intro a F
                  refine wl_ev (wn rfl) (ev_fieldAddr' tu58 tf58_1 (z := 0) ts3 rfl ⟨_, rfl⟩ rfl) F S rfl rfl ?_; clear F a; intro a F
                  refine wl_ev (wn rfl) (ev_load1 tu3 rfl rfl (box_ptr (cells := [.int .i64 x8]) 0 rfl 1 rfl (Nat.le_of_ble_eq_true rfl))) F S rfl rfl ?_; clear F a; intro a F
                  refine wl_ev (wn rfl) (ev_move rfl) F S rfl rfl ?_; clear F a; intro a F
                  obtain ⟨z2, hz2, hm⟩ := bind_some hm
                  refine wl_ev (wn rfl) (ev_int rfl rfl (bo_add hz2)) F S rfl rfl ?_; clear F a; intro a F
                  refine wl_ev (wn rfl) (ev_nil rfl) F S rfl rfl ?_; clear F a; intro a F
                  refine wl_ev (wn rfl) (ev_fieldAddr' tu58 tf58_1 (z := 0) ts3 rfl ⟨_, rfl⟩ rfl) F S rfl rfl ?_; clear F a; intro a F
                  refine wl_storeC (wn rfl) rfl F S rfl rfl (vs := [.int .i64 z2]) rfl ts3 (one_cons rfl one_nil) (k := 0) rfl (Nat.le_of_ble_eq_true rfl) (c' := #[v3, .int .i64 z2, .bool x9]) rfl rfl ?_; clear S; intro w S
                  replace S : St g5 [[(b4, .cells #[v3, .int .i64 z2, .bool x9] 58 (0, 0))], [(b2, .cells #[.int .i64 0, .int .i64 0] 25 (0, 0))], [(b1, .cells #[.slice Option.none 0 0] 40 (0, 0))], c2] fr w := S
                  refine wl_ev (wn rfl) (ev_nil rfl) F S rfl rfl ?_; clear F a; intro a F
                  refine wl_ev (wn rfl) (ev_fieldAddr' tu58 tf58_2 (z := 0) ts4 rfl ⟨_, rfl⟩ rfl) F S rfl rfl ?_; clear F a; intro a F
                  refine wl_storeC (wn rfl) rfl F S rfl rfl (vs := [.bool false]) rfl ts4 (one_cons rfl one_nil) (k := 0) rfl (Nat.le_of_ble_eq_true rfl) (c' := #[v3, .int .i64 z2, .bool false]) rfl rfl ?_; clear S; intro w S
                  replace S : St g5 [[(b4, .cells #[v3, .int .i64 z2, .bool false] 58 (0, 0))], [(b2, .cells #[.int .i64 0, .int .i64 0] 25 (0, 0))], [(b1, .cells #[.slice Option.none 0 0] 40 (0, 0))], c2] fr w := S
                  refine wpList_nil ?_
                  replace F := F.sub (e' := []) trivial
                  refine post_n (fn := Try.f29) (rs := []) [] F rfl ar_nil ?_
                  exact ⟨_, rfl, ⟨z2, false, g5, rfl, (Le.refl _), S, hm⟩⟩
                · refine wp_condF F rfl hc4 ?_
                  refine wp_skip ?_
                  refine post_n (fn := Try.f29) (rs := []) [] F rfl ar_nil ?_
                  exact ⟨_, rfl, ⟨x8, x9, g5, rfl, (Le.refl _), S, hm⟩⟩
              · clear F S hm; rintro _ a w ⟨x16, x17, g7, rfl, l7, S, hm⟩ F
                replace F := F.sub (e' := [(38, .tuple #[]), (24, .int .i64 x4), (23, .int .i64 (y2.length : Int)), (22, v2), (9, .int .i64 x5), (8, .int .i64 x6), (7, .pointer (some ⟨b4, 0, Option.none⟩)), (5, .pointer (some ⟨b2, 0, Option.none⟩)), (4, .pointer (some ⟨b1, 0, Option.none⟩)), (0, va_1), (1, vb_1)]) ⟨rfl, rfl, rfl, rfl, rfl, rfl, rfl, rfl, rfl, rfl, rfl, trivial⟩
                refine wpList_nil ?_
                replace F := F.sub (e' := [(24, .int .i64 x4), (23, .int .i64 (y2.length : Int)), (22, v2), (9, .int .i64 x5), (8, .int .i64 x6), (7, .pointer (some ⟨b4, 0, Option.none⟩)), (5, .pointer (some ⟨b2, 0, Option.none⟩)), (4, .pointer (some ⟨b1, 0, Option.none⟩)), (0, va_1), (1, vb_1)]) ⟨rfl, rfl, rfl, rfl, rfl, rfl, rfl, rfl, rfl, rfl, trivial⟩
                refine then_n ?_
                refine wp_region_lit ?_
                refine wl_ev (wn rfl) (ev_move rfl) F S rfl rfl ?_; clear F a; intro a F
                obtain ⟨z3, hz3, hm⟩ := bind_some hm
                refine wl_ev (wn rfl) (ev_int rfl rfl (bo_add hz3)) F S rfl rfl ?_; clear F a; intro a F
                refine wl_ev (wn rfl) (ev_move rfl) F S rfl rfl ?_; clear F a; intro a F
                obtain ⟨z4, hz4, hm⟩ := bind_some hm
                refine wl_ev (wn rfl) (ev_int rfl rfl (bo_add hz4)) F S rfl rfl ?_; clear F a; intro a F
                refine wl_ev (wn rfl) (ev_assign rfl) F S rfl rfl ?_; clear F a; intro a F
                refine wl_ev (wn rfl) (ev_assign rfl) F S rfl rfl ?_; clear F a; intro a F
                refine wpList_nil ?_
                replace F := F.sub (e' := [(9, .int .i64 z4), (8, .int .i64 z3), (24, .int .i64 x4), (23, .int .i64 (y2.length : Int)), (22, v2), (7, .pointer (some ⟨b4, 0, Option.none⟩)), (5, .pointer (some ⟨b2, 0, Option.none⟩)), (4, .pointer (some ⟨b1, 0, Option.none⟩)), (0, va_1), (1, vb_1)]) ⟨rfl, rfl, rfl, rfl, rfl, rfl, rfl, rfl, rfl, rfl, trivial⟩
                refine inb_n ?_
                refine inb_n ?_
                refine then_n ?_
                exact ⟨z4, z3, x7, x16, x17, v3, c2, g7, F.sub ⟨rfl, rfl, rfl, rfl, rfl, rfl, rfl, rfl, rfl, rfl, trivial⟩, l7, S, (h4.mono l7), hm⟩
            · refine wp_condF F rfl hc3 ?_
              refine wp_seq ?_
              refine wp_region_lit ?_
              refine wl_ev (wn rfl) (ev_int rfl rfl (bo_eql _ _ _ _)) F S rfl rfl ?_; clear F a; intro a F
              refine wl_ev (wn rfl) (ev_assign rfl) F S rfl rfl ?_; clear F a; intro a F
              refine wpList_nil ?_
              replace F := F.sub (e' := [(43, .bool (decide (y3 = 1))), (24, .int .i64 x4), (23, .int .i64 (y2.length : Int)), (22, v2), (9, .int .i64 x5), (8, .int .i64 x6), (7, .pointer (some ⟨b4, 0, Option.none⟩)), (5, .pointer (some ⟨b2, 0, Option.none⟩)), (4, .pointer (some ⟨b1, 0, Option.none⟩)), (0, va_1), (1, vb_1)]) ⟨rfl, rfl, rfl, rfl, rfl, rfl, rfl, rfl, rfl, rfl, rfl, trivial⟩
              refine then_n ?_
              obtain ⟨hc5, hm⟩ | ⟨hc5, hm⟩ := ite_or hm
              · refine wp_condT F rfl hc5 ?_
                refine wp_seq ?_
                refine wp_region_lit ?_
                refine wl_ev (wn rfl) (ev_move rfl) F S rfl rfl ?_; clear F a; intro a F
                refine wl_ev (wn rfl) (ev_move rfl) F S rfl rfl ?_; clear F a; intro a F
                obtain ⟨y4, hy4, hm⟩ := bind_some hm
                obtain ⟨cs2, hr3, hp2⟩ := elemS (ha_1.mono ((l1.trans l4).trans l5)) hy4
                obtain rfl := rep_str hr3
                refine wl_ev (wn rfl) (ev_idxS (ha_1.mono ((l1.trans l4).trans l5)) hy4 tu31 ts9 rfl rfl) F S rfl rfl ?_; clear F a; intro a F
                refine wl_ev (wn rfl) (ev_load1 tu9 rfl rfl (ptr_mono (cks := [[(b4, .cells #[v3, .int .i64 x8, .bool x9] 58 (0, 0))], [(b2, .cells #[.int .i64 0, .int .i64 0] 25 (0, 0))], [(b1, .cells #[.slice Option.none 0 0] 40 (0, 0))], c2]) (fr := fr) hp2 (Le.refl _))) F S rfl rfl ?_; clear F a; intro a F
                replace F := F.sub (e' := [(48, .string y4), (24, .int .i64 x4), (23, .int .i64 (y2.length : Int)), (22, v2), (9, .int .i64 x5), (8, .int .i64 x6), (7, .pointer (some ⟨b4, 0, Option.none⟩)), (5, .pointer (some ⟨b2, 0, Option.none⟩)), (4, .pointer (some ⟨b1, 0, Option.none⟩)), (0, va_1), (1, vb_1)]) ⟨rfl, rfl, rfl, rfl, rfl, rfl, rfl, rfl, rfl, rfl, rfl, trivial⟩
                refine wl_callK (wn rfl) rfl (xs := [.tmp 7, .tmp 48]) (vs := [.pointer (some ⟨b4, 0, Option.none⟩), .string y4]) (cap := []) (e' := [(24, .int .i64 x4), (23, .int .i64 (y2.length : Int)), (22, v2), (9, .int .i64 x5), (8, .int .i64 x6), (7, .pointer (some ⟨b4, 0, Option.none⟩)), (5, .pointer (some ⟨b2, 0, Option.none⟩)), (4, .pointer (some ⟨b1, 0, Option.none⟩)), (0, va_1), (1, vb_1)]) ⟨rfl, rfl, rfl, rfl, rfl, rfl, rfl, rfl, rfl, rfl, trivial⟩ F rfl rfl tc30 rfl rfl (calls_enter (fn := Try.f30) Try.func30 rfl Try.ntmps30 (Nat.le_of_ble_eq_true rfl) ?_); clear F a; intro a F
                replace F : Fr 24 a [(0, .pointer (some ⟨b4, 0, Option.none⟩)), (1, .string y4)] := F
                refine wp_seq ?_
                refine wp_region_lit ?_
                refine wl_ev (wn rfl) (ev_move rfl) F S rfl rfl ?_; clear F a; intro a F
                replace F := F.sub (e' := [(5, .pointer (some ⟨b4, 0, Option.none⟩)), (0, .pointer (some ⟨b4, 0, Option.none⟩)), (1, .string y4)]) ⟨rfl, rfl, rfl, trivial⟩
                refine wl_callK (wn rfl) rfl (xs := [.tmp 5]) (vs := [.pointer (some ⟨b4, 0, Option.none⟩)]) (cap := []) (e' := [(0, .pointer (some ⟨b4, 0, Option.none⟩)), (1, .string y4)]) ⟨rfl, rfl, trivial⟩ F rfl rfl tc41 rfl rfl (calls_enter (fn := Try.f41) Try.func41 rfl Try.ntmps41 (Nat.le_of_ble_eq_true rfl) ?_); clear F a; intro a F
                replace F : Fr 36 a [(0, .pointer (some ⟨b4, 0, Option.none⟩))] := F
                refine wp_seq ?_
                refine wp_region_lit ?_
                refine wl_ev (wn rfl) (ev_assign rfl) F S rfl rfl ?_; clear F a; intro a F
                refine wpList_nil ?_
                replace F := F.sub (e' := [(0, .pointer (some ⟨b4, 0, Option.none⟩))]) ⟨rfl, trivial⟩
                refine then_n ?_
                refine wp_cut (fun a w => ∃ (x18 : List Hunk) (x19 : Bool) (v5 : Value) (c4 : Hl) (g8 : Gh), Fr 36 a [(0, .pointer (some ⟨b4, 0, Option.none⟩))] ∧ Le g5 g8 ∧ St g8 [[(b4, .cells #[v5, .int .i64 x8, .bool x19] 58 (0, 0))], [(b2, .cells #[.int .i64 0, .int .i64 0] 25 (0, 0))], [(b1, .cells #[.slice Option.none 0 0] 40 (0, 0))], c4] fr w ∧ OwnN g8 x18 v5 c4 ∧ diff_Script.j4 x4 x5 x6 x8 y4 x18 x19 = some x10) ?_ ?_
                · refine wp_seq ?_
                  refine wp_region_lit ?_
                  refine wl_ev (wn rfl) (ev_move rfl) F S rfl rfl ?_; clear F a; intro a F
                  refine wl_ev (wn rfl) (ev_nil rfl) F S rfl rfl ?_; clear F a; intro a F
                  refine wl_ev (wn rfl) (ev_fieldAddr' tu58 tf58_2 (z := 0) ts4 rfl ⟨_, rfl⟩ rfl) F S rfl rfl ?_; clear F a; intro a F
                  refine wl_ev (wn rfl) (ev_load1 tu4 rfl rfl (box_ptr (cells := [.bool x9]) 0 rfl 2 rfl (Nat.le_of_ble_eq_true rfl))) F S rfl rfl ?_; clear F a; intro a F
                  refine wl_ev (wn rfl) (ev_not rfl) F S rfl rfl ?_; clear F a; intro a F
                  refine wpList_nil ?_
                  replace F := F.sub (e' := [(7, .bool !x9), (0, .pointer (some ⟨b4, 0, Option.none⟩))]) ⟨rfl, rfl, trivial⟩
                  refine then_n ?_
                  obtain ⟨hc6, hm⟩ | ⟨hc6, hm⟩ := ite_or hm
                  · refine wp_condT F rfl hc6 ?_
                    obtain ⟨y8, hy8, hm⟩ := bind_some hm
                    refine wp_drawL ⟨4, [[8], [9], [10], [11], [12], [13], [14], [15], [16], [17], [18], [19], [20], [21], [22], [20], [23], [24], [20]], [[], [], [], [], [], [], [], [], [], [], [], [], [22, 11], [], [], [19], [], [], [15]], [[], [], [], [], [], [19], [], [], [], [19], [], [], [], [], [], [], [], [], []], [[0], [0], [0], [], [], [], [0], [], [], [], [], [], [], [], [], [], [], [], []], [[], [], [], [2], [3], [4], [], [6], [7], [8], [9], [10], [5, 11], [0], [13], [12, 14], [1], [16], [12, 15, 17]], [0], [0, 1, 2, 3, 4, 5, 6, 7, 8, 9, 10, 12, 13, 14, 16, 17, 18, 20, 21]⟩
                      [([8], fun us g c => us = [.pointer (some ⟨b4, 0, Option.none⟩)]),
                       ([9], fun us g c => us = [.pointer (some ⟨b4, 0, Option.none⟩)]),
                       ([10], fun us g c => us = [.pointer (some ⟨b4, 0, Option.none⟩)]),
                       ([11], fun us g c => us = [.pointer (some ⟨b4, 0, Option.none⟩)]),
                       ([12], fun us g c => us = [.pointer (some ⟨b4, 0, Option.none⟩)]),
                       ([13], fun us g c => us = [v3]),
                       ([14], fun us g c => us = [.pointer (some ⟨b4, 0, Option.none⟩)]),
                       ([15], fun us g c => us = [.pointer (some ⟨b4, 0, Option.none⟩)]),
                       ([16], fun us g c => us = [.pointer (some ⟨b4, 1, Option.none⟩)]),
                       ([17], fun us g c => us = [.int .i64 x8]),
                       ([18], fun us g c => us = [.agg #[.int .i64 x8, .slice Option.none 0 0, .slice Option.none 0 0]]),
                       ([19], fun us g c => ∃ v10 : Value, us = [v10] ∧ OwnN g ([({ At := x8, Old := [], New := [] } : Hunk)] : List Hunk) v10 c),
                       ([20], fun us g c => ∃ v11 : Value, us = [v11] ∧ OwnN g y8 v11 c),
                       ([21], fun us g c => us = [.pointer (some ⟨b4, 0, Option.none⟩)]),
                       ([22], fun us g c => us = [.pointer (some ⟨b4, 0, Option.none⟩)]),
                       ([20], fun us g c => ∃ v11 : Value, us = [v11] ∧ c = [(b4, .cells #[v11, .int .i64 x8, .bool x9] 58 (0, 0))]),
                       ([23], fun us g c => us = [.pointer (some ⟨b4, 0, Option.none⟩)]),
                       ([24], fun us g c => us = [.pointer (some ⟨b4, 2, Option.none⟩)]),
                       ([20], fun us g c => ∃ v11 : Value, us = [v11] ∧ c = [(b4, .cells #[v11, .int .i64 x8, .bool true] 58 (0, 0))])]
                      mo (by kernel_rfl) rfl rfl ⟨fun _ _ _ _ _ h => h, fun _ _ _ _ _ h => h, fun _ _ _ _ _ h => h, fun _ _ _ _ _ h => h, fun _ _ _ _ _ h => h, fun _ _ _ _ _ h => h, fun _ _ _ _ _ h => h, fun _ _ _ _ _ h => h, fun _ _ _ _ _ h => h, fun _ _ _ _ _ h => h, fun _ _ _ _ _ h => h, fun _ _ _ _ l ⟨x0, e0, h0⟩ => ⟨x0, e0, h0.mono l⟩, fun _ _ _ _ l ⟨x0, e0, h0⟩ => ⟨x0, e0, h0.mono l⟩, fun _ _ _ _ _ h => h, fun _ _ _ _ _ h => h, fun _ _ _ _ _ h => h, fun _ _ _ _ _ h => h, fun _ _ _ _ _ h => h, fun _ _ _ _ _ h => h, trivial⟩ F S ⟨?_, ?_, ?_, ?_, ?_, ?_, ?_, ?_, ?_, ?_, ?_, ?_, ?_, ?_, ?_, ?_, ?_, ?_, ?_, trivial⟩ ?_
                    · intro a w gd6 c fr hsz hdf hK ld6 hN hI S
                      have F : Fr 36 a [(0, .pointer (some ⟨b4, 0, Option.none⟩))] := Fr.of hsz hdf ⟨hK 0 (by decide) _ rfl, trivial⟩
                      replace S : St gd6 [] fr w := S.of_eq (flat2 _ _ _ _)
                      refine wl_ev (wn rfl) (ev_move rfl) F S rfl rfl ?_; clear F; intro a F
                      refine wpList_nil ⟨rfl, F.sz, F.df, _, [], (Le.refl _), ?_, (lst1 (F.get 8 _ rfl))⟩
                      refine St0.of_eq ?_ (flat3 c [] [] fr).symm
                      show St0 _ (fl ([] ++ []) fr) _
                      exact S
                    · intro a w gd6 c fr hsz hdf hK ld6 hN hI S
                      have F : Fr 36 a [(0, .pointer (some ⟨b4, 0, Option.none⟩))] := Fr.of hsz hdf ⟨hK 0 (by decide) _ rfl, trivial⟩
                      replace S : St gd6 [] fr w := S.of_eq (flat2 _ _ _ _)
                      refine wl_ev (wn rfl) (ev_move rfl) F S rfl rfl ?_; clear F; intro a F
                      refine wpList_nil ⟨rfl, F.sz, F.df, _, [], (Le.refl _), ?_, (lst1 (F.get 9 _ rfl))⟩
                      refine St0.of_eq ?_ (flat3 c [] [] fr).symm
                      show St0 _ (fl ([] ++ []) fr) _
                      exact S
                    · intro a w gd6 c fr hsz hdf hK ld6 hN hI S
                      have F : Fr 36 a [(0, .pointer (some ⟨b4, 0, Option.none⟩))] := Fr.of hsz hdf ⟨hK 0 (by decide) _ rfl, trivial⟩
                      replace S : St gd6 [] fr w := S.of_eq (flat2 _ _ _ _)
                      refine wl_ev (wn rfl) (ev_move rfl) F S rfl rfl ?_; clear F; intro a F
                      refine wpList_nil ⟨rfl, F.sz, F.df, _, [], (Le.refl _), ?_, (lst1 (F.get 10 _ rfl))⟩
                      refine St0.of_eq ?_ (flat3 c [] [] fr).symm
                      show St0 _ (fl ([] ++ []) fr) _
                      exact S
                    · intro a w gd6 c fr hsz hdf hK ld6 hN hI S
                      have e2 := hN 2 (by decide)
                      have e10x : val a 10 = .pointer (some ⟨b4, 0, Option.none⟩) := nth e2 0
                      have F : Fr 36 a [(10, .pointer (some ⟨b4, 0, Option.none⟩))] := Fr.of hsz hdf ⟨e10x, trivial⟩
                      replace S : St gd6 [] fr w := S.of_eq (flat2 _ _ _ _)
                      refine wl_ev (wn rfl) (ev_nil rfl) F S rfl rfl ?_; clear F; intro a F
                      refine wpList_nil ⟨rfl, F.sz, F.df, _, [], (Le.refl _), ?_, (lst1 (F.get 11 _ rfl))⟩
                      refine St0.of_eq ?_ (flat3 c [] [] fr).symm
                      show St0 _ (fl ([] ++ []) fr) _
                      exact S
                    · intro a w gd6 c fr hsz hdf hK ld6 hN hI S
                      have e3 := hN 3 (by decide)
                      have e11x : val a 11 = .pointer (some ⟨b4, 0, Option.none⟩) := nth e3 0
                      have F : Fr 36 a [(11, .pointer (some ⟨b4, 0, Option.none⟩))] := Fr.of hsz hdf ⟨e11x, trivial⟩
                      replace S : St gd6 [] fr w := S.of_eq (flat2 _ _ _ _)
                      refine wl_ev (wn rfl) (ev_fieldAddr' tu58 tf58_0 (z := 0) ts38 rfl ⟨_, rfl⟩ rfl) F S rfl rfl ?_; clear F; intro a F
                      refine wpList_nil ⟨rfl, F.sz, F.df, _, [], (Le.refl _), ?_, (lst1 (F.get 12 _ rfl))⟩
                      refine St0.of_eq ?_ (flat3 c [] [] fr).symm
                      show St0 _ (fl ([] ++ []) fr) _
                      exact S
                    · intro a w gd6 c fr hsz hdf hK ld6 hN hI S
                      have e4 := hN 4 (by decide)
                      have e12x : val a 12 = .pointer (some ⟨b4, 0, Option.none⟩) := nth e4 0
                      have F : Fr 36 a [(12, .pointer (some ⟨b4, 0, Option.none⟩))] := Fr.of hsz hdf ⟨e12x, trivial⟩
                      replace S : St gd6 [c 19] fr w := S.of_eq (flat2 _ _ _ _)
                      have q19 : c 19 = [(b4, .cells #[v3, .int .i64 x8, .bool x9] 58 (0, 0))] := hI 0 _ rfl
                      rw [q19] at S
                      refine wl_ev (wn rfl) (ev_load1 tu38 rfl rfl (box_ptr (cells := [v3]) 0 rfl 0 rfl (Nat.le_of_ble_eq_true rfl))) F S rfl rfl ?_; clear F; intro a F
                      refine wpList_nil ⟨rfl, F.sz, F.df, _, [], (Le.refl _), ?_, (lst1 (F.get 13 _ rfl))⟩
                      refine St0.of_eq ?_ (flat3 c [] [19] fr).symm
                      show St0 _ (fl ([] ++ [c 19]) fr) _
                      rw [q19]
                      exact S
                    · intro a w gd6 c fr hsz hdf hK ld6 hN hI S
                      have F : Fr 36 a [(0, .pointer (some ⟨b4, 0, Option.none⟩))] := Fr.of hsz hdf ⟨hK 0 (by decide) _ rfl, trivial⟩
                      replace S : St gd6 [] fr w := S.of_eq (flat2 _ _ _ _)
                      refine wl_ev (wn rfl) (ev_move rfl) F S rfl rfl ?_; clear F; intro a F
                      refine wpList_nil ⟨rfl, F.sz, F.df, _, [], (Le.refl _), ?_, (lst1 (F.get 14 _ rfl))⟩
                      refine St0.of_eq ?_ (flat3 c [] [] fr).symm
                      show St0 _ (fl ([] ++ []) fr) _
                      exact S
                    · intro a w gd6 c fr hsz hdf hK ld6 hN hI S
                      have e6 := hN 6 (by decide)
                      have e14x : val a 14 = .pointer (some ⟨b4, 0, Option.none⟩) := nth e6 0
                      have F : Fr 36 a [(14, .pointer (some ⟨b4, 0, Option.none⟩))] := Fr.of hsz hdf ⟨e14x, trivial⟩
                      replace S : St gd6 [] fr w := S.of_eq (flat2 _ _ _ _)
                      refine wl_ev (wn rfl) (ev_nil rfl) F S rfl rfl ?_; clear F; intro a F
                      refine wpList_nil ⟨rfl, F.sz, F.df, _, [], (Le.refl _), ?_, (lst1 (F.get 15 _ rfl))⟩
                      refine St0.of_eq ?_ (flat3 c [] [] fr).symm
                      show St0 _ (fl ([] ++ []) fr) _
                      exact S
                    · intro a w gd6 c fr hsz hdf hK ld6 hN hI S
                      have e7 := hN 7 (by decide)
                      have e15x : val a 15 = .pointer (some ⟨b4, 0, Option.none⟩) := nth e7 0
                      have F : Fr 36 a [(15, .pointer (some ⟨b4, 0, Option.none⟩))] := Fr.of hsz hdf ⟨e15x, trivial⟩
                      replace S : St gd6 [] fr w := S.of_eq (flat2 _ _ _ _)
                      refine wl_ev (wn rfl) (ev_fieldAddr' tu58 tf58_1 (z := 0) ts3 rfl ⟨_, rfl⟩ rfl) F S rfl rfl ?_; clear F; intro a F
                      refine wpList_nil ⟨rfl, F.sz, F.df, _, [], (Le.refl _), ?_, (lst1 (F.get 16 _ rfl))⟩
                      refine St0.of_eq ?_ (flat3 c [] [] fr).symm
                      show St0 _ (fl ([] ++ []) fr) _
                      exact S
                    · intro a w gd6 c fr hsz hdf hK ld6 hN hI S
                      have e8 := hN 8 (by decide)
                      have e16x : val a 16 = .pointer (some ⟨b4, 1, Option.none⟩) := nth e8 0
                      have F : Fr 36 a [(16, .pointer (some ⟨b4, 1, Option.none⟩))] := Fr.of hsz hdf ⟨e16x, trivial⟩
                      replace S : St gd6 [c 19] fr w := S.of_eq (flat2 _ _ _ _)
                      have q19 : c 19 = [(b4, .cells #[v3, .int .i64 x8, .bool x9] 58 (0, 0))] := hI 0 _ rfl
                      rw [q19] at S
                      refine wl_ev (wn rfl) (ev_load1 tu3 rfl rfl (box_ptr (cells := [.int .i64 x8]) 0 rfl 1 rfl (Nat.le_of_ble_eq_true rfl))) F S rfl rfl ?_; clear F; intro a F
                      refine wpList_nil ⟨rfl, F.sz, F.df, _, [], (Le.refl _), ?_, (lst1 (F.get 17 _ rfl))⟩
                      refine St0.of_eq ?_ (flat3 c [] [19] fr).symm
                      show St0 _ (fl ([] ++ [c 19]) fr) _
                      rw [q19]
                      exact S
                    · intro a w gd6 c fr hsz hdf hK ld6 hN hI S
                      have e9 := hN 9 (by decide)
                      have e17x : val a 17 = .int .i64 x8 := nth e9 0
                      have F : Fr 36 a [(17, .int .i64 x8)] := Fr.of hsz hdf ⟨e17x, trivial⟩
                      replace S : St gd6 [] fr w := S.of_eq (flat2 _ _ _ _)
                      refine wl_ev (wn rfl) (ev_build (parts := [(0, .tmp 17)]) (vs := [(0, .int .i64 x8)]) rfl (fun w => tb44_0 x8 w)) F S rfl rfl ?_; clear F; intro a F
                      refine wpList_nil ⟨rfl, F.sz, F.df, _, [], (Le.refl _), ?_, (lst1 (F.get 18 _ rfl))⟩
                      refine St0.of_eq ?_ (flat3 c [] [] fr).symm
                      show St0 _ (fl ([] ++ []) fr) _
                      exact S
                    · intro a w gd6 c fr hsz hdf hK ld6 hN hI S
                      have e10 := hN 10 (by decide)
                      have e18x : val a 18 = .agg #[.int .i64 x8, .slice Option.none 0 0, .slice Option.none 0 0] := nth e10 0
                      have F : Fr 36 a [(18, .agg #[.int .i64 x8, .slice Option.none 0 0, .slice Option.none 0 0])] := Fr.of hsz hdf ⟨e18x, trivial⟩
                      replace S : St gd6 [] fr w := S.of_eq (flat2 _ _ _ _)
                      replace S : St gd6 [[]] fr w := S
                      replace S : St gd6 [[], []] fr w := S
                      replace S : St gd6 [[], []] fr w := ((S.frontC 0 rfl).frontC 2 rfl)
                      replace S : St gd6 [([] ++ ([] ++ []))] fr w := S.of_eq (by simp only [fl, List.append_assoc, List.append_nil, List.nil_append])
                      refine wl_lit1N (p := ({ At := x8, Old := [], New := [] } : Hunk)) (wn rfl) rfl rfl tu38 te44 rfl rfl rfl (orep_Hunk_mk (x := ({ At := x8, Old := [], New := [] } : Hunk)) (OwnS.nil _) (OwnS.nil _)) F S rfl rfl ?_; clear F S
                      rintro v10 c10 a w h12 F S
                      refine wpList_nil ⟨rfl, F.sz, F.df, _, c10, (Le.refl _), ?_, ⟨v10, (lst1 (F.get 19 _ rfl)), h12⟩⟩
                      refine St0.of_eq ?_ (flat3s c (c10) [] fr).symm
                      show St0 _ (fl ([c10] ++ []) fr) _
                      exact S
                    · intro a w gd6 c fr hsz hdf hK ld6 hN hI S
                      have e5 := hN 5 (by decide)
                      have e13x : val a 13 = v3 := nth e5 0
                      obtain ⟨v10, e11, lh1⟩ := hN 11 (by decide)
                      have e19x : val a 19 = v10 := nth e11 0
                      have F : Fr 36 a [(13, v3), (19, v10)] := Fr.of hsz hdf ⟨e13x, e19x, trivial⟩
                      replace S : St gd6 [c 22, c 11] fr w := S.of_eq (flat2 _ _ _ _)
                      have q22 : c 22 = c2 := hI 3 _ rfl
                      rw [q22] at S
                      refine wl_appendN (wn rfl) rfl tu38 tu38 te44 (by decide) (by decide) F S rfl rfl (h4.mono ld6) lh1 hy8 rfl rfl ?_; clear F S
                      rintro v11 c11 a w h13 S F; replace S : St gd6 [c11] fr w := S
                      refine wpList_nil ⟨rfl, F.sz, F.df, _, c11, (Le.refl _), ?_, ⟨v11, (lst1 (F.get 20 _ rfl)), h13⟩⟩
                      refine St0.of_eq ?_ (flat3s c (c11) [] fr).symm
                      show St0 _ (fl ([c11] ++ []) fr) _
                      exact S
                    · intro a w gd6 c fr hsz hdf hK ld6 hN hI S
                      have e0 := hN 0 (by decide)
                      have e8x : val a 8 = .pointer (some ⟨b4, 0, Option.none⟩) := nth e0 0
                      have F : Fr 36 a [(8, .pointer (some ⟨b4, 0, Option.none⟩))] := Fr.of hsz hdf ⟨e8x, trivial⟩
                      replace S : St gd6 [] fr w := S.of_eq (flat2 _ _ _ _)
                      refine wl_ev (wn rfl) (ev_nil rfl) F S rfl rfl ?_; clear F; intro a F
                      refine wpList_nil ⟨rfl, F.sz, F.df, _, [], (Le.refl _), ?_, (lst1 (F.get 21 _ rfl))⟩
                      refine St0.of_eq ?_ (flat3 c [] [] fr).symm
                      show St0 _ (fl ([] ++ []) fr) _
                      exact S
                    · intro a w gd6 c fr hsz hdf hK ld6 hN hI S
                      have e13 := hN 13 (by decide)
                      have e21x : val a 21 = .pointer (some ⟨b4, 0, Option.none⟩) := nth e13 0
                      have F : Fr 36 a [(21, .pointer (some ⟨b4, 0, Option.none⟩))] := Fr.of hsz hdf ⟨e21x, trivial⟩
                      replace S : St gd6 [] fr w := S.of_eq (flat2 _ _ _ _)
                      refine wl_ev (wn rfl) (ev_fieldAddr' tu58 tf58_0 (z := 0) ts38 rfl ⟨_, rfl⟩ rfl) F S rfl rfl ?_; clear F; intro a F
                      refine wpList_nil ⟨rfl, F.sz, F.df, _, [], (Le.refl _), ?_, (lst1 (F.get 22 _ rfl))⟩
                      refine St0.of_eq ?_ (flat3 c [] [] fr).symm
                      show St0 _ (fl ([] ++ []) fr) _
                      exact S
                    · intro a w gd6 c fr hsz hdf hK ld6 hN hI S
                      obtain ⟨v11, e12, lh1⟩ := hN 12 (by decide)
                      have e20x : val a 20 = v11 := nth e12 0
                      have e14 := hN 14 (by decide)
                      have e22x : val a 22 = .pointer (some ⟨b4, 0, Option.none⟩) := nth e14 0
                      have F : Fr 36 a [(20, v11), (22, .pointer (some ⟨b4, 0, Option.none⟩))] := Fr.of hsz hdf ⟨e20x, e22x, trivial⟩
                      replace S : St gd6 [c 19] fr w := S.of_eq (flat2 _ _ _ _)
                      have q19 : c 19 = [(b4, .cells #[v3, .int .i64 x8, .bool x9] 58 (0, 0))] := hI 0 _ rfl
                      rw [q19] at S
                      refine wl_storeC (wn rfl) rfl F S rfl rfl (vs := [v11]) (OwnN.cl lh1) ts38 (one_cons (OwnN.one lh1) one_nil) (k := 0) rfl (Nat.le_of_ble_eq_true rfl) (c' := #[v11, .int .i64 x8, .bool x9]) rfl rfl ?_; clear S; intro w S
                      replace S : St gd6 [[(b4, .cells #[v11, .int .i64 x8, .bool x9] 58 (0, 0))]] fr w := S
                      refine wpList_nil ⟨rfl, F.sz, F.df, _, [(b4, .cells #[v11, .int .i64 x8, .bool x9] 58 (0, 0))], (Le.refl _), ?_, ⟨v11, (lst1 (F.get 20 _ rfl)), rfl⟩⟩
                      refine St0.of_eq ?_ (flat3s c ([(b4, .cells #[v11, .int .i64 x8, .bool x9] 58 (0, 0))]) [] fr).symm
                      show St0 _ (fl ([[(b4, .cells #[v11, .int .i64 x8, .bool x9] 58 (0, 0))]] ++ []) fr) _
                      exact S
                    · intro a w gd6 c fr hsz hdf hK ld6 hN hI S
                      have e1 := hN 1 (by decide)
                      have e9x : val a 9 = .pointer (some ⟨b4, 0, Option.none⟩) := nth e1 0
                      have F : Fr 36 a [(9, .pointer (some ⟨b4, 0, Option.none⟩))] := Fr.of hsz hdf ⟨e9x, trivial⟩
                      replace S : St gd6 [] fr w := S.of_eq (flat2 _ _ _ _)
                      refine wl_ev (wn rfl) (ev_nil rfl) F S rfl rfl ?_; clear F; intro a F
                      refine wpList_nil ⟨rfl, F.sz, F.df, _, [], (Le.refl _), ?_, (lst1 (F.get 23 _ rfl))⟩
                      refine St0.of_eq ?_ (flat3 c [] [] fr).symm
                      show St0 _ (fl ([] ++ []) fr) _
                      exact S
                    · intro a w gd6 c fr hsz hdf hK ld6 hN hI S
                      have e16 := hN 16 (by decide)
                      have e23x : val a 23 = .pointer (some ⟨b4, 0, Option.none⟩) := nth e16 0
                      have F : Fr 36 a [(23, .pointer (some ⟨b4, 0, Option.none⟩))] := Fr.of hsz hdf ⟨e23x, trivial⟩
                      replace S : St gd6 [] fr w := S.of_eq (flat2 _ _ _ _)
                      refine wl_ev (wn rfl) (ev_fieldAddr' tu58 tf58_2 (z := 0) ts4 rfl ⟨_, rfl⟩ rfl) F S rfl rfl ?_; clear F; intro a F
                      refine wpList_nil ⟨rfl, F.sz, F.df, _, [], (Le.refl _), ?_, (lst1 (F.get 24 _ rfl))⟩
                      refine St0.of_eq ?_ (flat3 c [] [] fr).symm
                      show St0 _ (fl ([] ++ []) fr) _
                      exact S
                    · intro a w gd6 c fr hsz hdf hK ld6 hN hI S
                      obtain ⟨v11, e12, lh1⟩ := hN 12 (by decide)
                      have e20x : val a 20 = v11 := nth e12 0
                      obtain ⟨dup1, e15, q15⟩ := hN 15 (by decide)
                      obtain rfl : v11 = dup1 := by have := e20x.symm.trans (nth e15 0); simpa using this
                      have e17 := hN 17 (by decide)
                      have e24x : val a 24 = .pointer (some ⟨b4, 2, Option.none⟩) := nth e17 0
                      have F : Fr 36 a [(20, v11), (24, .pointer (some ⟨b4, 2, Option.none⟩))] := Fr.of hsz hdf ⟨e20x, e24x, trivial⟩
                      replace S : St gd6 [c 15] fr w := S.of_eq (flat2 _ _ _ _)
                      rw [q15] at S
                      refine wl_storeC (wn rfl) rfl F S rfl rfl (vs := [.bool true]) rfl ts4 (one_cons rfl one_nil) (k := 0) rfl (Nat.le_of_ble_eq_true rfl) (c' := #[v11, .int .i64 x8, .bool true]) rfl rfl ?_; clear S; intro w S
                      replace S : St gd6 [[(b4, .cells #[v11, .int .i64 x8, .bool true] 58 (0, 0))]] fr w := S
                      refine wpList_nil ⟨rfl, F.sz, F.df, _, [(b4, .cells #[v11, .int .i64 x8, .bool true] 58 (0, 0))], (Le.refl _), ?_, ⟨v11, (lst1 (F.get 20 _ rfl)), rfl⟩⟩
                      refine St0.of_eq ?_ (flat3s c ([(b4, .cells #[v11, .int .i64 x8, .bool true] 58 (0, 0))]) [] fr).symm
                      show St0 _ (fl ([[(b4, .cells #[v11, .int .i64 x8, .bool true] 58 (0, 0))]] ++ []) fr) _
                      exact S
                    clear F S; intro a w gd6 c hsz hdf hK ld6 hI S hN
                    obtain ⟨v11, e12, lh1⟩ := hN 12 (by decide)
                    have e20x : val a 20 = v11 := nth e12 0
                    obtain ⟨dup1, e18, q18⟩ := hN 18 (by decide)
                    obtain rfl : v11 = dup1 := by have := e20x.symm.trans (nth e18 0); simpa using this
                    have F : Fr 36 a [(0, .pointer (some ⟨b4, 0, Option.none⟩))] := Fr.of hsz hdf ⟨hK 0 (by decide) _ rfl, trivial⟩
                    replace S : St gd6 [c 0, c 1, c 2, c 3, c 4, c 5, c 6, c 7, c 8, c 9, c 10, c 12, c 13, c 14, c 16, c 17, c 18, c 20, c 21] fr w := S.of_eq (flat_fl _ _ _)
                    generalize c 12 = c11 at *
                    rw [q18] at S
                    have q20 : c 20 = [(b2, .cells #[.int .i64 0, .int .i64 0] 25 (0, 0))] := hI 1 _ rfl
                    rw [q20] at S
                    have q21 : c 21 = [(b1, .cells #[.slice Option.none 0 0] 40 (0, 0))] := hI 2 _ rfl
                    rw [q21] at S
                    replace S : St gd6 [c11, [(b4, .cells #[v11, .int .i64 x8, .bool true] 58 (0, 0))], [(b2, .cells #[.int .i64 0, .int .i64 0] 25 (0, 0))], [(b1, .cells #[.slice Option.none 0 0] 40 (0, 0))]] fr w := St.tail [c11, [(b4, .cells #[v11, .int .i64 x8, .bool true] 58 (0, 0))], [(b2, .cells #[.int .i64 0, .int .i64 0] 25 (0, 0))], [(b1, .cells #[.slice Option.none 0 0] 40 (0, 0))]] _ ((((S.frontC 18 rfl).frontC 18 rfl).frontC 18 rfl).frontC 14 rfl)
                    clear hK hI hN hsz hdf e12 e18 e20x
                    refine then_n ?_
                    replace S : St gd6 [[(b4, .cells #[v11, .int .i64 x8, .bool true] 58 (0, 0))], [(b2, .cells #[.int .i64 0, .int .i64 0] 25 (0, 0))], [(b1, .cells #[.slice Option.none 0 0] 40 (0, 0))], c11] fr w := St.tail [[(b4, .cells #[v11, .int .i64 x8, .bool true] 58 (0, 0))], [(b2, .cells #[.int .i64 0, .int .i64 0] 25 (0, 0))], [(b1, .cells #[.slice Option.none 0 0] 40 (0, 0))], c11] _ ((((S.frontC 0 rfl).frontC 4 rfl).frontC 4 rfl).frontC 4 rfl)
                    exact ⟨y8, true, v11, c11, gd6, F.sub ⟨rfl, trivial⟩, ld6, S, lh1, hm⟩
                  · refine wp_condF F rfl hc6 ?_
                    refine wp_skip ?_
                    refine then_n ?_
                    exact ⟨x7, x9, v3, c2, g5, F.sub ⟨rfl, trivial⟩, (Le.refl _), S, h4, hm⟩
                · clear F S hm; rintro a w ⟨x18, x19, v5, c4, g8, F, l8, S, h6, hm⟩
                  refine wp_seq ?_
                  refine wp_quiet mo (by kernel_rfl) S ?_
                  refine wq_ev (wn rfl) (ev_move rfl) F rfl rfl ?_; clear F a; intro a F
                  refine wq_ev (wn rfl) (ev_nil rfl) F rfl rfl ?_; clear F a; intro a F
                  refine wq_ev (wn rfl) (ev_fieldAddr' tu58 tf58_0 (z := 0) ts38 rfl ⟨_, rfl⟩ rfl) F rfl rfl ?_; clear F a; intro a F
                  refine wq_ev (wn rfl) (ev_load1 tu38 rfl rfl (box_ptr (cells := [v5]) 0 rfl 0 rfl (Nat.le_of_ble_eq_true rfl))) F rfl rfl ?_; clear F a; intro a F
                  refine wq_ev (wn rfl) (ev_move rfl) F rfl rfl ?_; clear F a; intro a F
                  refine wq_ev (wn rfl) (ev_nil rfl) F rfl rfl ?_; clear F a; intro a F
                  refine wq_ev (wn rfl) (ev_fieldAddr' tu58 tf58_0 (z := 0) ts38 rfl ⟨_, rfl⟩ rfl) F rfl rfl ?_; clear F a; intro a F
                  refine wq_ev (wn rfl) (ev_load1 tu38 rfl rfl (box_ptr (cells := [v5]) 0 rfl 0 rfl (Nat.le_of_ble_eq_true rfl))) F rfl rfl ?_; clear F a; intro a F
                  refine wq_ev (wn rfl) (ev_lenOwN h6 rfl tu38) F rfl rfl ?_; clear F a; intro a F
                  obtain ⟨z5, hz5, hm⟩ := bind_some hm
                  refine wq_ev (wn rfl) (ev_int rfl rfl (bo_sub hz5)) F rfl rfl ?_; clear F a; intro a F
                  obtain ⟨y5, hy5, hm⟩ := bind_some hm
                  refine wq_ev (wn rfl) (ev_idxN h6 hy5 tu38 ts44 rfl rfl) F rfl rfl ?_; clear F a; intro a F
                  refine wq_ev (wn rfl) (ev_assign rfl) F rfl rfl ?_; clear F a; intro a F
                  refine wq_nil ?_; clear S; intro w S
                  replace F := F.sub (e' := [(2, elemP v5 z5 3)]) ⟨rfl, trivial⟩
                  refine then_n ?_
                  refine wp_ret ?_
                  refine post_r (fn := Try.f41) (rs := [.tmp 2]) [elemP v5 z5 3] F rfl (ar_cons (resT rfl) ar_nil) ?_
                  refine ⟨_, rfl, ?_⟩; clear F a; intro a F
                  replace F : Fr 24 a [(6, elemP v5 z5 3), (0, .pointer (some ⟨b4, 0, Option.none⟩)), (1, .string y4)] := F
                  refine wl_ev (wn rfl) (ev_assign rfl) F S rfl rfl ?_; clear F a; intro a F
                  refine wpList_nil ?_
                  replace F := F.sub (e' := [(4, elemP v5 z5 3), (0, .pointer (some ⟨b4, 0, Option.none⟩)), (1, .string y4)]) ⟨rfl, rfl, rfl, trivial⟩
                  refine then_n ?_
                  refine wp_seq ?_
                  refine wp_region_lit ?_
                  refine wl_ev (wn rfl) (ev_move rfl) F S rfl rfl ?_; clear F a; intro a F
                  refine wl_ev (wn rfl) (ev_move rfl) F S rfl rfl ?_; clear F a; intro a F
                  refine wl_ev (wn rfl) (ev_nilP (elemN_ptr h6 hy5) rfl) F S rfl rfl ?_; clear F a; intro a F
                  refine wl_ev (wn rfl) (ev_fieldAddr' tu44 tf44_1 (z := 0) ts31 rfl (elemN_ptr h6 hy5) rfl) F S rfl rfl ?_; clear F a; intro a F
                  replace S : St g8 [c4, [(b4, .cells #[v5, .int .i64 x8, .bool x19] 58 (0, 0))], [(b2, .cells #[.int .i64 0, .int .i64 0] 25 (0, 0))], [(b1, .cells #[.slice Option.none 0 0] 40 (0, 0))]] fr w := ((((S.frontC 2 rfl).frontC 2 rfl).frontC 2 rfl).frontC 6 rfl)
                  obtain ⟨cs3, ca1, cr1, ci1, hH1, hR1, hP1⟩ := OwnN.hole h6 hy5
                  replace S : St g8 [ca1, cr1, ci1, [(b4, .cells #[v5, .int .i64 x8, .bool x19] 58 (0, 0))], [(b2, .cells #[.int .i64 0, .int .i64 0] 25 (0, 0))], [(b1, .cells #[.slice Option.none 0 0] 40 (0, 0))]] fr w := St.split3 hP1 S
                  obtain ⟨v6, c5, v7, c6, rfl, rfl, h7, h8⟩ := orep_Hunk hR1
                  replace S : St g8 [ca1, cr1, c5, c6, [(b4, .cells #[v5, .int .i64 x8, .bool x19] 58 (0, 0))], [(b2, .cells #[.int .i64 0, .int .i64 0] 25 (0, 0))], [(b1, .cells #[.slice Option.none 0 0] 40 (0, 0))]] fr w := S.of_eq (by simp only [fl, List.append_assoc, List.append_nil, List.nil_append])
                  refine wl_ev (wn rfl) (ev_load1 tu31 rfl rfl (fun w s => fieldP (cells := [v6]) 1 ((HoleN.ptr hH1 _ _ 0 rfl) w s) rfl (Nat.le_of_ble_eq_true rfl))) F S rfl rfl ?_; clear F a; intro a F
                  refine wl_ev (wn rfl) (ev_move rfl) F S rfl rfl ?_; clear F a; intro a F
                  refine wl_lit (l := ([y4] : List ByteArray)) (vs := [.string y4]) (parts := [(0, .tmp 12)]) (wn rfl) rfl rfl rfl tu31 te9 (sz_cons rfl sz_nil) rfl (Cat.cons (show Rep.rep _ y4 _ from rfl) (Cat.nil _)) (coa_cons rfl coa_nil) rfl F S rfl rfl ?_; clear F a S
                  rintro v8 c7 a w h9 F S
                  obtain ⟨cs4, hk1, hr4⟩ := OwnS.reads h9
                  obtain ⟨y6, hy6, hm⟩ := bind_some hm
                  refine wl_append (wn rfl) rfl tu31 tu31 te9 (by decide) (by decide) F S rfl rfl (k := 3) rfl h7 hk1 rfl (hr4 _ _ _ 0 rfl S) hy6 rfl rfl ?_; clear F a S
                  rintro v9 c8 a w h10 S F; replace S : St g8 [c7, ca1, cr1, c8, c6, [(b4, .cells #[v5, .int .i64 x8, .bool x19] 58 (0, 0))], [(b2, .cells #[.int .i64 0, .int .i64 0] 25 (0, 0))], [(b1, .cells #[.slice Option.none 0 0] 40 (0, 0))]] fr w := S
                  refine wl_ev (wn rfl) (ev_nilP (elemH_ptr hH1) rfl) F S rfl rfl ?_; clear F a; intro a F
                  refine wl_ev (wn rfl) (ev_fieldAddr' tu44 tf44_1 (z := 0) ts31 rfl (elemH_ptr hH1) rfl) F S rfl rfl ?_; clear F a; intro a F
                  refine wl_storeH 1 (wn rfl) rfl F S hH1 rfl rfl rfl (us := [v9]) (OwnS.cl h10) ts31 (one_cons (OwnS.one h10) one_nil) (k := 1) rfl (Nat.le_of_ble_eq_true rfl) (cs' := [.int .i64 y5.At, v9, v7]) rfl rfl ?_; clear S
                  rintro ca2 w hH2 S; replace S : St g8 [c7, ca2, cr1, c8, c6, [(b4, .cells #[v5, .int .i64 x8, .bool x19] 58 (0, 0))], [(b2, .cells #[.int .i64 0, .int .i64 0] 25 (0, 0))], [(b1, .cells #[.slice Option.none 0 0] 40 (0, 0))]] fr w := S
                  refine wpList_nil ?_
                  replace F := F.sub (e' := [(0, .pointer (some ⟨b4, 0, Option.none⟩))]) ⟨rfl, trivial⟩
                  refine then_n ?_
                  refine wp_region_lit ?_
                  refine wl_ev (wn rfl) (ev_move rfl) F S rfl rfl ?_; clear F a; intro a F
                  refine wl_ev (wn rfl) (ev_nil rfl) F S rfl rfl ?_; clear F a; intro a F
                  refine wl_ev (wn rfl) (ev_fieldAddr' tu58 tf58_1 (z := 0) ts3 rfl ⟨_, rfl⟩ rfl) F S rfl rfl ?_; clear F a; intro a F
                  refine wl_ev (wn rfl) (ev_load1 tu3 rfl rfl (box_ptr (cells := [.int .i64 x8]) 5 rfl 1 rfl (Nat.le_of_ble_eq_true rfl))) F S rfl rfl ?_; clear F a; intro a F
                  obtain ⟨z6, hz6, hm⟩ := bind_some hm
                  refine wl_ev (wn rfl) (ev_int rfl rfl (bo_add hz6)) F S rfl rfl ?_; clear F a; intro a F
                  refine wl_ev (wn rfl) (ev_nil rfl) F S rfl rfl ?_; clear F a; intro a F
                  refine wl_ev (wn rfl) (ev_fieldAddr' tu58 tf58_1 (z := 0) ts3 rfl ⟨_, rfl⟩ rfl) F S rfl rfl ?_; clear F a; intro a F
                  refine wl_storeC (wn rfl) rfl F S rfl rfl (vs := [.int .i64 z6]) rfl ts3 (one_cons rfl one_nil) (k := 5) rfl (Nat.le_of_ble_eq_true rfl) (c' := #[v5, .int .i64 z6, .bool x19]) rfl rfl ?_; clear S; intro w S
                  replace S : St g8 [c7, ca2, cr1, c8, c6, [(b4, .cells #[v5, .int .i64 z6, .bool x19] 58 (0, 0))], [(b2, .cells #[.int .i64 0, .int .i64 0] 25 (0, 0))], [(b1, .cells #[.slice Option.none 0 0] 40 (0, 0))]] fr w := S
                  refine wpList_nil ?_
                  replace F := F.sub (e' := []) trivial
                  replace S : St g8 [ca2, cr1, c8, c6, c7, [(b4, .cells #[v5, .int .i64 z6, .bool x19] 58 (0, 0))], [(b2, .cells #[.int .i64 0, .int .i64 0] 25 (0, 0))], [(b1, .cells #[.slice Option.none 0 0] 40 (0, 0))]] fr w := ((((((((S.frontC 7 rfl).frontC 7 rfl).frontC 7 rfl).frontC 3 rfl).frontC 8 rfl).frontC 8 rfl).frontC 8 rfl).frontC 8 rfl)
                  obtain ⟨y7, hy7, hm⟩ := bind_some hm
                  have h11 := HoleN.shut hH2 (orep_Hunk_mk (x := ({ At := y5.At, Old := y6, New := y5.New } : Hunk)) h10 h8); replace h11 : OwnN g8 y7 v5 (ca2 ++ (cr1 ++ (c8 ++ (c6 ++ [])))) := Option.some.inj hy7 ▸ h11
                  replace S : St g8 [(ca2 ++ (cr1 ++ (c8 ++ (c6 ++ [])))), c7, [(b4, .cells #[v5, .int .i64 z6, .bool x19] 58 (0, 0))], [(b2, .cells #[.int .i64 0, .int .i64 0] 25 (0, 0))], [(b1, .cells #[.slice Option.none 0 0] 40 (0, 0))]] fr w := S.of_eq (by simp only [fl, List.append_assoc, List.append_nil, List.nil_append])
                  generalize (ca2 ++ (cr1 ++ (c8 ++ (c6 ++ [])))) = c9 at S h11
                  refine post_n (fn := Try.f30) (rs := []) [] F rfl ar_nil ?_
                  refine ⟨_, rfl, ?_⟩; clear F a; intro a F
                  replace F : Fr 55 a [(49, .tuple #[]), (24, .int .i64 x4), (23, .int .i64 (y2.length : Int)), (22, v2), (9, .int .i64 x5), (8, .int .i64 x6), (7, .pointer (some ⟨b4, 0, Option.none⟩)), (5, .pointer (some ⟨b2, 0, Option.none⟩)), (4, .pointer (some ⟨b1, 0, Option.none⟩)), (0, va_1), (1, vb_1)] := F
                  refine wpList_nil ?_
                  replace F := F.sub (e' := [(24, .int .i64 x4), (23, .int .i64 (y2.length : Int)), (22, v2), (9, .int .i64 x5), (8, .int .i64 x6), (7, .pointer (some ⟨b4, 0, Option.none⟩)), (5, .pointer (some ⟨b2, 0, Option.none⟩)), (4, .pointer (some ⟨b1, 0, Option.none⟩)), (0, va_1), (1, vb_1)]) ⟨rfl, rfl, rfl, rfl, rfl, rfl, rfl, rfl, rfl, rfl, trivial⟩
                  refine then_n ?_
                  refine wp_region_lit ?_
                  refine wl_ev (wn rfl) (ev_move rfl) F S rfl rfl ?_; clear F a; intro a F
                  obtain ⟨z7, hz7, hm⟩ := bind_some hm
                  refine wl_ev (wn rfl) (ev_int rfl rfl (bo_add hz7)) F S rfl rfl ?_; clear F a; intro a F
                  refine wl_ev (wn rfl) (ev_assign rfl) F S rfl rfl ?_; clear F a; intro a F
                  refine wpList_nil ?_
                  replace F := F.sub (e' := [(8, .int .i64 z7), (24, .int .i64 x4), (23, .int .i64 (y2.length : Int)), (22, v2), (9, .int .i64 x5), (7, .pointer (some ⟨b4, 0, Option.none⟩)), (5, .pointer (some ⟨b2, 0, Option.none⟩)), (4, .pointer (some ⟨b1, 0, Option.none⟩)), (0, va_1), (1, vb_1)]) ⟨rfl, rfl, rfl, rfl, rfl, rfl, rfl, rfl, rfl, rfl, trivial⟩
                  refine inb_n ?_
                  refine inb_n ?_
                  refine then_n ?_
                  replace S : St g8 [[(b4, .cells #[v5, .int .i64 z6, .bool x19] 58 (0, 0))], [(b2, .cells #[.int .i64 0, .int .i64 0] 25 (0, 0))], [(b1, .cells #[.slice Option.none 0 0] 40 (0, 0))], c9] fr w := St.tail [[(b4, .cells #[v5, .int .i64 z6, .bool x19] 58 (0, 0))], [(b2, .cells #[.int .i64 0, .int .i64 0] 25 (0, 0))], [(b1, .cells #[.slice Option.none 0 0] 40 (0, 0))], c9] _ ((((S.frontC 0 rfl).frontC 5 rfl).frontC 5 rfl).frontC 5 rfl)
                  exact ⟨x5, z7, y7, z6, x19, v5, c9, g8, F.sub ⟨rfl, rfl, rfl, rfl, rfl, rfl, rfl, rfl, rfl, rfl, trivial⟩, l8, S, h11, hm⟩
              · refine wp_condF F rfl hc5 ?_
                refine wp_seq ?_
                refine wp_region_lit ?_
                refine wl_ev (wn rfl) (ev_move rfl) F S rfl rfl ?_; clear F a; intro a F
                refine wl_ev (wn rfl) (ev_move rfl) F S rfl rfl ?_; clear F a; intro a F
                obtain ⟨y9, hy9, hm⟩ := bind_some hm
                obtain ⟨cs5, hr5, hp3⟩ := elemS (hb_1.mono ((l1.trans l4).trans l5)) hy9
                obtain rfl := rep_str hr5
                refine wl_ev (wn rfl) (ev_idxS (hb_1.mono ((l1.trans l4).trans l5)) hy9 tu31 ts9 rfl rfl) F S rfl rfl ?_; clear F a; intro a F
                refine wl_ev (wn rfl) (ev_load1 tu9 rfl rfl (ptr_mono (cks := [[(b4, .cells #[v3, .int .i64 x8, .bool x9] 58 (0, 0))], [(b2, .cells #[.int .i64 0, .int .i64 0] 25 (0, 0))], [(b1, .cells #[.slice Option.none 0 0] 40 (0, 0))], c2]) (fr := fr) hp3 (Le.refl _))) F S rfl rfl ?_; clear F a; intro a F
                replace F := F.sub (e' := [(32, .string y9), (24, .int .i64 x4), (23, .int .i64 (y2.length : Int)), (22, v2), (9, .int .i64 x5), (8, .int .i64 x6), (7, .pointer (some ⟨b4, 0, Option.none⟩)), (5, .pointer (some ⟨b2, 0, Option.none⟩)), (4, .pointer (some ⟨b1, 0, Option.none⟩)), (0, va_1), (1, vb_1)]) ⟨rfl, rfl, rfl, rfl, rfl, rfl, rfl, rfl, rfl, rfl, rfl, trivial⟩
                refine wl_callK (wn rfl) rfl (xs := [.tmp 7, .tmp 32]) (vs := [.pointer (some ⟨b4, 0, Option.none⟩), .string y9]) (cap := []) (e' := [(24, .int .i64 x4), (23, .int .i64 (y2.length : Int)), (22, v2), (9, .int .i64 x5), (8, .int .i64 x6), (7, .pointer (some ⟨b4, 0, Option.none⟩)), (5, .pointer (some ⟨b2, 0, Option.none⟩)), (4, .pointer (some ⟨b1, 0, Option.none⟩)), (0, va_1), (1, vb_1)]) ⟨rfl, rfl, rfl, rfl, rfl, rfl, rfl, rfl, rfl, rfl, trivial⟩ F rfl rfl tc31 rfl rfl (calls_enter (fn := Try.f31) Try.func31 rfl Try.ntmps31 (Nat.le_of_ble_eq_true rfl) ?_); clear F a; intro a F
                replace F : Fr 17 a [(0, .pointer (some ⟨b4, 0, Option.none⟩)), (1, .string y9)] := F
                refine wp_seq ?_
                refine wp_region_lit ?_
                refine wl_ev (wn rfl) (ev_move rfl) F S rfl rfl ?_; clear F a; intro a F
                replace F := F.sub (e' := [(5, .pointer (some ⟨b4, 0, Option.none⟩)), (1, .string y9)]) ⟨rfl, rfl, trivial⟩
                refine wl_callK (wn rfl) rfl (xs := [.tmp 5]) (vs := [.pointer (some ⟨b4, 0, Option.none⟩)]) (cap := []) (e' := [(1, .string y9)]) ⟨rfl, trivial⟩ F rfl rfl tc41 rfl rfl (calls_enter (fn := Try.f41) Try.func41 rfl Try.ntmps41 (Nat.le_of_ble_eq_true rfl) ?_); clear F a; intro a F
                replace F : Fr 36 a [(0, .pointer (some ⟨b4, 0, Option.none⟩))] := F
                refine wp_seq ?_
                refine wp_region_lit ?_
                refine wl_ev (wn rfl) (ev_assign rfl) F S rfl rfl ?_; clear F a; intro a F
                refine wpList_nil ?_
                replace F := F.sub (e' := [(0, .pointer (some ⟨b4, 0, Option.none⟩))]) ⟨rfl, trivial⟩
                refine then_n ?_
                refine wp_cut (fun a w => ∃ (x20 : List Hunk) (x21 : Bool) (v12 : Value) (c12 : Hl) (g9 : Gh), Fr 36 a [(0, .pointer (some ⟨b4, 0, Option.none⟩))] ∧ Le g5 g9 ∧ St g9 [[(b4, .cells #[v12, .int .i64 x8, .bool x21] 58 (0, 0))], [(b2, .cells #[.int .i64 0, .int .i64 0] 25 (0, 0))], [(b1, .cells #[.slice Option.none 0 0] 40 (0, 0))], c12] fr w ∧ OwnN g9 x20 v12 c12 ∧ diff_Script.j5 x4 x5 x6 x8 y9 x20 x21 = some x10) ?_ ?_
                · refine wp_seq ?_
                  refine wp_region_lit ?_
                  refine wl_ev (wn rfl) (ev_move rfl) F S rfl rfl ?_; clear F a; intro a F
                  refine wl_ev (wn rfl) (ev_nil rfl) F S rfl rfl ?_; clear F a; intro a F
                  refine wl_ev (wn rfl) (ev_fieldAddr' tu58 tf58_2 (z := 0) ts4 rfl ⟨_, rfl⟩ rfl) F S rfl rfl ?_; clear F a; intro a F
                  refine wl_ev (wn rfl) (ev_load1 tu4 rfl rfl (box_ptr (cells := [.bool x9]) 0 rfl 2 rfl (Nat.le_of_ble_eq_true rfl))) F S rfl rfl ?_; clear F a; intro a F
                  refine wl_ev (wn rfl) (ev_not rfl) F S rfl rfl ?_; clear F a; intro a F
                  refine wpList_nil ?_
                  replace F := F.sub (e' := [(7, .bool !x9), (0, .pointer (some ⟨b4, 0, Option.none⟩))]) ⟨rfl, rfl, trivial⟩
                  refine then_n ?_
                  obtain ⟨hc7, hm⟩ | ⟨hc7, hm⟩ := ite_or hm
                  · refine wp_condT F rfl hc7 ?_
                    obtain ⟨y13, hy13, hm⟩ := bind_some hm
                    refine wp_drawL ⟨4, [[8], [9], [10], [11], [12], [13], [14], [15], [16], [17], [18], [19], [20], [21], [22], [20], [23], [24], [20]], [[], [], [], [], [], [], [], [], [], [], [], [], [22, 11], [], [], [19], [], [], [15]], [[], [], [], [], [], [19], [], [], [], [19], [], [], [], [], [], [], [], [], []], [[0], [0], [0], [], [], [], [0], [], [], [], [], [], [], [], [], [], [], [], []], [[], [], [], [2], [3], [4], [], [6], [7], [8], [9], [10], [5, 11], [0], [13], [12, 14], [1], [16], [12, 15, 17]], [0], [0, 1, 2, 3, 4, 5, 6, 7, 8, 9, 10, 12, 13, 14, 16, 17, 18, 20, 21]⟩
                      [([8], fun us g c => us = [.pointer (some ⟨b4, 0, Option.none⟩)]),
                       ([9], fun us g c => us = [.pointer (some ⟨b4, 0, Option.none⟩)]),
                       ([10], fun us g c => us = [.pointer (some ⟨b4, 0, Option.none⟩)]),
                       ([11], fun us g c => us = [.pointer (some ⟨b4, 0, Option.none⟩)]),
                       ([12], fun us g c => us = [.pointer (some ⟨b4, 0, Option.none⟩)]),
                       ([13], fun us g c => us = [v3]),
                       ([14], fun us g c => us = [.pointer (some ⟨b4, 0, Option.none⟩)]),
                       ([15], fun us g c => us = [.pointer (some ⟨b4, 0, Option.none⟩)]),
                       ([16], fun us g c => us = [.pointer (some ⟨b4, 1, Option.none⟩)]),
                       ([17], fun us g c => us = [.int .i64 x8]),
                       ([18], fun us g c => us = [.agg #[.int .i64 x8, .slice Option.none 0 0, .slice Option.none 0 0]]),
                       ([19], fun us g c => ∃ v17 : Value, us = [v17] ∧ OwnN g ([({ At := x8, Old := [], New := [] } : Hunk)] : List Hunk) v17 c),
                       ([20], fun us g c => ∃ v18 : Value, us = [v18] ∧ OwnN g y13 v18 c),
                       ([21], fun us g c => us = [.pointer (some ⟨b4, 0, Option.none⟩)]),
                       ([22], fun us g c => us = [.pointer (some ⟨b4, 0, Option.none⟩)]),
                       ([20], fun us g c => ∃ v18 : Value, us = [v18] ∧ c = [(b4, .cells #[v18, .int .i64 x8, .bool x9] 58 (0, 0))]),
                       ([23], fun us g c => us = [.pointer (some ⟨b4, 0, Option.none⟩)]),
                       ([24], fun us g c => us = [.pointer (some ⟨b4, 2, Option.none⟩)]),
                       ([20], fun us g c => ∃ v18 : Value, us = [v18] ∧ c = [(b4, .cells #[v18, .int .i64 x8, .bool true] 58 (0, 0))])]
                      mo (by kernel_rfl) rfl rfl ⟨fun _ _ _ _ _ h => h, fun _ _ _ _ _ h => h, fun _ _ _ _ _ h => h, fun _ _ _ _ _ h => h, fun _ _ _ _ _ h => h, fun _ _ _ _ _ h => h, fun _ _ _ _ _ h => h, fun _ _ _ _ _ h => h, fun _ _ _ _ _ h => h, fun _ _ _ _ _ h => h, fun _ _ _ _ _ h => h, fun _ _ _ _ l ⟨x0, e0, h0⟩ => ⟨x0, e0, h0.mono l⟩, fun _ _ _ _ l ⟨x0, e0, h0⟩ => ⟨x0, e0, h0.mono l⟩, fun _ _ _ _ _ h => h, fun _ _ _ _ _ h => h, fun _ _ _ _ _ h => h, fun _ _ _ _ _ h => h, fun _ _ _ _ _ h => h, fun _ _ _ _ _ h => h, trivial⟩ F S ⟨?_, ?_, ?_, ?_, ?_, ?_, ?_, ?_, ?_, ?_, ?_, ?_, ?_, ?_, ?_, ?_, ?_, ?_, ?_, trivial⟩ ?_
                    · intro a w gd11 c fr hsz hdf hK ld11 hN hI S
                      have F : Fr 36 a [(0, .pointer (some ⟨b4, 0, Option.none⟩))] := Fr.of hsz hdf ⟨hK 0 (by decide) _ rfl, trivial⟩
                      replace S : St gd11 [] fr w := S.of_eq (flat2 _ _ _ _)
                      refine wl_ev (wn rfl) (ev_move rfl) F S rfl rfl ?_; clear F; intro a F
                      refine wpList_nil ⟨rfl, F.sz, F.df, _, [], (Le.refl _), ?_, (lst1 (F.get 8 _ rfl))⟩
                      refine St0.of_eq ?_ (flat3 c [] [] fr).symm
                      show St0 _ (fl ([] ++ []) fr) _
                      exact S
                    · intro a w gd11 c fr hsz hdf hK ld11 hN hI S
                      have F : Fr 36 a [(0, .pointer (some ⟨b4, 0, Option.none⟩))] := Fr.of hsz hdf ⟨hK 0 (by decide) _ rfl, trivial⟩
                      replace S : St gd11 [] fr w := S.of_eq (flat2 _ _ _ _)
                      refine wl_ev (wn rfl) (ev_move rfl) F S rfl rfl ?_; clear F; intro a F
                      refine wpList_nil ⟨rfl, F.sz, F.df, _, [], (Le.refl _), ?_, (lst1 (F.get 9 _ rfl))⟩
                      refine St0.of_eq ?_ (flat3 c [] [] fr).symm
                      show St0 _ (fl ([] ++ []) fr) _
                      exact S
                    · intro a w gd11 c fr hsz hdf hK ld11 hN hI S
                      have F : Fr 36 a [(0, .pointer (some ⟨b4, 0, Option.none⟩))] := Fr.of hsz hdf ⟨hK 0 (by decide) _ rfl, trivial⟩
                      replace S : St gd11 [] fr w := S.of_eq (flat2 _ _ _ _)
                      refine wl_ev (wn rfl) (ev_move rfl) F S rfl rfl ?_; clear F; intro a F
                      refine wpList_nil ⟨rfl, F.sz, F.df, _, [], (Le.refl _), ?_, (lst1 (F.get 10 _ rfl))⟩
                      refine St0.of_eq ?_ (flat3 c [] [] fr).symm
                      show St0 _ (fl ([] ++ []) fr) _
                      exact S
                    · intro a w gd11 c fr hsz hdf hK ld11 hN hI S
                      have e2 := hN 2 (by decide)
                      have e10x : val a 10 = .pointer (some ⟨b4, 0, Option.none⟩) := nth e2 0
                      have F : Fr 36 a [(10, .pointer (some ⟨b4, 0, Option.none⟩))] := Fr.of hsz hdf ⟨e10x, trivial⟩
                      replace S : St gd11 [] fr w := S.of_eq (flat2 _ _ _ _)
                      refine wl_ev (wn rfl) (ev_nil rfl) F S rfl rfl ?_; clear F; intro a F
                      refine wpList_nil ⟨rfl, F.sz, F.df, _, [], (Le.refl _), ?_, (lst1 (F.get 11 _ rfl))⟩
                      refine St0.of_eq ?_ (flat3 c [] [] fr).symm
                      show St0 _ (fl ([] ++ []) fr) _
                      exact S
                    · intro a w gd11 c fr hsz hdf hK ld11 hN hI S
                      have e3 := hN 3 (by decide)
                      have e11x : val a 11 = .pointer (some ⟨b4, 0, Option.none⟩) := nth e3 0
                      have F : Fr 36 a [(11, .pointer (some ⟨b4, 0, Option.none⟩))] := Fr.of hsz hdf ⟨e11x, trivial⟩
                      replace S : St gd11 [] fr w := S.of_eq (flat2 _ _ _ _)
                      refine wl_ev (wn rfl) (ev_fieldAddr' tu58 tf58_0 (z := 0) ts38 rfl ⟨_, rfl⟩ rfl) F S rfl rfl ?_; clear F; intro a F
                      refine wpList_nil ⟨rfl, F.sz, F.df, _, [], (Le.refl _), ?_, (lst1 (F.get 12 _ rfl))⟩
                      refine St0.of_eq ?_ (flat3 c [] [] fr).symm
                      show St0 _ (fl ([] ++ []) fr) _
                      exact S
                    · intro a w gd11 c fr hsz hdf hK ld11 hN hI S
                      have e4 := hN 4 (by decide)
                      have e12x : val a 12 = .pointer (some ⟨b4, 0, Option.none⟩) := nth e4 0
                      have F : Fr 36 a [(12, .pointer (some ⟨b4, 0, Option.none⟩))] := Fr.of hsz hdf ⟨e12x, trivial⟩
                      replace S : St gd11 [c 19] fr w := S.of_eq (flat2 _ _ _ _)
                      have q19 : c 19 = [(b4, .cells #[v3, .int .i64 x8, .bool x9] 58 (0, 0))] := hI 0 _ rfl
                      rw [q19] at S
                      refine wl_ev (wn rfl) (ev_load1 tu38 rfl rfl (box_ptr (cells := [v3]) 0 rfl 0 rfl (Nat.le_of_ble_eq_true rfl))) F S rfl rfl ?_; clear F; intro a F
                      refine wpList_nil ⟨rfl, F.sz, F.df, _, [], (Le.refl _), ?_, (lst1 (F.get 13 _ rfl))⟩
                      refine St0.of_eq ?_ (flat3 c [] [19] fr).symm
                      show St0 _ (fl ([] ++ [c 19]) fr) _
                      rw [q19]
                      exact S
                    · intro a w gd11 c fr hsz hdf hK ld11 hN hI S
                      have F : Fr 36 a [(0, .pointer (some ⟨b4, 0, Option.none⟩))] := Fr.of hsz hdf ⟨hK 0 (by decide) _ rfl, trivial⟩
                      replace S : St gd11 [] fr w := S.of_eq (flat2 _ _ _ _)
                      refine wl_ev (wn rfl) (ev_move rfl) F S rfl rfl ?_; clear F; intro a F
                      refine wpList_nil ⟨rfl, F.sz, F.df, _, [], (Le.refl _), ?_, (lst1 (F.get 14 _ rfl))⟩
                      refine St0.of_eq ?_ (flat3 c [] [] fr).symm
                      show St0 _ (fl ([] ++ []) fr) _
                      exact S
                    · intro a w gd11 c fr hsz hdf hK ld11 hN hI S
                      have e6 := hN 6 (by decide)
                      have e14x : val a 14 = .pointer (some ⟨b4, 0, Option.none⟩) := nth e6 0
                      have F : Fr 36 a [(14, .pointer (some ⟨b4, 0, Option.none⟩))] := Fr.of hsz hdf ⟨e14x, trivial⟩
                      replace S : St gd11 [] fr w := S.of_eq (flat2 _ _ _ _)
                      refine wl_ev (wn rfl) (ev_nil rfl) F S rfl rfl ?_; clear F; intro a F
                      refine wpList_nil ⟨rfl, F.sz, F.df, _, [], (Le.refl _), ?_, (lst1 (F.get 15 _ rfl))⟩
                      refine St0.of_eq ?_ (flat3 c [] [] fr).symm
                      show St0 _ (fl ([] ++ []) fr) _
                      exact S
                    · intro a w gd11 c fr hsz hdf hK ld11 hN hI S
                      have e7 := hN 7 (by decide)
                      have e15x : val a 15 = .pointer (some ⟨b4, 0, Option.none⟩) := nth e7 0
                      have F : Fr 36 a [(15, .pointer (some ⟨b4, 0, Option.none⟩))] := Fr.of hsz hdf ⟨e15x, trivial⟩
                      replace S : St gd11 [] fr w := S.of_eq (flat2 _ _ _ _)
                      refine wl_ev (wn rfl) (ev_fieldAddr' tu58 tf58_1 (z := 0) ts3 rfl ⟨_, rfl⟩ rfl) F S rfl rfl ?_; clear F; intro a F
                      refine wpList_nil ⟨rfl, F.sz, F.df, _, [], (Le.refl _), ?_, (lst1 (F.get 16 _ rfl))⟩
                      refine St0.of_eq ?_ (flat3 c [] [] fr).symm
                      show St0 _ (fl ([] ++ []) fr) _
                      exact S
                    · intro a w gd11 c fr hsz hdf hK ld11 hN hI S
                      have e8 := hN 8 (by decide)
                      have e16x : val a 16 = .pointer (some ⟨b4, 1, Option.none⟩) := nth e8 0
                      have F : Fr 36 a [(16, .pointer (some ⟨b4, 1, Option.none⟩))] := Fr.of hsz hdf ⟨e16x, trivial⟩
                      replace S : St gd11 [c 19] fr w := S.of_eq (flat2 _ _ _ _)
                      have q19 : c 19 = [(b4, .cells #[v3, .int .i64 x8, .bool x9] 58 (0, 0))] := hI 0 _ rfl
                      rw [q19] at S
                      refine wl_ev (wn rfl) (ev_load1 tu3 rfl rfl (box_ptr (cells := [.int .i64 x8]) 0 rfl 1 rfl (Nat.le_of_ble_eq_true rfl))) F S rfl rfl ?_; clear F; intro a F
                      refine wpList_nil ⟨rfl, F.sz, F.df, _, [], (Le.refl _), ?_, (lst1 (F.get 17 _ rfl))⟩
                      refine St0.of_eq ?_ (flat3 c [] [19] fr).symm
                      show St0 _ (fl ([] ++ [c 19]) fr) _
                      rw [q19]
                      exact S
                    · intro a w gd11 c fr hsz hdf hK ld11 hN hI S
                      have e9 := hN 9 (by decide)
                      have e17x : val a 17 = .int .i64 x8 := nth e9 0
                      have F : Fr 36 a [(17, .int .i64 x8)] := Fr.of hsz hdf ⟨e17x, trivial⟩
                      replace S : St gd11 [] fr w := S.of_eq (flat2 _ _ _ _)
                      refine wl_ev (wn rfl) (ev_build (parts := [(0, .tmp 17)]) (vs := [(0, .int .i64 x8)]) rfl (fun w => tb44_0 x8 w)) F S rfl rfl ?_; clear F; intro a F
                      refine wpList_nil ⟨rfl, F.sz, F.df, _, [], (Le.refl _), ?_, (lst1 (F.get 18 _ rfl))⟩
                      refine St0.of_eq ?_ (flat3 c [] [] fr).symm
                      show St0 _ (fl ([] ++ []) fr) _
                      exact S
                    · intro a w gd11 c fr hsz hdf hK ld11 hN hI S
                      have e10 := hN 10 (by decide)
                      have e18x : val a 18 = .agg #[.int .i64 x8, .slice Option.none 0 0, .slice Option.none 0 0] := nth e10 0
                      have F : Fr 36 a [(18, .agg #[.int .i64 x8, .slice Option.none 0 0, .slice Option.none 0 0])] := Fr.of hsz hdf ⟨e18x, trivial⟩
                      replace S : St gd11 [] fr w := S.of_eq (flat2 _ _ _ _)
                      replace S : St gd11 [[]] fr w := S
                      replace S : St gd11 [[], []] fr w := S
                      replace S : St gd11 [[], []] fr w := ((S.frontC 0 rfl).frontC 2 rfl)
                      replace S : St gd11 [([] ++ ([] ++ []))] fr w := S.of_eq (by simp only [fl, List.append_assoc, List.append_nil, List.nil_append])
                      refine wl_lit1N (p := ({ At := x8, Old := [], New := [] } : Hunk)) (wn rfl) rfl rfl tu38 te44 rfl rfl rfl (orep_Hunk_mk (x := ({ At := x8, Old := [], New := [] } : Hunk)) (OwnS.nil _) (OwnS.nil _)) F S rfl rfl ?_; clear F S
                      rintro v17 c18 a w h20 F S
                      refine wpList_nil ⟨rfl, F.sz, F.df, _, c18, (Le.refl _), ?_, ⟨v17, (lst1 (F.get 19 _ rfl)), h20⟩⟩
                      refine St0.of_eq ?_ (flat3s c (c18) [] fr).symm
                      show St0 _ (fl ([c18] ++ []) fr) _
                      exact S
                    · intro a w gd11 c fr hsz hdf hK ld11 hN hI S
                      have e5 := hN 5 (by decide)
                      have e13x : val a 13 = v3 := nth e5 0
                      obtain ⟨v17, e11, lh2⟩ := hN 11 (by decide)
                      have e19x : val a 19 = v17 := nth e11 0
                      have F : Fr 36 a [(13, v3), (19, v17)] := Fr.of hsz hdf ⟨e13x, e19x, trivial⟩
                      replace S : St gd11 [c 22, c 11] fr w := S.of_eq (flat2 _ _ _ _)
                      have q22 : c 22 = c2 := hI 3 _ rfl
                      rw [q22] at S
                      refine wl_appendN (wn rfl) rfl tu38 tu38 te44 (by decide) (by decide) F S rfl rfl (h4.mono ld11) lh2 hy13 rfl rfl ?_; clear F S
                      rintro v18 c19 a w h21 S F; replace S : St gd11 [c19] fr w := S
                      refine wpList_nil ⟨rfl, F.sz, F.df, _, c19, (Le.refl _), ?_, ⟨v18, (lst1 (F.get 20 _ rfl)), h21⟩⟩
                      refine St0.of_eq ?_ (flat3s c (c19) [] fr).symm
                      show St0 _ (fl ([c19] ++ []) fr) _
                      exact S
                    · intro a w gd11 c fr hsz hdf hK ld11 hN hI S
                      have e0 := hN 0 (by decide)
                      have e8x : val a 8 = .pointer (some ⟨b4, 0, Option.none⟩) := nth e0 0
                      have F : Fr 36 a [(8, .pointer (some ⟨b4, 0, Option.none⟩))] := Fr.of hsz hdf ⟨e8x, trivial⟩
                      replace S : St gd11 [] fr w := S.of_eq (flat2 _ _ _ _)
                      refine wl_ev (wn rfl) (ev_nil rfl) F S rfl rfl ?_; clear F; intro a F
                      refine wpList_nil ⟨rfl, F.sz, F.df, _, [], (Le.refl _), ?_, (lst1 (F.get 21 _ rfl))⟩
                      refine St0.of_eq ?_ (flat3 c [] [] fr).symm
                      show St0 _ (fl ([] ++ []) fr) _
                      exact S
                    · intro a w gd11 c fr hsz hdf hK ld11 hN hI S
                      have e13 := hN 13 (by decide)
                      have e21x : val a 21 = .pointer (some ⟨b4, 0, Option.none⟩) := nth e13 0
                      have F : Fr 36 a [(21, .pointer (some ⟨b4, 0, Option.none⟩))] := Fr.of hsz hdf ⟨e21x, trivial⟩
                      replace S : St gd11 [] fr w := S.of_eq (flat2 _ _ _ _)
                      refine wl_ev (wn rfl) (ev_fieldAddr' tu58 tf58_0 (z := 0) ts38 rfl ⟨_, rfl⟩ rfl) F S rfl rfl ?_; clear F; intro a F
                      refine wpList_nil ⟨rfl, F.sz, F.df, _, [], (Le.refl _), ?_, (lst1 (F.get 22 _ rfl))⟩
                      refine St0.of_eq ?_ (flat3 c [] [] fr).symm
                      show St0 _ (fl ([] ++ []) fr) _
                      exact S
                    · intro a w gd11 c fr hsz hdf hK ld11 hN hI S
                      obtain ⟨v18, e12, lh2⟩ := hN 12 (by decide)
                      have e20x : val a 20 = v18 := nth e12 0
                      have e14 := hN 14 (by decide)
                      have e22x : val a 22 = .pointer (some ⟨b4, 0, Option.none⟩) := nth e14 0
                      have F : Fr 36 a [(20, v18), (22, .pointer (some ⟨b4, 0, Option.none⟩))] := Fr.of hsz hdf ⟨e20x, e22x, trivial⟩
                      replace S : St gd11 [c 19] fr w := S.of_eq (flat2 _ _ _ _)
                      have q19 : c 19 = [(b4, .cells #[v3, .int .i64 x8, .bool x9] 58 (0, 0))] := hI 0 _ rfl
                      rw [q19] at S
                      refine wl_storeC (wn rfl) rfl F S rfl rfl (vs := [v18]) (OwnN.cl lh2) ts38 (one_cons (OwnN.one lh2) one_nil) (k := 0) rfl (Nat.le_of_ble_eq_true rfl) (c' := #[v18, .int .i64 x8, .bool x9]) rfl rfl ?_; clear S; intro w S
                      replace S : St gd11 [[(b4, .cells #[v18, .int .i64 x8, .bool x9] 58 (0, 0))]] fr w := S
                      refine wpList_nil ⟨rfl, F.sz, F.df, _, [(b4, .cells #[v18, .int .i64 x8, .bool x9] 58 (0, 0))], (Le.refl _), ?_, ⟨v18, (lst1 (F.get 20 _ rfl)), rfl⟩⟩
                      refine St0.of_eq ?_ (flat3s c ([(b4, .cells #[v18, .int .i64 x8, .bool x9] 58 (0, 0))]) [] fr).symm
                      show St0 _ (fl ([[(b4, .cells #[v18, .int .i64 x8, .bool x9] 58 (0, 0))]] ++ []) fr) _
                      exact S
                    · intro a w gd11 c fr hsz hdf hK ld11 hN hI S
                      have e1 := hN 1 (by decide)
                      have e9x : val a 9 = .pointer (some ⟨b4, 0, Option.none⟩) := nth e1 0
                      have F : Fr 36 a [(9, .pointer (some ⟨b4, 0, Option.none⟩))] := Fr.of hsz hdf ⟨e9x, trivial⟩
                      replace S : St gd11 [] fr w := S.of_eq (flat2 _ _ _ _)
                      refine wl_ev (wn rfl) (ev_nil rfl) F S rfl rfl ?_; clear F; intro a F
                      refine wpList_nil ⟨rfl, F.sz, F.df, _, [], (Le.refl _), ?_, (lst1 (F.get 23 _ rfl))⟩
                      refine St0.of_eq ?_ (flat3 c [] [] fr).symm
                      show St0 _ (fl ([] ++ []) fr) _
                      exact S
                    · intro a w gd11 c fr hsz hdf hK ld11 hN hI S
                      have e16 := hN 16 (by decide)
                      have e23x : val a 23 = .pointer (some ⟨b4, 0, Option.none⟩) := nth e16 0
                      have F : Fr 36 a [(23, .pointer (some ⟨b4, 0, Option.none⟩))] := Fr.of hsz hdf ⟨e23x, trivial⟩
                      replace S : St gd11 [] fr w := S.of_eq (flat2 _ _ _ _)
                      refine wl_ev (wn rfl) (ev_fieldAddr' tu58 tf58_2 (z := 0) ts4 rfl ⟨_, rfl⟩ rfl) F S rfl rfl ?_; clear F; intro a F
                      refine wpList_nil ⟨rfl, F.sz, F.df, _, [], (Le.refl _), ?_, (lst1 (F.get 24 _ rfl))⟩
                      refine St0.of_eq ?_ (flat3 c [] [] fr).symm
                      show St0 _ (fl ([] ++ []) fr) _
                      exact S
                    · intro a w gd11 c fr hsz hdf hK ld11 hN hI S
                      obtain ⟨v18, e12, lh2⟩ := hN 12 (by decide)
                      have e20x : val a 20 = v18 := nth e12 0
                      obtain ⟨dup2, e15, q15⟩ := hN 15 (by decide)
                      obtain rfl : v18 = dup2 := by have := e20x.symm.trans (nth e15 0); simpa using this
                      have e17 := hN 17 (by decide)
                      have e24x : val a 24 = .pointer (some ⟨b4, 2, Option.none⟩) := nth e17 0
                      have F : Fr 36 a [(20, v18), (24, .pointer (some ⟨b4, 2, Option.none⟩))] := Fr.of hsz hdf ⟨e20x, e24x, trivial⟩
                      replace S : St gd11 [c 15] fr w := S.of_eq (flat2 _ _ _ _)
                      rw [q15] at S
                      refine wl_storeC (wn rfl) rfl F S rfl rfl (vs := [.bool true]) rfl ts4 (one_cons rfl one_nil) (k := 0) rfl (Nat.le_of_ble_eq_true rfl) (c' := #[v18, .int .i64 x8, .bool true]) rfl rfl ?_; clear S; intro w S
                      replace S : St gd11 [[(b4, .cells #[v18, .int .i64 x8, .bool true] 58 (0, 0))]] fr w := S
                      refine wpList_nil ⟨rfl, F.sz, F.df, _, [(b4, .cells #[v18, .int .i64 x8, .bool true] 58 (0, 0))], (Le.refl _), ?_, ⟨v18, (lst1 (F.get 20 _ rfl)), rfl⟩⟩
                      refine St0.of_eq ?_ (flat3s c ([(b4, .cells #[v18, .int .i64 x8, .bool true] 58 (0, 0))]) [] fr).symm
                      show St0 _ (fl ([[(b4, .cells #[v18, .int .i64 x8, .bool true] 58 (0, 0))]] ++ []) fr) _
                      exact S
                    clear F S; intro a w gd11 c hsz hdf hK ld11 hI S hN
                    obtain ⟨v18, e12, lh2⟩ := hN 12 (by decide)
                    have e20x : val a 20 = v18 := nth e12 0
                    obtain ⟨dup2, e18, q18⟩ := hN 18 (by decide)
                    obtain rfl : v18 = dup2 := by have := e20x.symm.trans (nth e18 0); simpa using this
                    have F : Fr 36 a [(0, .pointer (some ⟨b4, 0, Option.none⟩))] := Fr.of hsz hdf ⟨hK 0 (by decide) _ rfl, trivial⟩
                    replace S : St gd11 [c 0, c 1, c 2, c 3, c 4, c 5, c 6, c 7, c 8, c 9, c 10, c 12, c 13, c 14, c 16, c 17, c 18, c 20, c 21] fr w := S.of_eq (flat_fl _ _ _)
                    generalize c 12 = c19 at *
                    rw [q18] at S
                    have q20 : c 20 = [(b2, .cells #[.int .i64 0, .int .i64 0] 25 (0, 0))] := hI 1 _ rfl
                    rw [q20] at S
                    have q21 : c 21 = [(b1, .cells #[.slice Option.none 0 0] 40 (0, 0))] := hI 2 _ rfl
                    rw [q21] at S
                    replace S : St gd11 [c19, [(b4, .cells #[v18, .int .i64 x8, .bool true] 58 (0, 0))], [(b2, .cells #[.int .i64 0, .int .i64 0] 25 (0, 0))], [(b1, .cells #[.slice Option.none 0 0] 40 (0, 0))]] fr w := St.tail [c19, [(b4, .cells #[v18, .int .i64 x8, .bool true] 58 (0, 0))], [(b2, .cells #[.int .i64 0, .int .i64 0] 25 (0, 0))], [(b1, .cells #[.slice Option.none 0 0] 40 (0, 0))]] _ ((((S.frontC 18 rfl).frontC 18 rfl).frontC 18 rfl).frontC 14 rfl)
                    clear hK hI hN hsz hdf e12 e18 e20x
                    refine then_n ?_
                    replace S : St gd11 [[(b4, .cells #[v18, .int .i64 x8, .bool true] 58 (0, 0))], [(b2, .cells #[.int .i64 0, .int .i64 0] 25 (0, 0))], [(b1, .cells #[.slice Option.none 0 0] 40 (0, 0))], c19] fr w := St.tail [[(b4, .cells #[v18, .int .i64 x8, .bool true] 58 (0, 0))], [(b2, .cells #[.int .i64 0, .int .i64 0] 25 (0, 0))], [(b1, .cells #[.slice Option.none 0 0] 40 (0, 0))], c19] _ ((((S.frontC 0 rfl).frontC 4 rfl).frontC 4 rfl).frontC 4 rfl)
                    exact ⟨y13, true, v18, c19, gd11, F.sub ⟨rfl, trivial⟩, ld11, S, lh2, hm⟩
                  · refine wp_condF F rfl hc7 ?_
                    refine wp_skip ?_
                    refine then_n ?_
                    exact ⟨x7, x9, v3, c2, g5, F.sub ⟨rfl, trivial⟩, (Le.refl _), S, h4, hm⟩
                · clear F S hm; rintro a w ⟨x20, x21, v12, c12, g9, F, l9, S, h14, hm⟩
                  refine wp_seq ?_
                  refine wp_quiet mo (by kernel_rfl) S ?_
                  refine wq_ev (wn rfl) (ev_move rfl) F rfl rfl ?_; clear F a; intro a F
                  refine wq_ev (wn rfl) (ev_nil rfl) F rfl rfl ?_; clear F a; intro a F
                  refine wq_ev (wn rfl) (ev_fieldAddr' tu58 tf58_0 (z := 0) ts38 rfl ⟨_, rfl⟩ rfl) F rfl rfl ?_; clear F a; intro a F
                  refine wq_ev (wn rfl) (ev_load1 tu38 rfl rfl (box_ptr (cells := [v12]) 0 rfl 0 rfl (Nat.le_of_ble_eq_true rfl))) F rfl rfl ?_; clear F a; intro a F
                  refine wq_ev (wn rfl) (ev_move rfl) F rfl rfl ?_; clear F a; intro a F
                  refine wq_ev (wn rfl) (ev_nil rfl) F rfl rfl ?_; clear F a; intro a F
                  refine wq_ev (wn rfl) (ev_fieldAddr' tu58 tf58_0 (z := 0) ts38 rfl ⟨_, rfl⟩ rfl) F rfl rfl ?_; clear F a; intro a F
                  refine wq_ev (wn rfl) (ev_load1 tu38 rfl rfl (box_ptr (cells := [v12]) 0 rfl 0 rfl (Nat.le_of_ble_eq_true rfl))) F rfl rfl ?_; clear F a; intro a F
                  refine wq_ev (wn rfl) (ev_lenOwN h14 rfl tu38) F rfl rfl ?_; clear F a; intro a F
                  obtain ⟨z8, hz8, hm⟩ := bind_some hm
                  refine wq_ev (wn rfl) (ev_int rfl rfl (bo_sub hz8)) F rfl rfl ?_; clear F a; intro a F
                  obtain ⟨y10, hy10, hm⟩ := bind_some hm
                  refine wq_ev (wn rfl) (ev_idxN h14 hy10 tu38 ts44 rfl rfl) F rfl rfl ?_; clear F a; intro a F
                  refine wq_ev (wn rfl) (ev_assign rfl) F rfl rfl ?_; clear F a; intro a F
                  refine wq_nil ?_; clear S; intro w S
                  replace F := F.sub (e' := [(2, elemP v12 z8 3)]) ⟨rfl, trivial⟩
                  refine then_n ?_
                  refine wp_ret ?_
                  refine post_r (fn := Try.f41) (rs := [.tmp 2]) [elemP v12 z8 3] F rfl (ar_cons (resT rfl) ar_nil) ?_
                  refine ⟨_, rfl, ?_⟩; clear F a; intro a F
                  replace F : Fr 17 a [(6, elemP v12 z8 3), (1, .string y9)] := F
                  refine wl_ev (wn rfl) (ev_assign rfl) F S rfl rfl ?_; clear F a; intro a F
                  refine wpList_nil ?_
                  replace F := F.sub (e' := [(4, elemP v12 z8 3), (1, .string y9)]) ⟨rfl, rfl, trivial⟩
                  refine then_n ?_
                  refine wp_region_lit ?_
                  refine wl_ev (wn rfl) (ev_move rfl) F S rfl rfl ?_; clear F a; intro a F
                  refine wl_ev (wn rfl) (ev_move rfl) F S rfl rfl ?_; clear F a; intro a F
                  refine wl_ev (wn rfl) (ev_nilP (elemN_ptr h14 hy10) rfl) F S rfl rfl ?_; clear F a; intro a F
                  refine wl_ev (wn rfl) (ev_fieldAddr' tu44 tf44_2 (z := 0) ts31 rfl (elemN_ptr h14 hy10) rfl) F S rfl rfl ?_; clear F a; intro a F
                  replace S : St g9 [c12, [(b4, .cells #[v12, .int .i64 x8, .bool x21] 58 (0, 0))], [(b2, .cells #[.int .i64 0, .int .i64 0] 25 (0, 0))], [(b1, .cells #[.slice Option.none 0 0] 40 (0, 0))]] fr w := ((((S.frontC 2 rfl).frontC 2 rfl).frontC 2 rfl).frontC 6 rfl)
                  obtain ⟨cs6, ca3, cr2, ci2, hH3, hR2, hP2⟩ := OwnN.hole h14 hy10
                  replace S : St g9 [ca3, cr2, ci2, [(b4, .cells #[v12, .int .i64 x8, .bool x21] 58 (0, 0))], [(b2, .cells #[.int .i64 0, .int .i64 0] 25 (0, 0))], [(b1, .cells #[.slice Option.none 0 0] 40 (0, 0))]] fr w := St.split3 hP2 S
                  obtain ⟨v13, c13, v14, c14, rfl, rfl, h15, h16⟩ := orep_Hunk hR2
                  replace S : St g9 [ca3, cr2, c13, c14, [(b4, .cells #[v12, .int .i64 x8, .bool x21] 58 (0, 0))], [(b2, .cells #[.int .i64 0, .int .i64 0] 25 (0, 0))], [(b1, .cells #[.slice Option.none 0 0] 40 (0, 0))]] fr w := S.of_eq (by simp only [fl, List.append_assoc, List.append_nil, List.nil_append])
                  refine wl_ev (wn rfl) (ev_load1 tu31 rfl rfl (fun w s => fieldP (cells := [v14]) 2 ((HoleN.ptr hH3 _ _ 0 rfl) w s) rfl (Nat.le_of_ble_eq_true rfl))) F S rfl rfl ?_; clear F a; intro a F
                  refine wl_ev (wn rfl) (ev_move rfl) F S rfl rfl ?_; clear F a; intro a F
                  refine wl_lit (l := ([y9] : List ByteArray)) (vs := [.string y9]) (parts := [(0, .tmp 12)]) (wn rfl) rfl rfl rfl tu31 te9 (sz_cons rfl sz_nil) rfl (Cat.cons (show Rep.rep _ y9 _ from rfl) (Cat.nil _)) (coa_cons rfl coa_nil) rfl F S rfl rfl ?_; clear F a S
                  rintro v15 c15 a w h17 F S
                  obtain ⟨cs7, hk2, hr6⟩ := OwnS.reads h17
                  obtain ⟨y11, hy11, hm⟩ := bind_some hm
                  refine wl_append (wn rfl) rfl tu31 tu31 te9 (by decide) (by decide) F S rfl rfl (k := 4) rfl h16 hk2 rfl (hr6 _ _ _ 0 rfl S) hy11 rfl rfl ?_; clear F a S
                  rintro v16 c16 a w h18 S F; replace S : St g9 [c15, ca3, cr2, c13, c16, [(b4, .cells #[v12, .int .i64 x8, .bool x21] 58 (0, 0))], [(b2, .cells #[.int .i64 0, .int .i64 0] 25 (0, 0))], [(b1, .cells #[.slice Option.none 0 0] 40 (0, 0))]] fr w := S
                  refine wl_ev (wn rfl) (ev_nilP (elemH_ptr hH3) rfl) F S rfl rfl ?_; clear F a; intro a F
                  refine wl_ev (wn rfl) (ev_fieldAddr' tu44 tf44_2 (z := 0) ts31 rfl (elemH_ptr hH3) rfl) F S rfl rfl ?_; clear F a; intro a F
                  refine wl_storeH 2 (wn rfl) rfl F S hH3 rfl rfl rfl (us := [v16]) (OwnS.cl h18) ts31 (one_cons (OwnS.one h18) one_nil) (k := 1) rfl (Nat.le_of_ble_eq_true rfl) (cs' := [.int .i64 y10.At, v13, v16]) rfl rfl ?_; clear S
                  rintro ca4 w hH4 S; replace S : St g9 [c15, ca4, cr2, c13, c16, [(b4, .cells #[v12, .int .i64 x8, .bool x21] 58 (0, 0))], [(b2, .cells #[.int .i64 0, .int .i64 0] 25 (0, 0))], [(b1, .cells #[.slice Option.none 0 0] 40 (0, 0))]] fr w := S
                  refine wpList_nil ?_
                  replace F := F.sub (e' := []) trivial
                  replace S : St g9 [ca4, cr2, c13, c16, c15, [(b4, .cells #[v12, .int .i64 x8, .bool x21] 58 (0, 0))], [(b2, .cells #[.int .i64 0, .int .i64 0] 25 (0, 0))], [(b1, .cells #[.slice Option.none 0 0] 40 (0, 0))]] fr w := ((((((((S.frontC 7 rfl).frontC 7 rfl).frontC 7 rfl).frontC 3 rfl).frontC 8 rfl).frontC 8 rfl).frontC 8 rfl).frontC 8 rfl)
                  obtain ⟨y12, hy12, hm⟩ := bind_some hm
                  have h19 := HoleN.shut hH4 (orep_Hunk_mk (x := ({ At := y10.At, Old := y10.Old, New := y11 } : Hunk)) h15 h18); replace h19 : OwnN g9 y12 v12 (ca4 ++ (cr2 ++ (c13 ++ (c16 ++ [])))) := Option.some.inj hy12 ▸ h19
                  replace S : St g9 [(ca4 ++ (cr2 ++ (c13 ++ (c16 ++ [])))), c15, [(b4, .cells #[v12, .int .i64 x8, .bool x21] 58 (0, 0))], [(b2, .cells #[.int .i64 0, .int .i64 0] 25 (0, 0))], [(b1, .cells #[.slice Option.none 0 0] 40 (0, 0))]] fr w := S.of_eq (by simp only [fl, List.append_assoc, List.append_nil, List.nil_append])
                  generalize (ca4 ++ (cr2 ++ (c13 ++ (c16 ++ [])))) = c17 at S h19
                  refine post_n (fn := Try.f31) (rs := []) [] F rfl ar_nil ?_
                  refine ⟨_, rfl, ?_⟩; clear F a; intro a F
                  replace F : Fr 55 a [(33, .tuple #[]), (24, .int .i64 x4), (23, .int .i64 (y2.length : Int)), (22, v2), (9, .int .i64 x5), (8, .int .i64 x6), (7, .pointer (some ⟨b4, 0, Option.none⟩)), (5, .pointer (some ⟨b2, 0, Option.none⟩)), (4, .pointer (some ⟨b1, 0, Option.none⟩)), (0, va_1), (1, vb_1)] := F
                  refine wpList_nil ?_
                  replace F := F.sub (e' := [(24, .int .i64 x4), (23, .int .i64 (y2.length : Int)), (22, v2), (9, .int .i64 x5), (8, .int .i64 x6), (7, .pointer (some ⟨b4, 0, Option.none⟩)), (5, .pointer (some ⟨b2, 0, Option.none⟩)), (4, .pointer (some ⟨b1, 0, Option.none⟩)), (0, va_1), (1, vb_1)]) ⟨rfl, rfl, rfl, rfl, rfl, rfl, rfl, rfl, rfl, rfl, trivial⟩
                  refine then_n ?_
                  refine wp_region_lit ?_
                  refine wl_ev (wn rfl) (ev_move rfl) F S rfl rfl ?_; clear F a; intro a F
                  obtain ⟨z9, hz9, hm⟩ := bind_some hm
                  refine wl_ev (wn rfl) (ev_int rfl rfl (bo_add hz9)) F S rfl rfl ?_; clear F a; intro a F
                  refine wl_ev (wn rfl) (ev_assign rfl) F S rfl rfl ?_; clear F a; intro a F
                  refine wpList_nil ?_
                  replace F := F.sub (e' := [(9, .int .i64 z9), (24, .int .i64 x4), (23, .int .i64 (y2.length : Int)), (22, v2), (8, .int .i64 x6), (7, .pointer (some ⟨b4, 0, Option.none⟩)), (5, .pointer (some ⟨b2, 0, Option.none⟩)), (4, .pointer (some ⟨b1, 0, Option.none⟩)), (0, va_1), (1, vb_1)]) ⟨rfl, rfl, rfl, rfl, rfl, rfl, rfl, rfl, rfl, rfl, trivial⟩
                  refine inb_n ?_
                  refine inb_n ?_
                  refine then_n ?_
                  replace S : St g9 [[(b4, .cells #[v12, .int .i64 x8, .bool x21] 58 (0, 0))], [(b2, .cells #[.int .i64 0, .int .i64 0] 25 (0, 0))], [(b1, .cells #[.slice Option.none 0 0] 40 (0, 0))], c17] fr w := St.tail [[(b4, .cells #[v12, .int .i64 x8, .bool x21] 58 (0, 0))], [(b2, .cells #[.int .i64 0, .int .i64 0] 25 (0, 0))], [(b1, .cells #[.slice Option.none 0 0] 40 (0, 0))], c17] _ ((((S.frontC 0 rfl).frontC 5 rfl).frontC 5 rfl).frontC 5 rfl)
                  exact ⟨z9, x6, y12, x8, x21, v12, c17, g9, F.sub ⟨rfl, rfl, rfl, rfl, rfl, rfl, rfl, rfl, rfl, rfl, trivial⟩, l9, S, h19, hm⟩
          · clear F S hm; rintro a w ⟨x11, x12, x13, x14, x15, v4, c3, g6, F, l6, S, h5, hm⟩
            refine wp_region_lit ?_
            obtain ⟨z1, hz1, hm⟩ := bind_some hm
            refine wl_ev (wn rfl) (ev_int rfl rfl (bo_add hz1)) F S rfl rfl ?_; clear F a; intro a F
            refine wl_ev (wn rfl) (ev_move rfl) F S rfl rfl ?_; clear F a; intro a F
            refine wpList_nil ?_
            replace F := F.sub (e' := [(24, .int .i64 z1), (9, .int .i64 x11), (8, .int .i64 x12), (23, .int .i64 (y2.length : Int)), (22, v2), (7, .pointer (some ⟨b4, 0, Option.none⟩)), (5, .pointer (some ⟨b2, 0, Option.none⟩)), (4, .pointer (some ⟨b1, 0, Option.none⟩)), (0, va_1), (1, vb_1)]) ⟨rfl, rfl, rfl, rfl, rfl, rfl, rfl, rfl, rfl, rfl, trivial⟩
            refine then_n ?_
            obtain rfl := Option.some.inj hm
            refine ⟨_, rfl, ?_⟩
            dsimp only
            exact ⟨v4, c3, g6, F.sub ⟨rfl, rfl, rfl, rfl, rfl, rfl, rfl, rfl, rfl, rfl, trivial⟩, (l5.trans l6), S, h5⟩
        · refine wp_condF F rfl hc2 ?_
          refine wp_exit ?_
          refine then_e ?_
          refine then_e ?_
          refine inb_x ?_
          refine then_n ?_
          obtain rfl := Option.some.inj hm
          obtain rfl := hfin1 _ rfl
          clear hm
          have hm : (diff_Script.j1 x7 x8 x9 : Option (Patch × Fault)) = some _ := hmo1
          exact ⟨x7, x8, x9, v3, c2, g5, F.sub ⟨rfl, rfl, rfl, trivial⟩, (l4.trans l5), S, h4, hm⟩
    · clear F S hm; rintro a w ⟨x1, x2, x3, v1, c1, g2, F, l2, S, h1, hm⟩
      refine wp_seq ?_
      refine wp_region_lit ?_
      replace F := F.sub (e' := [(7, .pointer (some ⟨b4, 0, Option.none⟩)), (5, .pointer (some ⟨b2, 0, Option.none⟩)), (4, .pointer (some ⟨b1, 0, Option.none⟩))]) ⟨rfl, rfl, rfl, trivial⟩
      refine wl_callK (wn rfl) rfl (xs := [.tmp 7]) (vs := [.pointer (some ⟨b4, 0, Option.none⟩)]) (cap := []) (e' := [(5, .pointer (some ⟨b2, 0, Option.none⟩)), (4, .pointer (some ⟨b1, 0, Option.none⟩))]) ⟨rfl, rfl, trivial⟩ F rfl rfl tc32 rfl rfl (calls_enter (fn := Try.f32) Try.func32 rfl Try.ntmps32 (Nat.le_of_ble_eq_true rfl) ?_); clear F a; intro a F
      replace F : Fr 8 a [(0, .pointer (some ⟨b4, 0, Option.none⟩))] := F
      refine wp_seq ?_
      refine wp_region_lit ?_
      refine wl_alloc (wn rfl) rfl tz40 (cs := [.slice Option.none 0 0]) rfl F S rfl rfl ?_; clear F a S; rintro b5 a w F S
      refine wpList_nil ?_
      refine then_n ?_
      refine wp_seq ?_
      refine wp_region_lit ?_
      refine wl_ev (wn rfl) (ev_move rfl) F S rfl rfl ?_; clear F a; intro a F
      refine wl_ev (wn rfl) (ev_nil rfl) F S rfl rfl ?_; clear F a; intro a F
      refine wl_ev (wn rfl) (ev_fieldAddr' tu58 tf58_0 (z := 0) ts38 rfl ⟨_, rfl⟩ rfl) F S rfl rfl ?_; clear F a; intro a F
      refine wl_ev (wn rfl) (ev_load1 tu38 rfl rfl (box_ptr (cells := [v1]) 1 rfl 0 rfl (Nat.le_of_ble_eq_true rfl))) F S rfl rfl ?_; clear F a; intro a F
      refine wl_ev (wn rfl) (ev_build (parts := [(0, .tmp 6)]) (vs := [(0, v1)]) rfl (fun w => tb40_0 v1 (OwnN.isSl h1) w)) F S rfl rfl ?_; clear F a; intro a F
      refine wl_storeC (wn rfl) rfl F S rfl rfl (vs := [v1]) rfl ts40 (one_cons (OwnN.one h1) one_nil) (k := 0) rfl (Nat.le_of_ble_eq_true rfl) (c' := #[v1]) rfl rfl ?_; clear S; intro w S
      replace S : St g2 [[(b5, .cells #[v1] 40 (0, 0))], [(b4, .cells #[v1, .int .i64 x2, .bool x3] 58 (0, 0))], [(b2, .cells #[.int .i64 0, .int .i64 0] 25 (0, 0))], [(b1, .cells #[.slice Option.none 0 0] 40 (0, 0))], c1] fr w := S
      refine wpList_nil ?_
      replace F := F.sub (e' := [(2, .pointer (some ⟨b5, 0, Option.none⟩))]) ⟨rfl, trivial⟩
      refine then_n ?_
      refine wp_ret ?_
      refine post_r (fn := Try.f32) (rs := [.cell 2 40]) [.agg #[v1]] F rfl (ar_cons (resA rfl tu40 rfl ts40 (box_ptr (cells := [v1]) 0 rfl 0 rfl (Nat.le_of_ble_eq_true rfl) w S)) ar_nil) ?_
      refine ⟨_, rfl, ?_⟩; clear F a; intro a F
      replace F : Fr 55 a [(53, .agg #[v1]), (5, .pointer (some ⟨b2, 0, Option.none⟩)), (4, .pointer (some ⟨b1, 0, Option.none⟩))] := F
      refine wl_ev (wn rfl) (ev_build (parts := []) (vs := []) rfl (fun w => tb25_  w)) F S rfl rfl ?_; clear F a; intro a F
      refine wl_storeC (wn rfl) rfl F S rfl rfl (vs := [v1]) rfl ts40 (one_cons (OwnN.one h1) one_nil) (k := 3) rfl (Nat.le_of_ble_eq_true rfl) (c' := #[v1]) rfl rfl ?_; clear S; intro w S
      replace S : St g2 [[(b5, .cells #[v1] 40 (0, 0))], [(b4, .cells #[v1, .int .i64 x2, .bool x3] 58 (0, 0))], [(b2, .cells #[.int .i64 0, .int .i64 0] 25 (0, 0))], [(b1, .cells #[v1] 40 (0, 0))], c1] fr w := S
      refine wl_storeC (wn rfl) rfl F S rfl rfl (vs := [.int .i64 0, .int .i64 0]) rfl ts25 (one_cons rfl (one_cons rfl one_nil)) (k := 2) rfl (Nat.le_of_ble_eq_true rfl) (c' := #[.int .i64 0, .int .i64 0]) rfl rfl ?_; clear S; intro w S
      replace S : St g2 [[(b5, .cells #[v1] 40 (0, 0))], [(b4, .cells #[v1, .int .i64 x2, .bool x3] 58 (0, 0))], [(b2, .cells #[.int .i64 0, .int .i64 0] 25 (0, 0))], [(b1, .cells #[v1] 40 (0, 0))], c1] fr w := S
      refine wpList_nil ?_
      replace F := F.sub (e' := [(5, .pointer (some ⟨b2, 0, Option.none⟩)), (4, .pointer (some ⟨b1, 0, Option.none⟩))]) ⟨rfl, rfl, trivial⟩
      refine then_n ?_
      refine wp_ret ?_
      obtain rfl := Option.some.inj hm
      obtain ⟨g3, l3, S, h2⟩ : ∃ gz, Le g2 gz ∧ St gz [[(b5, .cells #[v1] 40 (0, 0))], [(b4, .cells #[v1, .int .i64 x2, .bool x3] 58 (0, 0))], [(b2, .cells #[.int .i64 0, .int .i64 0] 25 (0, 0))], [(b1, .cells #[v1] 40 (0, 0))]] fr w ∧ RepSl gz x1 v1 := ⟨_, Le.add _ _, S.freeze 4 rfl, OwnN.freeze (S.front 4 rfl) h1⟩
      refine post_r (fn := Try.f20) (rs := [.cell 4 40, .cell 5 25]) [.agg #[v1], .agg #[.int .i64 0, .int .i64 0]] F rfl (ar_cons (resA rfl tu40 rfl ts40 (box_ptr (cells := [v1]) 3 rfl 0 rfl (Nat.le_of_ble_eq_true rfl) w S)) (ar_cons (resA rfl tu25 rfl ts25 (box_ptr (cells := [.int .i64 0, .int .i64 0]) 2 rfl 0 rfl (Nat.le_of_ble_eq_true rfl) w S)) ar_nil)) ?_
      replace S : St g3 [] fr w := St.tail [] _ S
      exact ⟨_, rfl, g3, v1, ((l1.trans l2).trans l3), S, h2, rfl⟩

theorem changeforgelaw2_BlameNewest_ok {g : Gh} {fr : Hl} {w : World} {r : Bool} (versions : (List (List ByteArray))) (vversions1 : Value) (hversions1 : RepSl g versions vversions1) (S : St g [] fr w) (hm : changeforgelaw2_BlameNewest versions = some r) :
    Calls Try.prog 7 [vversions1].toArray w (fun en w' => ∃ v, en = .returned v ∧ ∃ (g' : Gh), Le g g' ∧ St g' [] fr w' ∧ .bool r = v) := by
  unfold changeforgelaw2_BlameNewest at hm
  refine calls_enter (fn := Try.f7) Try.func7 rfl Try.ntmps7 (Nat.le_of_ble_eq_true rfl) ?_
  intro a F
  replace F : Fr 81 a [(0, vversions1)] := F
  refine wp_seq ?_
  refine wp_region_lit ?_
  refine wl_ev (wn rfl) (ev_assign rfl) F S rfl rfl ?_; clear F a; intro a F
  refine wpList_nil ?_
  replace F := F.sub (e' := [(0, vversions1)]) ⟨rfl, trivial⟩
  refine then_n ?_
  refine wp_seq ?_
  refine wp_region_lit ?_
  refine wl_ev (wn rfl) (ev_move rfl) F S rfl rfl ?_; clear F a; intro a F
  obtain ⟨y1, hy1, hm⟩ := bind_some hm
  refine wl_call (wn rfl) rfl (xs := [.tmp 12]) (vs := [vversions1]) (cap := []) F rfl rfl tc10 (blame_Annotate_ok (g := g) (fr := fr) (w := w) versions vversions1 hversions1 S hy1) rfl rfl ?_; clear F a S
  rintro _ a w ⟨g1, v1, l1, S, h1, rfl⟩ F; replace S : St g1 [] fr w := S
  refine wl_ev (wn rfl) (ev_move rfl) F S rfl rfl ?_; clear F a; intro a F
  refine wl_ev (wn rfl) (ev_extract (vs := [v1, .agg #[.int .i64 y1.2.Code, .int .i64 y1.2.Index]]) rfl rfl) F S rfl rfl ?_; clear F a; intro a F
  refine wl_ev (wn rfl) (ev_extract (vs := [v1, .agg #[.int .i64 y1.2.Code, .int .i64 y1.2.Index]]) rfl rfl) F S rfl rfl ?_; clear F a; intro a F
  refine wl_alloc (wn rfl) rfl tz25 (cs := [.int .i64 0, .int .i64 0]) rfl F S rfl rfl ?_; clear F a S; rintro b1 a w F S
  refine wl_ev (wn rfl) (ev_assign rfl) F S rfl rfl ?_; clear F a; intro a F
  refine wl_storeC (wn rfl) rfl F S rfl rfl (vs := [.int .i64 y1.2.Code, .int .i64 y1.2.Index]) rfl ts25 (one_cons rfl (one_cons rfl one_nil)) (k := 0) rfl (Nat.le_of_ble_eq_true rfl) (c' := #[.int .i64 y1.2.Code, .int .i64 y1.2.Index]) rfl rfl ?_; clear S; intro w S
  replace S : St g1 [[(b1, .cells #[.int .i64 y1.2.Code, .int .i64 y1.2.Index] 25 (0, 0))]] fr w := S
  refine wpList_nil ?_
  replace F := F.sub (e' := [(3, v1), (4, .pointer (some ⟨b1, 0, Option.none⟩)), (0, vversions1)]) ⟨rfl, rfl, rfl, trivial⟩
  refine then_n ?_
  refine wp_seq ?_
  refine wp_region_lit ?_
  refine wl_ev (wn rfl) (ev_move rfl) F S rfl rfl ?_; clear F a; intro a F
  refine wl_ev (wn rfl) (ev_lenSh hversions1 rfl tu22) F S rfl rfl ?_; clear F a; intro a F
  refine wl_ev (wn rfl) (ev_assign rfl) F S rfl rfl ?_; clear F a; intro a F
  refine wpList_nil ?_
  replace F := F.sub (e' := [(5, .int .i64 (versions.length : Int)), (3, v1), (4, .pointer (some ⟨b1, 0, Option.none⟩)), (0, vversions1)]) ⟨rfl, rfl, rfl, rfl, trivial⟩
  refine then_n ?_
  refine wp_seq ?_
  refine wp_seq ?_
  refine wp_region_lit ?_
  refine wl_ev (wn rfl) (ev_fieldAddr' tu25 tf25_0 (z := 0) ts3 rfl ⟨_, rfl⟩ rfl) F S rfl rfl ?_; clear F a; intro a F
  refine wl_ev (wn rfl) (ev_load1 tu3 rfl rfl (box_ptr (cells := [.int .i64 y1.2.Code]) 0 rfl 0 rfl (Nat.le_of_ble_eq_true rfl))) F S rfl rfl ?_; clear F a; intro a F
  refine wl_ev (wn rfl) (ev_int rfl rfl (bo_neq _ _ _ _)) F S rfl rfl ?_; clear F a; intro a F
  refine wl_ev (wn rfl) (ev_move rfl) F S rfl rfl ?_; clear F a; intro a F
  obtain ⟨x1, hx1, hm⟩ := bind_some hm
  refine wl_cut 3 (fun a w' => w = w' ∧ Fr 81 a [(24, .bool x1), (5, .int .i64 (versions.length : Int)), (3, v1), (0, vversions1)]) ?_ ?_
  · clear hm; obtain ⟨hc1, hm⟩ | ⟨hc1, hm⟩ := ite_or hx1
    · refine wl_skip rfl rfl rfl rfl (ne_ft hc1) F rfl rfl ?_; clear F a; intro a F
      refine wl_skip rfl rfl rfl rfl (ne_ft hc1) F rfl rfl ?_; clear F a; intro a F
      refine wl_ev (wn rfl) (ev_pickT rfl hc1 rfl) F S rfl rfl ?_; clear F a; intro a F
      obtain rfl := Option.some.inj hm
      refine wpList_nil (then_n ?_); exact ⟨rfl, F.sub ⟨rfl, rfl, rfl, rfl, trivial⟩⟩
    · refine wl_ev (wg F rfl rfl rfl rfl hc1) (ev_move rfl) F S rfl rfl ?_; clear F a; intro a F
      refine wl_ev (wg F rfl rfl rfl rfl hc1) (ev_int rfl rfl (bo_lss _ _ _ _)) F S rfl rfl ?_; clear F a; intro a F
      refine wl_ev (wn rfl) (ev_pickF rfl hc1 rfl) F S rfl rfl ?_; clear F a; intro a F
      obtain rfl := Option.some.inj hm
      refine wpList_nil (then_n ?_); exact ⟨rfl, F.sub ⟨rfl, rfl, rfl, rfl, trivial⟩⟩
  clear F; rintro a w' ⟨rfl, F⟩
  refine wpList_nil ?_
  refine then_n ?_
  obtain ⟨hc2, hm⟩ | ⟨hc2, hm⟩ := ite_or hm
  · refine wp_condT F rfl hc2 ?_
    refine wp_seq ?_
    refine wp_region_lit ?_
    obtain ⟨y2, hy2, hm⟩ := bind_some hm
    refine wl_call (wn rfl) rfl (xs := []) (vs := []) (cap := []) F rfl rfl tc12 (changeforgelaw2_added_ok (g := g1) (fr := (fl [[(b1, .cells #[.int .i64 y1.2.Code, .int .i64 y1.2.Index] 25 (0, 0))]] fr)) (w := w)  S hy2) rfl rfl ?_; clear F a S
    rintro _ a w ⟨g2, l2, S, rfl⟩ F; replace S : St g2 [[(b1, .cells #[.int .i64 y1.2.Code, .int .i64 y1.2.Index] 25 (0, 0))]] fr w := S
    refine wl_ev (wn rfl) (ev_assign rfl) F S rfl rfl ?_; clear F a; intro a F
    refine wpList_nil ?_
    replace F := F.sub (e' := [(2, .bool y2)]) ⟨rfl, trivial⟩
    refine then_n ?_
    refine wp_ret ?_
    refine then_r ?_
    obtain rfl := Option.some.inj hm
    refine post_r (fn := Try.f7) (rs := [.tmp 2]) [.bool y2] F rfl (ar_cons (resT rfl) ar_nil) ?_
    replace S : St g2 [] fr w := St.tail [] _ S
    exact ⟨_, rfl, g2, (l1.trans l2), S, rfl⟩
  · refine wp_condF F rfl hc2 ?_
    refine wp_skip ?_
    refine then_n ?_
    refine wp_seq ?_
    obtain ⟨z1, hz1, hm⟩ := bind_some hm
    obtain ⟨y3, hy3, hm⟩ := bind_some hm
    obtain ⟨z2, hz2, hm⟩ := bind_some hm
    obtain ⟨y4, hy4, hm⟩ := bind_some hm
    obtain ⟨y5, hy5, hm⟩ := bind_some hm
    refine wp_drawL ⟨1, [[27], [28], [29], [30], [31], [32], [33], [34], [35], [36], [37], [26, 37], [38, 37], [39], [6], [7], [37, 6], [7]], [[], [], [], [], [], [], [], [], [], [], [], [], [], [], [], [], [14], [15]], [[], [], [], [], [], [], [], [], [], [], [], [], [], [], [], [], [], []], [[0], [5], [], [], [], [0], [5], [], [], [], [], [], [], [], [], [], [], []], [[], [], [1], [0, 2], [3], [], [], [6], [5, 7], [8], [4, 9], [10], [10, 11], [10, 11], [], [], [10, 12, 14], [13, 15]], [5, 3], [0, 1, 2, 3, 4, 5, 6, 7, 8, 9, 10, 11, 12, 13, 16, 17, 18]⟩
      [([27], fun us g c => us = [vversions1]),
       ([28], fun us g c => us = [.int .i64 (versions.length : Int)]),
       ([29], fun us g c => us = [.int .i64 z1]),
       ([30], fun us g c => ∃ v2 : Value, us = [(elemP vversions1 z1 1)] ∧ RepSl g y3 v2 ∧ PtrC g (elemP vversions1 z1 1) [v2]),
       ([31], fun us g c => ∃ v2 : Value, us = [v2] ∧ RepSl g y3 v2),
       ([32], fun us g c => us = [vversions1]),
       ([33], fun us g c => us = [.int .i64 (versions.length : Int)]),
       ([34], fun us g c => us = [.int .i64 z2]),
       ([35], fun us g c => ∃ v3 : Value, us = [(elemP vversions1 z2 1)] ∧ RepSl g y4 v3 ∧ PtrC g (elemP vversions1 z2 1) [v3]),
       ([36], fun us g c => ∃ v3 : Value, us = [v3] ∧ RepSl g y4 v3),
       ([37], fun us g c => ∃ v4 : Value, us = [.tuple #[.agg #[v4], .agg #[.int .i64 y5.2.Code, .int .i64 y5.2.Index]]] ∧ RepSl g y5.1.Hunks v4),
       ([26, 37], fun us g c => ∃ v4 : Value, us = [.tuple #[.agg #[v4], .agg #[.int .i64 y5.2.Code, .int .i64 y5.2.Index]], .tuple #[.agg #[v4], .agg #[.int .i64 y5.2.Code, .int .i64 y5.2.Index]]]),
       ([38, 37], fun us g c => ∃ v4 : Value, us = [.agg #[v4], .tuple #[.agg #[v4], .agg #[.int .i64 y5.2.Code, .int .i64 y5.2.Index]]]),
       ([39], fun us g c => us = [.agg #[.int .i64 y5.2.Code, .int .i64 y5.2.Index]]),
       ([6], fun us g c => ∃ b2 : Nat, us = [.pointer (some ⟨b2, 0, Option.none⟩)] ∧ c = [(b2, .cells #[.slice Option.none 0 0] 40 (0, 0))]),
       ([7], fun us g c => ∃ b3 : Nat, us = [.pointer (some ⟨b3, 0, Option.none⟩)] ∧ c = [(b3, .cells #[.int .i64 0, .int .i64 0] 25 (0, 0))]),
       ([37, 6], fun us g c => ∃ v4 : Value, ∃ b2 : Nat, us = [.tuple #[.agg #[v4], .agg #[.int .i64 y5.2.Code, .int .i64 y5.2.Index]], .pointer (some ⟨b2, 0, Option.none⟩)] ∧ c = [(b2, .cells #[v4] 40 (0, 0))]),
       ([7], fun us g c => ∃ b3 : Nat, us = [.pointer (some ⟨b3, 0, Option.none⟩)] ∧ c = [(b3, .cells #[.int .i64 y5.2.Code, .int .i64 y5.2.Index] 25 (0, 0))])]
      mo (by kernel_rfl) rfl rfl ⟨fun _ _ _ _ _ h => h, fun _ _ _ _ _ h => h, fun _ _ _ _ _ h => h, fun _ _ _ _ l ⟨x0, e0, h0, h1⟩ => ⟨x0, e0, h0.mono l, h1.mono l⟩, fun _ _ _ _ l ⟨x0, e0, h0⟩ => ⟨x0, e0, h0.mono l⟩, fun _ _ _ _ _ h => h, fun _ _ _ _ _ h => h, fun _ _ _ _ _ h => h, fun _ _ _ _ l ⟨x0, e0, h0, h1⟩ => ⟨x0, e0, h0.mono l, h1.mono l⟩, fun _ _ _ _ l ⟨x0, e0, h0⟩ => ⟨x0, e0, h0.mono l⟩, fun _ _ _ _ l ⟨x0, e0, h0⟩ => ⟨x0, e0, h0.mono l⟩, fun _ _ _ _ _ h => h, fun _ _ _ _ _ h => h, fun _ _ _ _ _ h => h, fun _ _ _ _ _ h => h, fun _ _ _ _ _ h => h, fun _ _ _ _ _ h => h, fun _ _ _ _ _ h => h, trivial⟩ F S ⟨?_, ?_, ?_, ?_, ?_, ?_, ?_, ?_, ?_, ?_, ?_, ?_, ?_, ?_, ?_, ?_, ?_, ?_, trivial⟩ ?_
    · intro a w gd1 c fr hsz hdf hK ld1 hN hI S
      have F : Fr 81 a [(0, vversions1)] := Fr.of hsz hdf ⟨hK 0 (by decide) _ rfl, trivial⟩
      replace S : St gd1 [] fr w := S.of_eq (flat2 _ _ _ _)
      refine wl_ev (wn rfl) (ev_move rfl) F S rfl rfl ?_; clear F; intro a F
      refine wpList_nil ⟨rfl, F.sz, F.df, _, [], (Le.refl _), ?_, (lst1 (F.get 27 _ rfl))⟩
      refine St0.of_eq ?_ (flat3 c [] [] fr).symm
      show St0 _ (fl ([] ++ []) fr) _
      exact S
    · intro a w gd1 c fr hsz hdf hK ld1 hN hI S
      have F : Fr 81 a [(5, .int .i64 (versions.length : Int))] := Fr.of hsz hdf ⟨hK 5 (by decide) _ rfl, trivial⟩
      replace S : St gd1 [] fr w := S.of_eq (flat2 _ _ _ _)
      refine wl_ev (wn rfl) (ev_move rfl) F S rfl rfl ?_; clear F; intro a F
      refine wpList_nil ⟨rfl, F.sz, F.df, _, [], (Le.refl _), ?_, (lst1 (F.get 28 _ rfl))⟩
      refine St0.of_eq ?_ (flat3 c [] [] fr).symm
      show St0 _ (fl ([] ++ []) fr) _
      exact S
    · intro a w gd1 c fr hsz hdf hK ld1 hN hI S
      have e1 := hN 1 (by decide)
      have e28x : val a 28 = .int .i64 (versions.length : Int) := nth e1 0
      have F : Fr 81 a [(28, .int .i64 (versions.length : Int))] := Fr.of hsz hdf ⟨e28x, trivial⟩
      replace S : St gd1 [] fr w := S.of_eq (flat2 _ _ _ _)
      refine wl_ev (wn rfl) (ev_int rfl rfl (bo_sub hz1)) F S rfl rfl ?_; clear F; intro a F
      refine wpList_nil ⟨rfl, F.sz, F.df, _, [], (Le.refl _), ?_, (lst1 (F.get 29 _ rfl))⟩
      refine St0.of_eq ?_ (flat3 c [] [] fr).symm
      show St0 _ (fl ([] ++ []) fr) _
      exact S
    · intro a w gd1 c fr hsz hdf hK ld1 hN hI S
      have e0 := hN 0 (by decide)
      have e27x : val a 27 = vversions1 := nth e0 0
      have e2 := hN 2 (by decide)
      have e29x : val a 29 = .int .i64 z1 := nth e2 0
      have F : Fr 81 a [(27, vversions1), (29, .int .i64 z1)] := Fr.of hsz hdf ⟨e27x, e29x, trivial⟩
      replace S : St gd1 [] fr w := S.of_eq (flat2 _ _ _ _)
      obtain ⟨cs1, hr1, hp1⟩ := elemS (hversions1.mono (l1.trans ld1)) hy3
      obtain ⟨v2, rfl, h2⟩ := rep_list hr1
      refine wl_ev (wn rfl) (ev_idxS (hversions1.mono (l1.trans ld1)) hy3 tu22 ts31 rfl rfl) F S rfl rfl ?_; clear F; intro a F
      refine wpList_nil ⟨rfl, F.sz, F.df, _, [], (Le.refl _), ?_, ⟨v2, (lst1 (F.get 30 _ rfl)), h2, hp1⟩⟩
      refine St0.of_eq ?_ (flat3 c [] [] fr).symm
      show St0 _ (fl ([] ++ []) fr) _
      exact S
    · intro a w gd1 c fr hsz hdf hK ld1 hN hI S
      obtain ⟨lv1, e3, lh1, lh2⟩ := hN 3 (by decide)
      have e30x : val a 30 = (elemP vversions1 z1 1) := nth e3 0
      have F : Fr 81 a [(30, (elemP vversions1 z1 1))] := Fr.of hsz hdf ⟨e30x, trivial⟩
      replace S : St gd1 [] fr w := S.of_eq (flat2 _ _ _ _)
      refine wl_ev (wn rfl) (ev_load1 tu31 rfl rfl (ptr_mono (cks := []) (fr := fr) lh2 (Le.refl _))) F S rfl rfl ?_; clear F; intro a F
      refine wpList_nil ⟨rfl, F.sz, F.df, _, [], (Le.refl _), ?_, ⟨lv1, (lst1 (F.get 31 _ rfl)), lh1⟩⟩
      refine St0.of_eq ?_ (flat3 c [] [] fr).symm
      show St0 _ (fl ([] ++ []) fr) _
      exact S
    · intro a w gd1 c fr hsz hdf hK ld1 hN hI S
      have F : Fr 81 a [(0, vversions1)] := Fr.of hsz hdf ⟨hK 0 (by decide) _ rfl, trivial⟩
      replace S : St gd1 [] fr w := S.of_eq (flat2 _ _ _ _)
      refine wl_ev (wn rfl) (ev_move rfl) F S rfl rfl ?_; clear F; intro a F
      refine wpList_nil ⟨rfl, F.sz, F.df, _, [], (Le.refl _), ?_, (lst1 (F.get 32 _ rfl))⟩
      refine St0.of_eq ?_ (flat3 c [] [] fr).symm
      show St0 _ (fl ([] ++ []) fr) _
      exact S
    · intro a w gd1 c fr hsz hdf hK ld1 hN hI S
      have F : Fr 81 a [(5, .int .i64 (versions.length : Int))] := Fr.of hsz hdf ⟨hK 5 (by decide) _ rfl, trivial⟩
      replace S : St gd1 [] fr w := S.of_eq (flat2 _ _ _ _)
      refine wl_ev (wn rfl) (ev_move rfl) F S rfl rfl ?_; clear F; intro a F
      refine wpList_nil ⟨rfl, F.sz, F.df, _, [], (Le.refl _), ?_, (lst1 (F.get 33 _ rfl))⟩
      refine St0.of_eq ?_ (flat3 c [] [] fr).symm
      show St0 _ (fl ([] ++ []) fr) _
      exact S
    · intro a w gd1 c fr hsz hdf hK ld1 hN hI S
      have e6 := hN 6 (by decide)
      have e33x : val a 33 = .int .i64 (versions.length : Int) := nth e6 0
      have F : Fr 81 a [(33, .int .i64 (versions.length : Int))] := Fr.of hsz hdf ⟨e33x, trivial⟩
      replace S : St gd1 [] fr w := S.of_eq (flat2 _ _ _ _)
      refine wl_ev (wn rfl) (ev_int rfl rfl (bo_sub hz2)) F S rfl rfl ?_; clear F; intro a F
      refine wpList_nil ⟨rfl, F.sz, F.df, _, [], (Le.refl _), ?_, (lst1 (F.get 34 _ rfl))⟩
      refine St0.of_eq ?_ (flat3 c [] [] fr).symm
      show St0 _ (fl ([] ++ []) fr) _
      exact S
    · intro a w gd1 c fr hsz hdf hK ld1 hN hI S
      have e5 := hN 5 (by decide)
      have e32x : val a 32 = vversions1 := nth e5 0
      have e7 := hN 7 (by decide)
      have e34x : val a 34 = .int .i64 z2 := nth e7 0
      have F : Fr 81 a [(32, vversions1), (34, .int .i64 z2)] := Fr.of hsz hdf ⟨e32x, e34x, trivial⟩
      replace S : St gd1 [] fr w := S.of_eq (flat2 _ _ _ _)
      obtain ⟨cs2, hr2, hp2⟩ := elemS (hversions1.mono (l1.trans ld1)) hy4
      obtain ⟨v3, rfl, h3⟩ := rep_list hr2
      refine wl_ev (wn rfl) (ev_idxS (hversions1.mono (l1.trans ld1)) hy4 tu22 ts31 rfl rfl) F S rfl rfl ?_; clear F; intro a F
      refine wpList_nil ⟨rfl, F.sz, F.df, _, [], (Le.refl _), ?_, ⟨v3, (lst1 (F.get 35 _ rfl)), h3, hp2⟩⟩
      refine St0.of_eq ?_ (flat3 c [] [] fr).symm
      show St0 _ (fl ([] ++ []) fr) _
      exact S
    · intro a w gd1 c fr hsz hdf hK ld1 hN hI S
      obtain ⟨lv1, e8, lh1, lh2⟩ := hN 8 (by decide)
      have e35x : val a 35 = (elemP vversions1 z2 1) := nth e8 0
      have F : Fr 81 a [(35, (elemP vversions1 z2 1))] := Fr.of hsz hdf ⟨e35x, trivial⟩
      replace S : St gd1 [] fr w := S.of_eq (flat2 _ _ _ _)
      refine wl_ev (wn rfl) (ev_load1 tu31 rfl rfl (ptr_mono (cks := []) (fr := fr) lh2 (Le.refl _))) F S rfl rfl ?_; clear F; intro a F
      refine wpList_nil ⟨rfl, F.sz, F.df, _, [], (Le.refl _), ?_, ⟨lv1, (lst1 (F.get 36 _ rfl)), lh1⟩⟩
      refine St0.of_eq ?_ (flat3 c [] [] fr).symm
      show St0 _ (fl ([] ++ []) fr) _
      exact S
    · intro a w gd1 c fr hsz hdf hK ld1 hN hI S
      obtain ⟨v2, e4, lh1⟩ := hN 4 (by decide)
      have e31x : val a 31 = v2 := nth e4 0
      obtain ⟨v3, e9, lh2⟩ := hN 9 (by decide)
      have e36x : val a 36 = v3 := nth e9 0
      have F : Fr 81 a [(31, v2), (36, v3)] := Fr.of hsz hdf ⟨e31x, e36x, trivial⟩
      replace S : St gd1 [] fr w := S.of_eq (flat2 _ _ _ _)
      refine wl_call (wn rfl) rfl (xs := [.tmp 31, .tmp 36]) (vs := [v2, v3]) (cap := []) F rfl rfl tc20 (diff_Script_ok (g := gd1) (fr := fr) (w := w) y3 v2 lh1 y4 v3 lh2 S hy5) rfl rfl ?_; clear F S
      rintro _ a w ⟨g3, v4, l3, S, h4, rfl⟩ F; replace S : St g3 [] fr w := S
      refine wpList_nil ⟨rfl, F.sz, F.df, _, [], l3, ?_, ⟨v4, (lst1 (F.get 37 _ rfl)), h4⟩⟩
      refine St0.of_eq ?_ (flat3 c [] [] fr).symm
      show St0 _ (fl ([] ++ []) fr) _
      exact S
    · intro a w gd1 c fr hsz hdf hK ld1 hN hI S
      obtain ⟨v4, e10, lh1⟩ := hN 10 (by decide)
      have e37x : val a 37 = .tuple #[.agg #[v4], .agg #[.int .i64 y5.2.Code, .int .i64 y5.2.Index]] := nth e10 0
      have F : Fr 81 a [(37, .tuple #[.agg #[v4], .agg #[.int .i64 y5.2.Code, .int .i64 y5.2.Index]])] := Fr.of hsz hdf ⟨e37x, trivial⟩
      replace S : St gd1 [] fr w := S.of_eq (flat2 _ _ _ _)
      refine wl_ev (wn rfl) (ev_move rfl) F S rfl rfl ?_; clear F; intro a F
      refine wpList_nil ⟨rfl, F.sz, F.df, _, [], (Le.refl _), ?_, ⟨v4, (lst2 (F.get 26 _ rfl) (F.get 37 _ rfl))⟩⟩
      refine St0.of_eq ?_ (flat3 c [] [] fr).symm
      show St0 _ (fl ([] ++ []) fr) _
      exact S
    · intro a w gd1 c fr hsz hdf hK ld1 hN hI S
      obtain ⟨v4, e10, lh1⟩ := hN 10 (by decide)
      have e37x : val a 37 = .tuple #[.agg #[v4], .agg #[.int .i64 y5.2.Code, .int .i64 y5.2.Index]] := nth e10 0
      obtain ⟨dup1, e11⟩ := hN 11 (by decide)
      obtain rfl : v4 = dup1 := by have := e37x.symm.trans (nth e11 1); simpa using this
      have e26x : val a 26 = .tuple #[.agg #[v4], .agg #[.int .i64 y5.2.Code, .int .i64 y5.2.Index]] := nth e11 0
      have F : Fr 81 a [(37, .tuple #[.agg #[v4], .agg #[.int .i64 y5.2.Code, .int .i64 y5.2.Index]]), (26, .tuple #[.agg #[v4], .agg #[.int .i64 y5.2.Code, .int .i64 y5.2.Index]])] := Fr.of hsz hdf ⟨e37x, e26x, trivial⟩
      replace S : St gd1 [] fr w := S.of_eq (flat2 _ _ _ _)
      refine wl_ev (wn rfl) (ev_extract (vs := [.agg #[v4], .agg #[.int .i64 y5.2.Code, .int .i64 y5.2.Index]]) rfl rfl) F S rfl rfl ?_; clear F; intro a F
      refine wpList_nil ⟨rfl, F.sz, F.df, _, [], (Le.refl _), ?_, ⟨v4, (lst2 (F.get 38 _ rfl) (F.get 37 _ rfl))⟩⟩
      refine St0.of_eq ?_ (flat3 c [] [] fr).symm
      show St0 _ (fl ([] ++ []) fr) _
      exact S
    · intro a w gd1 c fr hsz hdf hK ld1 hN hI S
      obtain ⟨v4, e10, lh1⟩ := hN 10 (by decide)
      have e37x : val a 37 = .tuple #[.agg #[v4], .agg #[.int .i64 y5.2.Code, .int .i64 y5.2.Index]] := nth e10 0
      obtain ⟨dup1, e11⟩ := hN 11 (by decide)
      obtain rfl : v4 = dup1 := by have := e37x.symm.trans (nth e11 1); simpa using this
      have e26x : val a 26 = .tuple #[.agg #[v4], .agg #[.int .i64 y5.2.Code, .int .i64 y5.2.Index]] := nth e11 0
      have F : Fr 81 a [(37, .tuple #[.agg #[v4], .agg #[.int .i64 y5.2.Code, .int .i64 y5.2.Index]]), (26, .tuple #[.agg #[v4], .agg #[.int .i64 y5.2.Code, .int .i64 y5.2.Index]])] := Fr.of hsz hdf ⟨e37x, e26x, trivial⟩
      replace S : St gd1 [] fr w := S.of_eq (flat2 _ _ _ _)
      refine wl_ev (wn rfl) (ev_extract (vs := [.agg #[v4], .agg #[.int .i64 y5.2.Code, .int .i64 y5.2.Index]]) rfl rfl) F S rfl rfl ?_; clear F; intro a F
      refine wpList_nil ⟨rfl, F.sz, F.df, _, [], (Le.refl _), ?_, (lst1 (F.get 39 _ rfl))⟩
      refine St0.of_eq ?_ (flat3 c [] [] fr).symm
      show St0 _ (fl ([] ++ []) fr) _
      exact S
    · intro a w gd1 c fr hsz hdf hK ld1 hN hI S
      have F : Fr 81 a [] := Fr.of hsz hdf trivial
      replace S : St gd1 [] fr w := S.of_eq (flat2 _ _ _ _)
      refine wl_alloc (wn rfl) rfl tz40 (cs := [.slice Option.none 0 0]) rfl F S rfl rfl ?_; clear F S; rintro b2 a w F S
      refine wpList_nil ⟨rfl, F.sz, F.df, _, [(b2, .cells #[.slice Option.none 0 0] 40 (0, 0))], (Le.refl _), ?_, ⟨b2, (lst1 (F.get 6 _ rfl)), rfl⟩⟩
      refine St0.of_eq ?_ (flat3s c ([(b2, .cells #[.slice Option.none 0 0] 40 (0, 0))]) [] fr).symm
      show St0 _ (fl ([[(b2, .cells #[.slice Option.none 0 0] 40 (0, 0))]] ++ []) fr) _
      exact S
    · intro a w gd1 c fr hsz hdf hK ld1 hN hI S
      have F : Fr 81 a [] := Fr.of hsz hdf trivial
      replace S : St gd1 [] fr w := S.of_eq (flat2 _ _ _ _)
      refine wl_alloc (wn rfl) rfl tz25 (cs := [.int .i64 0, .int .i64 0]) rfl F S rfl rfl ?_; clear F S; rintro b3 a w F S
      refine wpList_nil ⟨rfl, F.sz, F.df, _, [(b3, .cells #[.int .i64 0, .int .i64 0] 25 (0, 0))], (Le.refl _), ?_, ⟨b3, (lst1 (F.get 7 _ rfl)), rfl⟩⟩
      refine St0.of_eq ?_ (flat3s c ([(b3, .cells #[.int .i64 0, .int .i64 0] 25 (0, 0))]) [] fr).symm
      show St0 _ (fl ([[(b3, .cells #[.int .i64 0, .int .i64 0] 25 (0, 0))]] ++ []) fr) _
      exact S
    · intro a w gd1 c fr hsz hdf hK ld1 hN hI S
      obtain ⟨v4, e10, lh1⟩ := hN 10 (by decide)
      have e37x : val a 37 = .tuple #[.agg #[v4], .agg #[.int .i64 y5.2.Code, .int .i64 y5.2.Index]] := nth e10 0
      obtain ⟨dup1, e12⟩ := hN 12 (by decide)
      obtain rfl : v4 = dup1 := by have := e37x.symm.trans (nth e12 1); simpa using this
      have e38x : val a 38 = .agg #[v4] := nth e12 0
      obtain ⟨b2, e14, q14⟩ := hN 14 (by decide)
      have e6x : val a 6 = .pointer (some ⟨b2, 0, Option.none⟩) := nth e14 0
      have F : Fr 81 a [(37, .tuple #[.agg #[v4], .agg #[.int .i64 y5.2.Code, .int .i64 y5.2.Index]]), (38, .agg #[v4]), (6, .pointer (some ⟨b2, 0, Option.none⟩))] := Fr.of hsz hdf ⟨e37x, e38x, e6x, trivial⟩
      replace S : St gd1 [c 14] fr w := S.of_eq (flat2 _ _ _ _)
      rw [q14] at S
      refine wl_storeC (wn rfl) rfl F S rfl rfl (vs := [v4]) rfl ts40 (one_cons lh1.one one_nil) (k := 0) rfl (Nat.le_of_ble_eq_true rfl) (c' := #[v4]) rfl rfl ?_; clear S; intro w S
      replace S : St gd1 [[(b2, .cells #[v4] 40 (0, 0))]] fr w := S
      refine wpList_nil ⟨rfl, F.sz, F.df, _, [(b2, .cells #[v4] 40 (0, 0))], (Le.refl _), ?_, ⟨v4, b2, (lst2 (F.get 37 _ rfl) (F.get 6 _ rfl)), rfl⟩⟩
      refine St0.of_eq ?_ (flat3s c ([(b2, .cells #[v4] 40 (0, 0))]) [] fr).symm
      show St0 _ (fl ([[(b2, .cells #[v4] 40 (0, 0))]] ++ []) fr) _
      exact S
    · intro a w gd1 c fr hsz hdf hK ld1 hN hI S
      have e13 := hN 13 (by decide)
      have e39x : val a 39 = .agg #[.int .i64 y5.2.Code, .int .i64 y5.2.Index] := nth e13 0
      obtain ⟨b3, e15, q15⟩ := hN 15 (by decide)
      have e7x : val a 7 = .pointer (some ⟨b3, 0, Option.none⟩) := nth e15 0
      have F : Fr 81 a [(39, .agg #[.int .i64 y5.2.Code, .int .i64 y5.2.Index]), (7, .pointer (some ⟨b3, 0, Option.none⟩))] := Fr.of hsz hdf ⟨e39x, e7x, trivial⟩
      replace S : St gd1 [c 15] fr w := S.of_eq (flat2 _ _ _ _)
      rw [q15] at S
      refine wl_storeC (wn rfl) rfl F S rfl rfl (vs := [.int .i64 y5.2.Code, .int .i64 y5.2.Index]) rfl ts25 (one_cons rfl (one_cons rfl one_nil)) (k := 0) rfl (Nat.le_of_ble_eq_true rfl) (c' := #[.int .i64 y5.2.Code, .int .i64 y5.2.Index]) rfl rfl ?_; clear S; intro w S
      replace S : St gd1 [[(b3, .cells #[.int .i64 y5.2.Code, .int .i64 y5.2.Index] 25 (0, 0))]] fr w := S
      refine wpList_nil ⟨rfl, F.sz, F.df, _, [(b3, .cells #[.int .i64 y5.2.Code, .int .i64 y5.2.Index] 25 (0, 0))], (Le.refl _), ?_, ⟨b3, (lst1 (F.get 7 _ rfl)), rfl⟩⟩
      refine St0.of_eq ?_ (flat3s c ([(b3, .cells #[.int .i64 y5.2.Code, .int .i64 y5.2.Index] 25 (0, 0))]) [] fr).symm
      show St0 _ (fl ([[(b3, .cells #[.int .i64 y5.2.Code, .int .i64 y5.2.Index] 25 (0, 0))]] ++ []) fr) _
      exact S
    clear F S; intro a w gd1 c hsz hdf hK ld1 hI S hN
    obtain ⟨v4, e10, lh1⟩ := hN 10 (by decide)
    have e37x : val a 37 = .tuple #[.agg #[v4], .agg #[.int .i64 y5.2.Code, .int .i64 y5.2.Index]] := nth e10 0
    obtain ⟨b2, e14, q14⟩ := hN 14 (by decide)
    have e6x : val a 6 = .pointer (some ⟨b2, 0, Option.none⟩) := nth e14 0
    obtain ⟨b3, e15, q15⟩ := hN 15 (by decide)
    have e7x : val a 7 = .pointer (some ⟨b3, 0, Option.none⟩) := nth e15 0
    obtain ⟨dup1, dup2, e16, q16⟩ := hN 16 (by decide)
    obtain rfl : v4 = dup1 := by have := e37x.symm.trans (nth e16 0); simpa using this
    obtain rfl : b2 = dup2 := by have := e6x.symm.trans (nth e16 1); simpa using this
    obtain ⟨dup3, e17, q17⟩ := hN 17 (by decide)
    obtain rfl : b3 = dup3 := by have := e7x.symm.trans (nth e17 0); simpa using this
    have F : Fr 81 a [(5, .int .i64 (versions.length : Int)), (3, v1), (6, .pointer (some ⟨b2, 0, Option.none⟩)), (7, .pointer (some ⟨b3, 0, Option.none⟩))] := Fr.of hsz hdf ⟨hK 5 (by decide) _ rfl, hK 3 (by decide) _ rfl, e6x, e7x, trivial⟩
    replace S : St gd1 [c 0, c 1, c 2, c 3, c 4, c 5, c 6, c 7, c 8, c 9, c 10, c 11, c 12, c 13, c 16, c 17, c 18] fr w := S.of_eq (flat_fl _ _ _)
    rw [q16] at S
    rw [q17] at S
    have q18 : c 18 = [(b1, .cells #[.int .i64 y1.2.Code, .int .i64 y1.2.Index] 25 (0, 0))] := hI 0 _ rfl
    rw [q18] at S
    replace S : St gd1 [[(b2, .cells #[v4] 40 (0, 0))], [(b3, .cells #[.int .i64 y5.2.Code, .int .i64 y5.2.Index] 25 (0, 0))]] fr w := St.tail [[(b2, .cells #[v4] 40 (0, 0))], [(b3, .cells #[.int .i64 y5.2.Code, .int .i64 y5.2.Index] 25 (0, 0))]] _ ((S.frontC 15 rfl).frontC 15 rfl)
    clear hK hI hN hsz hdf e10 e14 e15 e16 e17 e37x e6x e7x
    refine then_n ?_
    refine wp_seq ?_
    refine wp_region_lit ?_
    refine wl_ev (wn rfl) (ev_assign rfl) F S rfl rfl ?_; clear F a; intro a F
    refine wpList_nil ?_
    refine then_n ?_
    refine wp_cut (fun a w => ∃ (x2 : Int) (g4 : Gh), Fr 81 a [(8, .int .i64 x2), (5, .int .i64 (versions.length : Int)), (3, v1), (7, .pointer (some ⟨b3, 0, Option.none⟩))] ∧ Le gd1 g4 ∧ St g4 [[(b3, .cells #[.int .i64 y5.2.Code, .int .i64 y5.2.Index] 25 (0, 0))]] fr w ∧ changeforgelaw2_BlameNewest.j1 versions y1 y5 x2 = some r) ?_ ?_
    · refine wp_seq ?_
      refine wp_region_lit ?_
      refine wl_ev (wn rfl) (ev_assign rfl) F S rfl rfl ?_; clear F a; intro a F
      refine wpList_nil ?_
      refine then_n ?_
      refine wp_block ?_
      obtain ⟨r2, hr5, hm⟩ := bind_some hm
      have hmo2 := hm; clear hm
      refine wp_iter (σ := Int × Int) (ρ := Int) (m := fun s => changeforgelaw2_BlameNewest.l2 y5 s.1 s.2) (I := fun s a w => match s with | (x10, x11) => ∃ (g10 : Gh), Fr 81 a [(9, .int .i64 x10), (8, .int .i64 x11), (5, .int .i64 (versions.length : Int)), (3, v1), (6, .pointer (some ⟨b2, 0, Option.none⟩)), (7, .pointer (some ⟨b3, 0, Option.none⟩))] ∧ Le gd1 g10 ∧ St g10 [[(b2, .cells #[v4] 40 (0, 0))], [(b3, .cells #[.int .i64 y5.2.Code, .int .i64 y5.2.Index] 25 (0, 0))]] fr w) hr5 ?_ ?_
      · dsimp only
        exact ⟨gd1, F.sub ⟨rfl, rfl, rfl, rfl, rfl, rfl, trivial⟩, (Le.refl _), S⟩
      · clear F S; rintro ⟨x10, x11⟩ a w x12 ⟨g10, F, l10, S⟩ hx5 hfin2
        have hm : changeforgelaw2_BlameNewest.l2 y5 x10 x11 = some x12 := hx5; clear hx5
        unfold changeforgelaw2_BlameNewest.l2 at hm
        refine wp_seq ?_
        refine wp_seq ?_
        refine wp_region_lit ?_
        refine wl_ev (wn rfl) (ev_move rfl) F S rfl rfl ?_; clear F a; intro a F
        refine wl_ev (wn rfl) (ev_fieldAddr' tu40 tf40_0 (z := 0) ts38 rfl ⟨_, rfl⟩ rfl) F S rfl rfl ?_; clear F a; intro a F
        refine wl_ev (wn rfl) (ev_load1 tu38 rfl rfl (box_ptr (cells := [v4]) 0 rfl 0 rfl (Nat.le_of_ble_eq_true rfl))) F S rfl rfl ?_; clear F a; intro a F
        refine wl_ev (wn rfl) (ev_lenSh lh1 rfl tu38) F S rfl rfl ?_; clear F a; intro a F
        refine wl_ev (wn rfl) (ev_int rfl rfl (bo_lss _ _ _ _)) F S rfl rfl ?_; clear F a; intro a F
        refine wpList_nil ?_
        replace F := F.sub (e' := [(44, .bool (decide (x10 < (y5.1.Hunks.length : Int)))), (9, .int .i64 x10), (8, .int .i64 x11), (5, .int .i64 (versions.length : Int)), (3, v1), (6, .pointer (some ⟨b2, 0, Option.none⟩)), (7, .pointer (some ⟨b3, 0, Option.none⟩))]) ⟨rfl, rfl, rfl, rfl, rfl, rfl, rfl, trivial⟩
        refine then_n ?_
        obtain ⟨hc7, hm⟩ | ⟨hc7, hm⟩ := ite_or hm
        · refine wp_condT F rfl hc7 ?_
          refine wp_skip ?_
          refine then_n ?_
          refine wp_seq ?_
          refine wp_block ?_
          refine wp_region_lit ?_
          refine wl_ev (wn rfl) (ev_move rfl) F S rfl rfl ?_; clear F a; intro a F
          refine wl_ev (wn rfl) (ev_fieldAddr' tu40 tf40_0 (z := 0) ts38 rfl ⟨_, rfl⟩ rfl) F S rfl rfl ?_; clear F a; intro a F
          refine wl_ev (wn rfl) (ev_load1 tu38 rfl rfl (box_ptr (cells := [v4]) 0 rfl 0 rfl (Nat.le_of_ble_eq_true rfl))) F S rfl rfl ?_; clear F a; intro a F
          refine wl_ev (wn rfl) (ev_move rfl) F S rfl rfl ?_; clear F a; intro a F
          obtain ⟨y8, hy8, hm⟩ := bind_some hm
          obtain ⟨cs4, hr6, hp4⟩ := elemS (lh1.mono l10) hy8
          obtain ⟨v5, v6, rfl, h5, h6⟩ := rep_Hunk hr6
          refine wl_ev (wn rfl) (ev_idxS (lh1.mono l10) hy8 tu38 ts44 rfl rfl) F S rfl rfl ?_; clear F a; intro a F
          have hp5 := PtrC.field hp4 2 1 (Nat.le_of_ble_eq_true rfl)
          have hp5 : PtrC g10 (addP (elemP v4 x10 3) 2) [v6] := hp5
          refine wl_ev (wn rfl) (ev_fieldAddr' tu44 tf44_2 (z := 0) ts31 rfl hp4.ptr rfl) F S rfl rfl ?_; clear F a; intro a F
          refine wl_ev (wn rfl) (ev_load1 tu31 rfl rfl (ptr_mono (cks := [[(b2, .cells #[v4] 40 (0, 0))], [(b3, .cells #[.int .i64 y5.2.Code, .int .i64 y5.2.Index] 25 (0, 0))]]) (fr := fr) hp5 (Le.refl _))) F S rfl rfl ?_; clear F a; intro a F
          refine wl_ev (wn rfl) (ev_lenSh h6 rfl tu31) F S rfl rfl ?_; clear F a; intro a F
          obtain ⟨z6, hz6, hm⟩ := bind_some hm
          refine wl_ev (wn rfl) (ev_int rfl rfl (bo_add hz6)) F S rfl rfl ?_; clear F a; intro a F
          refine wl_ev (wn rfl) (ev_assign rfl) F S rfl rfl ?_; clear F a; intro a F
          refine wpList_nil ?_
          replace F := F.sub (e' := [(8, .int .i64 z6), (9, .int .i64 x10), (5, .int .i64 (versions.length : Int)), (3, v1), (6, .pointer (some ⟨b2, 0, Option.none⟩)), (7, .pointer (some ⟨b3, 0, Option.none⟩))]) ⟨rfl, rfl, rfl, rfl, rfl, rfl, trivial⟩
          refine inb_n ?_
          refine then_n ?_
          refine wp_region_lit ?_
          refine wl_ev (wn rfl) (ev_move rfl) F S rfl rfl ?_; clear F a; intro a F
          obtain ⟨z7, hz7, hm⟩ := bind_some hm
          refine wl_ev (wn rfl) (ev_int rfl rfl (bo_add hz7)) F S rfl rfl ?_; clear F a; intro a F
          refine wl_ev (wn rfl) (ev_assign rfl) F S rfl rfl ?_; clear F a; intro a F
          refine wpList_nil ?_
          replace F := F.sub (e' := [(9, .int .i64 z7), (8, .int .i64 z6), (5, .int .i64 (versions.length : Int)), (3, v1), (6, .pointer (some ⟨b2, 0, Option.none⟩)), (7, .pointer (some ⟨b3, 0, Option.none⟩))]) ⟨rfl, rfl, rfl, rfl, rfl, rfl, trivial⟩
          refine then_n ?_
          obtain rfl := Option.some.inj hm
          refine ⟨_, rfl, ?_⟩
          dsimp only
          exact ⟨g10, F.sub ⟨rfl, rfl, rfl, rfl, rfl, rfl, trivial⟩, l10, S⟩
        · refine wp_condF F rfl hc7 ?_
          refine wp_exit ?_
          refine then_e ?_
          refine then_e ?_
          refine inb_x ?_
          refine then_n ?_
          obtain rfl := Option.some.inj hm
          obtain rfl := hfin2 _ rfl
          clear hm
          have hm : (changeforgelaw2_BlameNewest.j1 versions y1 y5 x11 : Option Bool) = some _ := hmo2
          replace S : St g10 [[(b3, .cells #[.int .i64 y5.2.Code, .int .i64 y5.2.Index] 25 (0, 0))]] fr w := St.tail [[(b3, .cells #[.int .i64 y5.2.Code, .int .i64 y5.2.Index] 25 (0, 0))]] _ (S.frontC 1 rfl)
          exact ⟨x11, g10, F.sub ⟨rfl, rfl, rfl, rfl, trivial⟩, l10, S, hm⟩
    · clear F S hm; rintro a w ⟨x2, g4, F, l4, S, hm⟩
      refine wp_cut (fun a w => ∃ (x3 : Int) (g5 : Gh), Fr 81 a [(8, .int .i64 x3), (7, .pointer (some ⟨b3, 0, Option.none⟩))] ∧ Le g4 g5 ∧ St g5 [[(b3, .cells #[.int .i64 y5.2.Code, .int .i64 y5.2.Index] 25 (0, 0))]] fr w ∧ changeforgelaw2_BlameNewest.j2 y5 x3 = some r) ?_ ?_
      · refine wp_seq ?_
        refine wp_region_lit ?_
        refine wl_ev (wn rfl) (ev_assign rfl) F S rfl rfl ?_; clear F a; intro a F
        refine wpList_nil ?_
        refine then_n ?_
        refine wp_block ?_
        obtain ⟨r1, hr3, hm⟩ := bind_some hm
        have hmo1 := hm; clear hm
        refine wp_iter (σ := Int × Int) (ρ := Int) (m := fun s => changeforgelaw2_BlameNewest.l1 versions y1 s.1 s.2) (I := fun s a w => match s with | (x6, x7) => ∃ (g8 : Gh), Fr 81 a [(10, .int .i64 x6), (8, .int .i64 x7), (5, .int .i64 (versions.length : Int)), (3, v1), (7, .pointer (some ⟨b3, 0, Option.none⟩))] ∧ Le g4 g8 ∧ St g8 [[(b3, .cells #[.int .i64 y5.2.Code, .int .i64 y5.2.Index] 25 (0, 0))]] fr w) hr3 ?_ ?_
        · dsimp only
          exact ⟨g4, F.sub ⟨rfl, rfl, rfl, rfl, rfl, trivial⟩, (Le.refl _), S⟩
        · clear F S; rintro ⟨x6, x7⟩ a w x8 ⟨g8, F, l8, S⟩ hx4 hfin1
          have hm : changeforgelaw2_BlameNewest.l1 versions y1 x6 x7 = some x8 := hx4; clear hx4
          unfold changeforgelaw2_BlameNewest.l1 at hm
          refine wp_seq ?_
          refine wp_seq ?_
          refine wp_region_lit ?_
          refine wl_ev (wn rfl) (ev_move rfl) F S rfl rfl ?_; clear F a; intro a F
          refine wl_ev (wn rfl) (ev_move rfl) F S rfl rfl ?_; clear F a; intro a F
          refine wl_ev (wn rfl) (ev_lenSh h1 rfl tu23) F S rfl rfl ?_; clear F a; intro a F
          refine wl_ev (wn rfl) (ev_int rfl rfl (bo_lss _ _ _ _)) F S rfl rfl ?_; clear F a; intro a F
          refine wpList_nil ?_
          replace F := F.sub (e' := [(59, .bool (decide (x6 < (y1.1.length : Int)))), (10, .int .i64 x6), (8, .int .i64 x7), (5, .int .i64 (versions.length : Int)), (3, v1), (7, .pointer (some ⟨b3, 0, Option.none⟩))]) ⟨rfl, rfl, rfl, rfl, rfl, rfl, trivial⟩
          refine then_n ?_
          obtain ⟨hc5, hm⟩ | ⟨hc5, hm⟩ := ite_or hm
          · refine wp_condT F rfl hc5 ?_
            refine wp_skip ?_
            refine then_n ?_
            refine wp_cut (fun a w => ∃ (x9 : Int) (g9 : Gh), Fr 81 a [(8, .int .i64 x9), (10, .int .i64 x6), (5, .int .i64 (versions.length : Int)), (3, v1), (7, .pointer (some ⟨b3, 0, Option.none⟩))] ∧ Le g8 g9 ∧ St g9 [[(b3, .cells #[.int .i64 y5.2.Code, .int .i64 y5.2.Index] 25 (0, 0))]] fr w ∧ changeforgelaw2_BlameNewest.j3 x6 x9 = some x8) ?_ ?_
            · refine wp_block ?_
              refine wp_seq ?_
              refine wp_region_lit ?_
              refine wl_ev (wn rfl) (ev_move rfl) F S rfl rfl ?_; clear F a; intro a F
              refine wl_ev (wn rfl) (ev_move rfl) F S rfl rfl ?_; clear F a; intro a F
              obtain ⟨y7, hy7, hm⟩ := bind_some hm
              obtain ⟨cs3, hr4, hp3⟩ := elemS (h1.mono ((ld1.trans l4).trans l8)) hy7
              obtain rfl := rep_int hr4
              refine wl_ev (wn rfl) (ev_idxS (h1.mono ((ld1.trans l4).trans l8)) hy7 tu23 ts3 rfl rfl) F S rfl rfl ?_; clear F a; intro a F
              refine wl_ev (wn rfl) (ev_load1 tu3 rfl rfl (ptr_mono (cks := [[(b3, .cells #[.int .i64 y5.2.Code, .int .i64 y5.2.Index] 25 (0, 0))]]) (fr := fr) hp3 (Le.refl _))) F S rfl rfl ?_; clear F a; intro a F
              refine wl_ev (wn rfl) (ev_move rfl) F S rfl rfl ?_; clear F a; intro a F
              obtain ⟨z4, hz4, hm⟩ := bind_some hm
              refine wl_ev (wn rfl) (ev_int rfl rfl (bo_sub hz4)) F S rfl rfl ?_; clear F a; intro a F
              refine wl_ev (wn rfl) (ev_int rfl rfl (bo_eql _ _ _ _)) F S rfl rfl ?_; clear F a; intro a F
              refine wpList_nil ?_
              replace F := F.sub (e' := [(68, .bool (decide (y7 = z4))), (10, .int .i64 x6), (8, .int .i64 x7), (5, .int .i64 (versions.length : Int)), (3, v1), (7, .pointer (some ⟨b3, 0, Option.none⟩))]) ⟨rfl, rfl, rfl, rfl, rfl, rfl, trivial⟩
              refine then_n ?_
              obtain ⟨hc6, hm⟩ | ⟨hc6, hm⟩ := ite_or hm
              · refine wp_condT F rfl hc6 ?_
                refine wp_region_lit ?_
                refine wl_ev (wn rfl) (ev_move rfl) F S rfl rfl ?_; clear F a; intro a F
                obtain ⟨z5, hz5, hm⟩ := bind_some hm
                refine wl_ev (wn rfl) (ev_int rfl rfl (bo_sub hz5)) F S rfl rfl ?_; clear F a; intro a F
                refine wl_ev (wn rfl) (ev_assign rfl) F S rfl rfl ?_; clear F a; intro a F
                refine wpList_nil ?_
                replace F := F.sub (e' := [(8, .int .i64 z5), (10, .int .i64 x6), (5, .int .i64 (versions.length : Int)), (3, v1), (7, .pointer (some ⟨b3, 0, Option.none⟩))]) ⟨rfl, rfl, rfl, rfl, rfl, trivial⟩
                refine inb_n ?_
                refine then_n ?_
                exact ⟨z5, g8, F.sub ⟨rfl, rfl, rfl, rfl, rfl, trivial⟩, (Le.refl _), S, hm⟩
              · refine wp_condF F rfl hc6 ?_
                refine wp_skip ?_
                refine inb_n ?_
                refine then_n ?_
                exact ⟨x7, g8, F.sub ⟨rfl, rfl, rfl, rfl, rfl, trivial⟩, (Le.refl _), S, hm⟩
            · clear F S hm; rintro a w ⟨x9, g9, F, l9, S, hm⟩
              refine wp_region_lit ?_
              refine wl_ev (wn rfl) (ev_move rfl) F S rfl rfl ?_; clear F a; intro a F
              obtain ⟨z3, hz3, hm⟩ := bind_some hm
              refine wl_ev (wn rfl) (ev_int rfl rfl (bo_add hz3)) F S rfl rfl ?_; clear F a; intro a F
              refine wl_ev (wn rfl) (ev_assign rfl) F S rfl rfl ?_; clear F a; intro a F
              refine wpList_nil ?_
              replace F := F.sub (e' := [(10, .int .i64 z3), (8, .int .i64 x9), (5, .int .i64 (versions.length : Int)), (3, v1), (7, .pointer (some ⟨b3, 0, Option.none⟩))]) ⟨rfl, rfl, rfl, rfl, rfl, trivial⟩
              refine then_n ?_
              obtain rfl := Option.some.inj hm
              refine ⟨_, rfl, ?_⟩
              dsimp only
              exact ⟨g9, F.sub ⟨rfl, rfl, rfl, rfl, rfl, trivial⟩, (l8.trans l9), S⟩
          · refine wp_condF F rfl hc5 ?_
            refine wp_exit ?_
            refine then_e ?_
            refine then_e ?_
            refine inb_x ?_
            refine then_n ?_
            obtain rfl := Option.some.inj hm
            obtain rfl := hfin1 _ rfl
            clear hm
            have hm : (changeforgelaw2_BlameNewest.j2 y5 x7 : Option Bool) = some _ := hmo1
            exact ⟨x7, g8, F.sub ⟨rfl, rfl, trivial⟩, l8, S, hm⟩
      · clear F S hm; rintro a w ⟨x3, g5, F, l5, S, hm⟩
        refine wp_seq ?_
        refine wp_region_lit ?_
        refine wl_ev (wn rfl) (ev_fieldAddr' tu25 tf25_0 (z := 0) ts3 rfl ⟨_, rfl⟩ rfl) F S rfl rfl ?_; clear F a; intro a F
        refine wl_ev (wn rfl) (ev_load1 tu3 rfl rfl (box_ptr (cells := [.int .i64 y5.2.Code]) 0 rfl 0 rfl (Nat.le_of_ble_eq_true rfl))) F S rfl rfl ?_; clear F a; intro a F
        refine wl_ev (wn rfl) (ev_int rfl rfl (bo_eql _ _ _ _)) F S rfl rfl ?_; clear F a; intro a F
        refine wl_ev (wn rfl) (ev_move rfl) F S rfl rfl ?_; clear F a; intro a F
        obtain ⟨x4, hx2, hm⟩ := bind_some hm
        refine wl_cut 3 (fun a w' => w = w' ∧ Fr 81 a [(77, .bool x4)]) ?_ ?_
        · clear hm; obtain ⟨hc3, hm⟩ | ⟨hc3, hm⟩ := ite_or hx2
          · refine wl_ev (wg F rfl rfl rfl rfl hc3) (ev_move rfl) F S rfl rfl ?_; clear F a; intro a F
            refine wl_ev (wg F rfl rfl rfl rfl hc3) (ev_int rfl rfl (bo_eql _ _ _ _)) F S rfl rfl ?_; clear F a; intro a F
            refine wl_ev (wn rfl) (ev_pickT rfl hc3 rfl) F S rfl rfl ?_; clear F a; intro a F
            obtain rfl := Option.some.inj hm
            refine wpList_nil (then_n ?_); exact ⟨rfl, F.sub ⟨rfl, trivial⟩⟩
          · refine wl_skip rfl rfl rfl rfl (ne_tf hc3) F rfl rfl ?_; clear F a; intro a F
            refine wl_skip rfl rfl rfl rfl (ne_tf hc3) F rfl rfl ?_; clear F a; intro a F
            refine wl_ev (wn rfl) (ev_pickF rfl hc3 rfl) F S rfl rfl ?_; clear F a; intro a F
            obtain rfl := Option.some.inj hm
            refine wpList_nil (then_n ?_); exact ⟨rfl, F.sub ⟨rfl, trivial⟩⟩
        clear F; rintro a w' ⟨rfl, F⟩
        refine wl_ev (wn rfl) (ev_move rfl) F S rfl rfl ?_; clear F a; intro a F
        obtain ⟨x5, hx3, hm⟩ := bind_some hm
        refine wl_cut 2 (fun a w => ∃ g6, Fr 81 a [(80, .bool x5)] ∧ Le g5 g6 ∧ St g6 [[(b3, .cells #[.int .i64 y5.2.Code, .int .i64 y5.2.Index] 25 (0, 0))]] fr w) ?_ ?_
        · clear hm; obtain ⟨hc4, hm⟩ | ⟨hc4, hm⟩ := ite_or hx3
          · obtain ⟨y6, hy6, hm⟩ := bind_some hm
            refine wl_call (wg F rfl rfl rfl rfl hc4) rfl (xs := []) (vs := []) (cap := []) F rfl rfl tc12 (changeforgelaw2_added_ok (g := g5) (fr := (fl [[(b3, .cells #[.int .i64 y5.2.Code, .int .i64 y5.2.Index] 25 (0, 0))]] fr)) (w := w)  S hy6) rfl rfl ?_; clear F a S
            rintro _ a w ⟨g7, l7, S, rfl⟩ F; replace S : St g7 [[(b3, .cells #[.int .i64 y5.2.Code, .int .i64 y5.2.Index] 25 (0, 0))]] fr w := S
            refine wl_ev (wn rfl) (ev_pickT rfl hc4 rfl) F S rfl rfl ?_; clear F a; intro a F
            obtain rfl := Option.some.inj hm
            refine wpList_nil (then_n ?_); exact ⟨g7, F.sub ⟨rfl, trivial⟩, l7, S⟩
          · refine wl_skip rfl rfl rfl rfl (ne_tf hc4) F rfl rfl ?_; clear F a; intro a F
            refine wl_ev (wn rfl) (ev_pickF rfl hc4 rfl) F S rfl rfl ?_; clear F a; intro a F
            obtain rfl := Option.some.inj hm
            refine wpList_nil (then_n ?_); exact ⟨g5, F.sub ⟨rfl, trivial⟩, (Le.refl _), S⟩
        clear F S; rintro a w ⟨g6, F, l6, S⟩
        refine wl_ev (wn rfl) (ev_assign rfl) F S rfl rfl ?_; clear F a; intro a F
        refine wpList_nil ?_
        replace F := F.sub (e' := [(2, .bool x5)]) ⟨rfl, trivial⟩
        refine then_n ?_
        refine wp_ret ?_
        obtain rfl := Option.some.inj hm
        refine post_r (fn := Try.f7) (rs := [.tmp 2]) [.bool x5] F rfl (ar_cons (resT rfl) ar_nil) ?_
        replace S : St g6 [] fr w := St.tail [] _ S
        exact ⟨_, rfl, g6, ((((l1.trans ld1).trans l4).trans l5).trans l6), S, rfl⟩

theorem digest_mul_ok {g : Gh} {fr : Hl} {w : World} {r : Int} (a_ : Int) (b_ : Int) (S : St g [] fr w) (hm : digest_mul a_ b_ = some r) :
    Calls Try.prog 50 [.int .i64 a_, .int .i64 b_].toArray w (fun en w' => ∃ v, en = .returned v ∧ ∃ (g' : Gh), Le g g' ∧ St g' [] fr w' ∧ .int .i64 r = v) := by
  unfold digest_mul at hm
  refine calls_enter (fn := Try.f50) Try.func50 rfl Try.ntmps50 (Nat.le_of_ble_eq_true rfl) ?_
  intro a F
  replace F : Fr 21 a [(0, .int .i64 a_), (1, .int .i64 b_)] := F
  refine wp_seq ?_
  refine wp_region_lit ?_
  refine wl_ev (wn rfl) (ev_assign rfl) F S rfl rfl ?_; clear F a; intro a F
  refine wpList_nil ?_
  replace F := F.sub (e' := [(0, .int .i64 a_), (1, .int .i64 b_)]) ⟨rfl, rfl, trivial⟩
  refine then_n ?_
  refine wp_seq ?_
  refine wp_region_lit ?_
  refine wl_ev (wn rfl) (ev_assign rfl) F S rfl rfl ?_; clear F a; intro a F
  refine wpList_nil ?_
  refine then_n ?_
  refine wp_cut (fun a w => ∃ (x1 : Int) (g1 : Gh), Fr 21 a [(5, .int .i64 x1)] ∧ Le g g1 ∧ St g1 [] fr w ∧ digest_mul.j1 x1 = some r) ?_ ?_
  · refine wp_block ?_
    obtain ⟨r1, hr1, hm⟩ := bind_some hm
    have hmo1 := hm; clear hm
    refine wp_iter (σ := Int × Int × Int) (ρ := Int) (m := fun s => digest_mul.l1 s.1 s.2.1 s.2.2) (I := fun s a w => match s with | (x2, x3, x4) => ∃ (g2 : Gh), Fr 21 a [(5, .int .i64 x2), (0, .int .i64 x3), (1, .int .i64 x4)] ∧ Le g g2 ∧ St g2 [] fr w) hr1 ?_ ?_
    · dsimp only
      exact ⟨g, F.sub ⟨rfl, rfl, rfl, trivial⟩, (Le.refl _), S⟩
    · clear F S; rintro ⟨x2, x3, x4⟩ a w x5 ⟨g2, F, l2, S⟩ hx1 hfin1
      have hm : digest_mul.l1 x2 x3 x4 = some x5 := hx1; clear hx1
      unfold digest_mul.l1 at hm
      refine wp_seq ?_
      refine wp_seq ?_
      refine wp_region_lit ?_
      refine wl_ev (wn rfl) (ev_move rfl) F S rfl rfl ?_; clear F a; intro a F
      refine wl_ev (wn rfl) (ev_int rfl rfl (bo_gtr _ _ _ _)) F S rfl rfl ?_; clear F a; intro a F
      refine wpList_nil ?_
      replace F := F.sub (e' := [(7, .bool (decide (x4 > 0))), (5, .int .i64 x2), (0, .int .i64 x3), (1, .int .i64 x4)]) ⟨rfl, rfl, rfl, rfl, trivial⟩
      refine then_n ?_
      obtain ⟨hc1, hm⟩ | ⟨hc1, hm⟩ := ite_or hm
      · refine wp_condT F rfl hc1 ?_
        refine wp_skip ?_
        refine then_n ?_
        refine wp_seq ?_
        refine wp_block ?_
        refine wp_cut (fun a w => ∃ (x6 : Int) (g3 : Gh), Fr 21 a [(5, .int .i64 x6), (0, .int .i64 x3), (1, .int .i64 x4)] ∧ Le g2 g3 ∧ St g3 [] fr w ∧ digest_mul.j2 x3 x4 x6 = some x5) ?_ ?_
        · refine wp_seq ?_
          refine wp_region_lit ?_
          refine wl_ev (wn rfl) (ev_move rfl) F S rfl rfl ?_; clear F a; intro a F
          refine wl_ev (wn rfl) (ev_int rfl rfl (bo_and _ _ _ _)) F S rfl rfl ?_; clear F a; intro a F
          refine wl_ev (wn rfl) (ev_int rfl rfl (bo_eql _ _ _ _)) F S rfl rfl ?_; clear F a; intro a F
          refine wpList_nil ?_
          replace F := F.sub (e' := [(12, .bool (decide (andI .i64 x4 1 = 1))), (5, .int .i64 x2), (0, .int .i64 x3), (1, .int .i64 x4)]) ⟨rfl, rfl, rfl, rfl, trivial⟩
          refine then_n ?_
          obtain ⟨hc2, hm⟩ | ⟨hc2, hm⟩ := ite_or hm
          · refine wp_condT F rfl hc2 ?_
            refine wp_region_lit ?_
            refine wl_ev (wn rfl) (ev_move rfl) F S rfl rfl ?_; clear F a; intro a F
            refine wl_ev (wn rfl) (ev_move rfl) F S rfl rfl ?_; clear F a; intro a F
            obtain ⟨z4, hz4, hm⟩ := bind_some hm
            refine wl_ev (wn rfl) (ev_int rfl rfl (bo_add hz4)) F S rfl rfl ?_; clear F a; intro a F
            obtain ⟨z5, hz5, hm⟩ := bind_some hm
            refine wl_ev (wn rfl) (ev_int rfl rfl (bo_rem hz5)) F S rfl rfl ?_; clear F a; intro a F
            refine wl_ev (wn rfl) (ev_assign rfl) F S rfl rfl ?_; clear F a; intro a F
            refine wpList_nil ?_
            replace F := F.sub (e' := [(5, .int .i64 z5), (0, .int .i64 x3), (1, .int .i64 x4)]) ⟨rfl, rfl, rfl, trivial⟩
            refine then_n ?_
            exact ⟨z5, g2, F.sub ⟨rfl, rfl, rfl, trivial⟩, (Le.refl _), S, hm⟩
          · refine wp_condF F rfl hc2 ?_
            refine wp_skip ?_
            refine then_n ?_
            exact ⟨x2, g2, F.sub ⟨rfl, rfl, rfl, trivial⟩, (Le.refl _), S, hm⟩
        · clear F S hm; rintro a w ⟨x6, g3, F, l3, S, hm⟩
          refine wp_region_lit ?_
          refine wl_ev (wn rfl) (ev_move rfl) F S rfl rfl ?_; clear F a; intro a F
          obtain ⟨z1, hz1, hm⟩ := bind_some hm
          refine wl_ev (wn rfl) (ev_int rfl rfl (bo_mul hz1)) F S rfl rfl ?_; clear F a; intro a F
          obtain ⟨z2, hz2, hm⟩ := bind_some hm
          refine wl_ev (wn rfl) (ev_int rfl rfl (bo_rem hz2)) F S rfl rfl ?_; clear F a; intro a F
          refine wl_ev (wn rfl) (ev_assign rfl) F S rfl rfl ?_; clear F a; intro a F
          refine wpList_nil ?_
          replace F := F.sub (e' := [(0, .int .i64 z2), (5, .int .i64 x6), (1, .int .i64 x4)]) ⟨rfl, rfl, rfl, trivial⟩
          refine inb_n ?_
          refine then_n ?_
          refine wp_region_lit ?_
          refine wl_ev (wn rfl) (ev_move rfl) F S rfl rfl ?_; clear F a; intro a F
          obtain ⟨z3, hz3, hm⟩ := bind_some hm
          refine wl_ev (wn rfl) (ev_shr hz3 rfl rfl) F S rfl rfl ?_; clear F a; intro a F
          refine wl_ev (wn rfl) (ev_assign rfl) F S rfl rfl ?_; clear F a; intro a F
          refine wpList_nil ?_
          replace F := F.sub (e' := [(1, .int .i64 z3), (0, .int .i64 z2), (5, .int .i64 x6)]) ⟨rfl, rfl, rfl, trivial⟩
          refine then_n ?_
          obtain rfl := Option.some.inj hm
          refine ⟨_, rfl, ?_⟩
          dsimp only
          exact ⟨g3, F.sub ⟨rfl, rfl, rfl, trivial⟩, (l2.trans l3), S⟩
      · refine wp_condF F rfl hc1 ?_
        refine wp_exit ?_
        refine then_e ?_
        refine then_e ?_
        refine inb_x ?_
        refine then_n ?_
        obtain rfl := Option.some.inj hm
        obtain rfl := hfin1 _ rfl
        clear hm
        have hm : (digest_mul.j1 x2 : Option Int) = some _ := hmo1
        exact ⟨x2, g2, F.sub ⟨rfl, trivial⟩, l2, S, hm⟩
  · clear F S hm; rintro a w ⟨x1, g1, F, l1, S, hm⟩
    refine wp_seq ?_
    refine wp_region_lit ?_
    refine wl_ev (wn rfl) (ev_move rfl) F S rfl rfl ?_; clear F a; intro a F
    refine wl_ev (wn rfl) (ev_assign rfl) F S rfl rfl ?_; clear F a; intro a F
    refine wpList_nil ?_
    replace F := F.sub (e' := [(4, .int .i64 x1)]) ⟨rfl, trivial⟩
    refine then_n ?_
    refine wp_ret ?_
    obtain rfl := Option.some.inj hm
    refine post_r (fn := Try.f50) (rs := [.tmp 4]) [.int .i64 x1] F rfl (ar_cons (resT rfl) ar_nil) ?_
    exact ⟨_, rfl, g1, l1, S, rfl⟩

theorem digest_next_ok {g : Gh} {fr : Hl} {w : World} {r : Int} (s_ : Step_digest) (factor : Int) (S : St g [] fr w) (hm : digest_next s_ factor = some r) :
    Calls Try.prog 43 [.agg #[.int .i64 s_.e0, .int .i64 s_.e1], .int .i64 factor].toArray w (fun en w' => ∃ v, en = .returned v ∧ ∃ (g' : Gh), Le g g' ∧ St g' [] fr w' ∧ .int .i64 r = v) := by
  unfold digest_next at hm
  refine calls_enter (fn := Try.f43) Try.func43 rfl Try.ntmps43 (Nat.le_of_ble_eq_true rfl) ?_
  intro a F
  replace F : Fr 13 a [(0, .agg #[.int .i64 s_.e0, .int .i64 s_.e1]), (1, .int .i64 factor)] := F
  refine wp_seq ?_
  refine wp_region_lit ?_
  refine wl_boxC (wn rfl) rfl rfl rfl F S rfl rfl ?_; clear F a S; rintro b1 a w F S
  refine wl_ev (wn rfl) (ev_assign rfl) F S rfl rfl ?_; clear F a; intro a F
  refine wpList_nil ?_
  replace F := F.sub (e' := [(2, .pointer (some ⟨b1, 0, Option.none⟩)), (1, .int .i64 factor)]) ⟨rfl, rfl, trivial⟩
  refine then_n ?_
  refine wp_seq ?_
  refine wp_quiet mo (by kernel_rfl) S ?_
  refine wq_ev (wn rfl) (ev_idxBox tu78 ts3 (by decide) (off' := 0) rfl rfl rfl) F rfl rfl ?_; clear F a; intro a F
  refine wq_ev (wn rfl) (ev_load1 tu3 rfl rfl (box_ptr (cells := [.int .i64 s_.e0]) 0 rfl 0 rfl (Nat.le_of_ble_eq_true rfl))) F rfl rfl ?_; clear F a; intro a F
  refine wq_ev (wn rfl) (ev_move rfl) F rfl rfl ?_; clear F a; intro a F
  obtain ⟨y1, hy1, hm⟩ := bind_some hm
  refine wq_call (wn rfl) rfl (xs := [.tmp 6, .tmp 7]) (vs := [.int .i64 s_.e0, .int .i64 factor]) (cap := []) F rfl rfl tc50 (v := .int .i64 y1) (fun w S => (digest_mul_ok (g := g) (fr := (fl [[(b1, .cells #[.int .i64 s_.e0, .int .i64 s_.e1] 78 (0, 0))]] fr)) (w := w) s_.e0 factor S hy1).mono (by rintro en w' ⟨_, rfl, g2, l2, S2, rfl⟩; exact ⟨rfl, S2.weak l2⟩)) rfl rfl ?_; clear F a; intro a F
  refine wq_ev (wn rfl) (ev_idxBox tu78 ts3 (by decide) (off' := 1) rfl rfl rfl) F rfl rfl ?_; clear F a; intro a F
  refine wq_ev (wn rfl) (ev_load1 tu3 rfl rfl (box_ptr (cells := [.int .i64 s_.e1]) 0 rfl 1 rfl (Nat.le_of_ble_eq_true rfl))) F rfl rfl ?_; clear F a; intro a F
  obtain ⟨z1, hz1, hm⟩ := bind_some hm
  refine wq_ev (wn rfl) (ev_int rfl rfl (bo_add hz1)) F rfl rfl ?_; clear F a; intro a F
  obtain ⟨z2, hz2, hm⟩ := bind_some hm
  refine wq_ev (wn rfl) (ev_int rfl rfl (bo_rem hz2)) F rfl rfl ?_; clear F a; intro a F
  refine wq_ev (wn rfl) (ev_assign rfl) F rfl rfl ?_; clear F a; intro a F
  refine wq_nil ?_; clear S; intro w S
  replace F := F.sub (e' := [(4, .int .i64 z2)]) ⟨rfl, trivial⟩
  refine then_n ?_
  refine wp_ret ?_
  obtain rfl := Option.some.inj hm
  refine post_r (fn := Try.f43) (rs := [.tmp 4]) [.int .i64 z2] F rfl (ar_cons (resT rfl) ar_nil) ?_
  replace S : St g [] fr w := St.tail [] _ S
  exact ⟨_, rfl, g, (Le.refl _), S, rfl⟩

theorem digest_Of_ok {g : Gh} {fr : Hl} {w : World} {r : Int × Fault} (data : (List UInt8)) (vdata1 : Value) (hdata1 : RepSl g data vdata1) (S : St g [] fr w) (hm : digest_Of data = some r) :
    Calls Try.prog 34 [vdata1].toArray w (fun en w' => ∃ v, en = .returned v ∧ ∃ (g' : Gh), Le g g' ∧ St g' [] fr w' ∧ .tuple #[.int .i64 r.1, .agg #[.int .i64 r.2.Code, .int .i64 r.2.Index]] = v) := by
  unfold digest_Of at hm
  refine calls_enter (fn := Try.f34) Try.func34 rfl Try.ntmps34 (Nat.le_of_ble_eq_true rfl) ?_
  intro a F
  replace F : Fr 26 a [(0, vdata1)] := F
  refine wp_seq ?_
  refine wp_region_lit ?_
  refine wl_ev (wn rfl) (ev_assign rfl) F S rfl rfl ?_; clear F a; intro a F
  refine wl_alloc (wn rfl) rfl tz25 (cs := [.int .i64 0, .int .i64 0]) rfl F S rfl rfl ?_; clear F a S; rintro b1 a w F S
  refine wpList_nil ?_
  replace F := F.sub (e' := [(3, .pointer (some ⟨b1, 0, Option.none⟩)), (0, vdata1)]) ⟨rfl, rfl, trivial⟩
  refine then_n ?_
  refine wp_seq ?_
  refine wp_seq ?_
  refine wp_region_lit ?_
  refine wl_ev (wn rfl) (ev_move rfl) F S rfl rfl ?_; clear F a; intro a F
  refine wl_ev (wn rfl) (ev_lenSh hdata1 rfl tu64) F S rfl rfl ?_; clear F a; intro a F
  refine wl_ev (wn rfl) (ev_int rfl rfl (bo_gtr _ _ _ _)) F S rfl rfl ?_; clear F a; intro a F
  refine wpList_nil ?_
  replace F := F.sub (e' := [(9, .bool (decide ((data.length : Int) > 4096))), (3, .pointer (some ⟨b1, 0, Option.none⟩)), (0, vdata1)]) ⟨rfl, rfl, rfl, trivial⟩
  refine then_n ?_
  obtain ⟨hc1, hm⟩ | ⟨hc1, hm⟩ := ite_or hm
  · refine wp_condT F rfl hc1 ?_
    refine wp_seq ?_
    refine wp_region_lit ?_
    refine wl_ev (wn rfl) (ev_build (parts := [(0, .const (.int .i64 2))]) (vs := [(0, .int .i64 2)]) rfl (fun w => tb25_0 2 w)) F S rfl rfl ?_; clear F a; intro a F
    refine wl_ev (wn rfl) (ev_assign rfl) F S rfl rfl ?_; clear F a; intro a F
    refine wl_storeC (wn rfl) rfl F S rfl rfl (vs := [.int .i64 2, .int .i64 0]) rfl ts25 (one_cons rfl (one_cons rfl one_nil)) (k := 0) rfl (Nat.le_of_ble_eq_true rfl) (c' := #[.int .i64 2, .int .i64 0]) rfl rfl ?_; clear S; intro w S
    replace S : St g [[(b1, .cells #[.int .i64 2, .int .i64 0] 25 (0, 0))]] fr w := S
    refine wpList_nil ?_
    replace F := F.sub (e' := [(2, .int .i64 0), (3, .pointer (some ⟨b1, 0, Option.none⟩))]) ⟨rfl, rfl, trivial⟩
    refine then_n ?_
    refine wp_ret ?_
    refine then_r ?_
    obtain rfl := Option.some.inj hm
    refine post_r (fn := Try.f34) (rs := [.tmp 2, .cell 3 25]) [.int .i64 0, .agg #[.int .i64 2, .int .i64 0]] F rfl (ar_cons (resT rfl) (ar_cons (resA rfl tu25 rfl ts25 (box_ptr (cells := [.int .i64 2, .int .i64 0]) 0 rfl 0 rfl (Nat.le_of_ble_eq_true rfl) w S)) ar_nil)) ?_
    replace S : St g [] fr w := St.tail [] _ S
    exact ⟨_, rfl, g, (Le.refl _), S, rfl⟩
  · refine wp_condF F rfl hc1 ?_
    refine wp_skip ?_
    refine then_n ?_
    refine wp_seq ?_
    refine wp_region_lit ?_
    refine wl_ev (wn rfl) (ev_assign rfl) F S rfl rfl ?_; clear F a; intro a F
    refine wpList_nil ?_
    replace F := F.sub (e' := [(4, .int .i64 1), (3, .pointer (some ⟨b1, 0, Option.none⟩)), (0, vdata1)]) ⟨rfl, rfl, rfl, trivial⟩
    refine then_n ?_
    refine wp_cut (fun a w => ∃ (x1 : Int) (g1 : Gh), Fr 26 a [(4, .int .i64 x1), (3, .pointer (some ⟨b1, 0, Option.none⟩))] ∧ Le g g1 ∧ St g1 [[(b1, .cells #[.int .i64 0, .int .i64 0] 25 (0, 0))]] fr w ∧ digest_Of.j1 x1 = some r) ?_ ?_
    · refine wp_seq ?_
      refine wp_region_lit ?_
      refine wl_ev (wn rfl) (ev_move rfl) F S rfl rfl ?_; clear F a; intro a F
      refine wl_ev (wn rfl) (ev_lenSh hdata1 rfl tu64) F S rfl rfl ?_; clear F a; intro a F
      refine wl_ev (wn rfl) (ev_move rfl) F S rfl rfl ?_; clear F a; intro a F
      refine wpList_nil ?_
      replace F := F.sub (e' := [(13, .int .i64 0), (12, .int .i64 (data.length : Int)), (11, vdata1), (4, .int .i64 1), (3, .pointer (some ⟨b1, 0, Option.none⟩))]) ⟨rfl, rfl, rfl, rfl, rfl, trivial⟩
      refine then_n ?_
      refine wp_block ?_
      obtain ⟨r1, hr1, hm⟩ := bind_some hm
      have hmo1 := hm; clear hm
      refine wp_iter (σ := Int × Int) (ρ := Int) (m := fun s => digest_Of.l1 data s.1 s.2) (I := fun s a w => match s with | (x2, x3) => ∃ (g2 : Gh), Fr 26 a [(13, .int .i64 x2), (12, .int .i64 (data.length : Int)), (11, vdata1), (4, .int .i64 x3), (3, .pointer (some ⟨b1, 0, Option.none⟩))] ∧ Le g g2 ∧ St g2 [[(b1, .cells #[.int .i64 0, .int .i64 0] 25 (0, 0))]] fr w) hr1 ?_ ?_
      · dsimp only
        exact ⟨g, F.sub ⟨rfl, rfl, rfl, rfl, rfl, trivial⟩, (Le.refl _), S⟩
      · clear F S; rintro ⟨x2, x3⟩ a w x4 ⟨g2, F, l2, S⟩ hx1 hfin1
        have hm : digest_Of.l1 data x2 x3 = some x4 := hx1; clear hx1
        unfold digest_Of.l1 at hm
        refine wp_seq ?_
        refine wp_region_lit ?_
        refine wl_ev (wn rfl) (ev_int rfl rfl (bo_lss _ _ _ _)) F S rfl rfl ?_; clear F a; intro a F
        refine wpList_nil ?_
        refine then_n ?_
        refine wp_seq ?_
        obtain ⟨hc2, hm⟩ | ⟨hc2, hm⟩ := ite_or hm
        · refine wp_condT F rfl hc2 ?_
          refine wp_skip ?_
          refine then_n ?_
          refine wp_seq ?_
          refine wp_block ?_
          refine wp_seq ?_
          refine wp_region_lit ?_
          obtain ⟨y1, hy1, hm⟩ := bind_some hm
          obtain ⟨cs1, hr2, hp1⟩ := elemS (hdata1.mono l2) hy1
          obtain rfl := rep_u8 hr2
          refine wl_ev (wn rfl) (ev_idxS (hdata1.mono l2) hy1 tu64 ts5 rfl rfl) F S rfl rfl ?_; clear F a; intro a F
          refine wl_ev (wn rfl) (ev_load1 tu5 rfl rfl (ptr_mono (cks := [[(b1, .cells #[.int .i64 0, .int .i64 0] 25 (0, 0))]]) (fr := fr) hp1 (Le.refl _))) F S rfl rfl ?_; clear F a; intro a F
          refine wl_ev (wn rfl) (ev_assign rfl) F S rfl rfl ?_; clear F a; intro a F
          refine wpList_nil ?_
          replace F := F.sub (e' := [(6, .int .u8 (y1.toNat : Int)), (13, .int .i64 x2), (12, .int .i64 (data.length : Int)), (11, vdata1), (4, .int .i64 x3), (3, .pointer (some ⟨b1, 0, Option.none⟩))]) ⟨rfl, rfl, rfl, rfl, rfl, rfl, trivial⟩
          refine then_n ?_
          refine wp_region_lit ?_
          refine wl_ev (wn rfl) (ev_move rfl) F S rfl rfl ?_; clear F a; intro a F
          refine wl_ev (wn rfl) (ev_move rfl) F S rfl rfl ?_; clear F a; intro a F
          obtain ⟨z1, hz1, hm⟩ := bind_some hm
          refine wl_ev (wn rfl) (ev_conv hz1 tu5 tu3 rfl) F S rfl rfl ?_; clear F a; intro a F
          obtain ⟨z2, hz2, hm⟩ := bind_some hm
          refine wl_ev (wn rfl) (ev_int rfl rfl (bo_add hz2)) F S rfl rfl ?_; clear F a; intro a F
          refine wl_ev (wn rfl) (ev_build (parts := [(0, .tmp 17), (1, .tmp 20)]) (vs := [(0, .int .i64 x3), (1, .int .i64 z2)]) rfl (fun w => tb78_0_1 x3 z2 w)) F S rfl rfl ?_; clear F a; intro a F
          obtain ⟨y2, hy2, hm⟩ := bind_some hm
          refine wl_call (wn rfl) rfl (xs := [.tmp 21, .const (.int .i64 257)]) (vs := [.agg #[.int .i64 x3, .int .i64 z2], .int .i64 257]) (cap := []) F rfl rfl tc43 (digest_next_ok (g := g2) (fr := (fl [[(b1, .cells #[.int .i64 0, .int .i64 0] 25 (0, 0))]] fr)) (w := w) ({ e0 := x3, e1 := z2 } : Step_digest) 257 S hy2) rfl rfl ?_; clear F a S
          rintro _ a w ⟨g3, l3, S, rfl⟩ F; replace S : St g3 [[(b1, .cells #[.int .i64 0, .int .i64 0] 25 (0, 0))]] fr w := S
          refine wl_ev (wn rfl) (ev_assign rfl) F S rfl rfl ?_; clear F a; intro a F
          refine wpList_nil ?_
          replace F := F.sub (e' := [(4, .int .i64 y2), (13, .int .i64 x2), (12, .int .i64 (data.length : Int)), (11, vdata1), (3, .pointer (some ⟨b1, 0, Option.none⟩))]) ⟨rfl, rfl, rfl, rfl, rfl, trivial⟩
          refine inb_n ?_
          refine then_n ?_
          refine wp_region_lit ?_
          obtain ⟨z3, hz3, hm⟩ := bind_some hm
          refine wl_ev (wn rfl) (ev_int rfl rfl (bo_add hz3)) F S rfl rfl ?_; clear F a; intro a F
          refine wl_ev (wn rfl) (ev_move rfl) F S rfl rfl ?_; clear F a; intro a F
          refine wpList_nil ?_
          replace F := F.sub (e' := [(13, .int .i64 z3), (4, .int .i64 y2), (12, .int .i64 (data.length : Int)), (11, vdata1), (3, .pointer (some ⟨b1, 0, Option.none⟩))]) ⟨rfl, rfl, rfl, rfl, rfl, trivial⟩
          refine then_n ?_
          obtain rfl := Option.some.inj hm
          refine ⟨_, rfl, ?_⟩
          dsimp only
          exact ⟨g3, F.sub ⟨rfl, rfl, rfl, rfl, rfl, trivial⟩, (l2.trans l3), S⟩
        · refine wp_condF F rfl hc2 ?_
          refine wp_exit ?_
          refine then_e ?_
          refine then_e ?_
          refine inb_x ?_
          refine then_n ?_
          obtain rfl := Option.some.inj hm
          obtain rfl := hfin1 _ rfl
          clear hm
          have hm : (digest_Of.j1 x3 : Option (Int × Fault)) = some _ := hmo1
          exact ⟨x3, g2, F.sub ⟨rfl, rfl, trivial⟩, l2, S, hm⟩
    · clear F S hm; rintro a w ⟨x1, g1, F, l1, S, hm⟩
      refine wp_seq ?_
      refine wp_region_lit ?_
      refine wl_ev (wn rfl) (ev_move rfl) F S rfl rfl ?_; clear F a; intro a F
      refine wl_ev (wn rfl) (ev_build (parts := []) (vs := []) rfl (fun w => tb25_  w)) F S rfl rfl ?_; clear F a; intro a F
      refine wl_ev (wn rfl) (ev_assign rfl) F S rfl rfl ?_; clear F a; intro a F
      refine wl_storeC (wn rfl) rfl F S rfl rfl (vs := [.int .i64 0, .int .i64 0]) rfl ts25 (one_cons rfl (one_cons rfl one_nil)) (k := 0) rfl (Nat.le_of_ble_eq_true rfl) (c' := #[.int .i64 0, .int .i64 0]) rfl rfl ?_; clear S; intro w S
      replace S : St g1 [[(b1, .cells #[.int .i64 0, .int .i64 0] 25 (0, 0))]] fr w := S
      refine wpList_nil ?_
      replace F := F.sub (e' := [(2, .int .i64 x1), (3, .pointer (some ⟨b1, 0, Option.none⟩))]) ⟨rfl, rfl, trivial⟩
      refine then_n ?_
      refine wp_ret ?_
      obtain rfl := Option.some.inj hm
      refine post_r (fn := Try.f34) (rs := [.tmp 2, .cell 3 25]) [.int .i64 x1, .agg #[.int .i64 0, .int .i64 0]] F rfl (ar_cons (resT rfl) (ar_cons (resA rfl tu25 rfl ts25 (box_ptr (cells := [.int .i64 0, .int .i64 0]) 0 rfl 0 rfl (Nat.le_of_ble_eq_true rfl) w S)) ar_nil)) ?_
      replace S : St g1 [] fr w := St.tail [] _ S
      exact ⟨_, rfl, g1, l1, S, rfl⟩

theorem digest_is_ok {g : Gh} {fr : Hl} {w : World} {r : Bool} (a_ : Int) (S : St g [] fr w) (hm : digest_is a_ = some r) :
    Calls Try.prog 44 [.int .i64 a_].toArray w (fun en w' => ∃ v, en = .returned v ∧ ∃ (g' : Gh), Le g g' ∧ St g' [] fr w' ∧ .bool r = v) := by
  unfold digest_is at hm
  refine calls_enter (fn := Try.f44) Try.func44 rfl Try.ntmps44 (Nat.le_of_ble_eq_true rfl) ?_
  intro a F
  replace F : Fr 9 a [(0, .int .i64 a_)] := F
  refine wp_seq ?_
  refine wp_region_lit ?_
  refine wl_ev (wn rfl) (ev_assign rfl) F S rfl rfl ?_; clear F a; intro a F
  refine wpList_nil ?_
  replace F := F.sub (e' := [(0, .int .i64 a_)]) ⟨rfl, trivial⟩
  refine then_n ?_
  refine wp_seq ?_
  refine wp_region_lit ?_
  refine wl_ev (wn rfl) (ev_move rfl) F S rfl rfl ?_; clear F a; intro a F
  refine wl_ev (wn rfl) (ev_int rfl rfl (bo_geq _ _ _ _)) F S rfl rfl ?_; clear F a; intro a F
  refine wl_ev (wn rfl) (ev_move rfl) F S rfl rfl ?_; clear F a; intro a F
  obtain ⟨x1, hx1, hm⟩ := bind_some hm
  refine wl_cut 3 (fun a w' => w = w' ∧ Fr 9 a [(8, .bool x1)]) ?_ ?_
  · clear hm; obtain ⟨hc1, hm⟩ | ⟨hc1, hm⟩ := ite_or hx1
    · refine wl_ev (wg F rfl rfl rfl rfl hc1) (ev_move rfl) F S rfl rfl ?_; clear F a; intro a F
      refine wl_ev (wg F rfl rfl rfl rfl hc1) (ev_int rfl rfl (bo_lss _ _ _ _)) F S rfl rfl ?_; clear F a; intro a F
      refine wl_ev (wn rfl) (ev_pickT rfl hc1 rfl) F S rfl rfl ?_; clear F a; intro a F
      obtain rfl := Option.some.inj hm
      refine wpList_nil (then_n ?_); exact ⟨rfl, F.sub ⟨rfl, trivial⟩⟩
    · refine wl_skip rfl rfl rfl rfl (ne_tf hc1) F rfl rfl ?_; clear F a; intro a F
      refine wl_skip rfl rfl rfl rfl (ne_tf hc1) F rfl rfl ?_; clear F a; intro a F
      refine wl_ev (wn rfl) (ev_pickF rfl hc1 rfl) F S rfl rfl ?_; clear F a; intro a F
      obtain rfl := Option.some.inj hm
      refine wpList_nil (then_n ?_); exact ⟨rfl, F.sub ⟨rfl, trivial⟩⟩
  clear F; rintro a w' ⟨rfl, F⟩
  refine wl_ev (wn rfl) (ev_assign rfl) F S rfl rfl ?_; clear F a; intro a F
  refine wpList_nil ?_
  replace F := F.sub (e' := [(2, .bool x1)]) ⟨rfl, trivial⟩
  refine then_n ?_
  refine wp_ret ?_
  obtain rfl := Option.some.inj hm
  refine post_r (fn := Try.f44) (rs := [.tmp 2]) [.bool x1] F rfl (ar_cons (resT rfl) ar_nil) ?_
  exact ⟨_, rfl, g, (Le.refl _), S, rfl⟩

theorem digest_pair_ok {g : Gh} {fr : Hl} {w : World} {r : Int} (a_ : Int) (b_ : Int) (S : St g [] fr w) (hm : digest_pair a_ b_ = some r) :
    Calls Try.prog 45 [.int .i64 a_, .int .i64 b_].toArray w (fun en w' => ∃ v, en = .returned v ∧ ∃ (g' : Gh), Le g g' ∧ St g' [] fr w' ∧ .int .i64 r = v) := by
  unfold digest_pair at hm
  refine calls_enter (fn := Try.f45) Try.func45 rfl Try.ntmps45 (Nat.le_of_ble_eq_true rfl) ?_
  intro a F
  replace F : Fr 11 a [(0, .int .i64 a_), (1, .int .i64 b_)] := F
  refine wp_seq ?_
  refine wp_region_lit ?_
  refine wl_ev (wn rfl) (ev_assign rfl) F S rfl rfl ?_; clear F a; intro a F
  refine wpList_nil ?_
  replace F := F.sub (e' := [(0, .int .i64 a_), (1, .int .i64 b_)]) ⟨rfl, rfl, trivial⟩
  refine then_n ?_
  refine wp_seq ?_
  refine wp_region_lit ?_
  refine wl_ev (wn rfl) (ev_move rfl) F S rfl rfl ?_; clear F a; intro a F
  refine wl_ev (wn rfl) (ev_move rfl) F S rfl rfl ?_; clear F a; intro a F
  refine wl_ev (wn rfl) (ev_build (parts := [(0, .tmp 6), (1, .const (.int .i64 7))]) (vs := [(0, .int .i64 b_), (1, .int .i64 7)]) rfl (fun w => tb78_0_1 b_ 7 w)) F S rfl rfl ?_; clear F a; intro a F
  obtain ⟨y1, hy1, hm⟩ := bind_some hm
  refine wl_call (wn rfl) rfl (xs := [.tmp 7, .const (.int .i64 31)]) (vs := [.agg #[.int .i64 b_, .int .i64 7], .int .i64 31]) (cap := []) F rfl rfl tc43 (digest_next_ok (g := g) (fr := fr) (w := w) ({ e0 := b_, e1 := 7 } : Step_digest) 31 S hy1) rfl rfl ?_; clear F a S
  rintro _ a w ⟨g1, l1, S, rfl⟩ F; replace S : St g1 [] fr w := S
  refine wl_ev (wn rfl) (ev_build (parts := [(0, .tmp 5), (1, .tmp 8)]) (vs := [(0, .int .i64 a_), (1, .int .i64 y1)]) rfl (fun w => tb78_0_1 a_ y1 w)) F S rfl rfl ?_; clear F a; intro a F
  obtain ⟨y2, hy2, hm⟩ := bind_some hm
  refine wl_call (wn rfl) rfl (xs := [.tmp 9, .const (.int .i64 1000003)]) (vs := [.agg #[.int .i64 a_, .int .i64 y1], .int .i64 1000003]) (cap := []) F rfl rfl tc43 (digest_next_ok (g := g1) (fr := fr) (w := w) ({ e0 := a_, e1 := y1 } : Step_digest) 1000003 S hy2) rfl rfl ?_; clear F a S
  rintro _ a w ⟨g2, l2, S, rfl⟩ F; replace S : St g2 [] fr w := S
  refine wl_ev (wn rfl) (ev_assign rfl) F S rfl rfl ?_; clear F a; intro a F
  refine wpList_nil ?_
  replace F := F.sub (e' := [(4, .int .i64 y2)]) ⟨rfl, trivial⟩
  refine then_n ?_
  refine wp_ret ?_
  obtain rfl := Option.some.inj hm
  refine post_r (fn := Try.f45) (rs := [.tmp 4]) [.int .i64 y2] F rfl (ar_cons (resT rfl) ar_nil) ?_
  exact ⟨_, rfl, g2, (l1.trans l2), S, rfl⟩
end Go.Dc
