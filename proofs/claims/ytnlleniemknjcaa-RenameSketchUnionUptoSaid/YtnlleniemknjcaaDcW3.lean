/- Walks: each function comes to what its model says. -/
import Derived.Test.YtnlleniemknjcaaDcTab
import Derived.Test.YtnlleniemknjcaaDcM
import Derived.Test.YtnlleniemknjcaaDcW2
namespace Go.Dc
open Go Go.Proofs
set_option maxRecDepth 100000
set_option linter.unusedVariables false
theorem changeforgelaw2_follows_ok {g : Gh} {fr : Hl} {w : World} {r : Bool} (l_ : (List ByteArray)) (vl_1 : Value) (hl_1 : RepSl g l_ vl_1) (m_ : (List ByteArray)) (vm_1 : Value) (hm_1 : RepSl g m_ vm_1) (S : St g [] fr w) (hm : changeforgelaw2_follows l_ m_ = some r) :
    Calls Try.prog 16 [vl_1, vm_1].toArray w (fun en w' => ∃ v, en = .returned v ∧ ∃ (g' : Gh), Le g g' ∧ St g' [] fr w' ∧ .bool r = v) := by
  unfold changeforgelaw2_follows at hm
  refine calls_enter (fn := Try.f16) Try.func16 rfl Try.ntmps16 (Nat.le_of_ble_eq_true rfl) ?_
  intro a F
  replace F : Fr 34 a [(0, vl_1), (1, vm_1)] := F
  refine wp_seq ?_
  refine wp_region_lit ?_
  refine wl_ev (wn rfl) (ev_assign rfl) F S rfl rfl ?_; clear F a; intro a F
  refine wpList_nil ?_
  replace F := F.sub (e' := [(0, vl_1), (1, vm_1)]) ⟨rfl, rfl, trivial⟩
  refine then_n ?_
  refine wp_seq ?_
  refine wp_region_lit ?_
  refine wl_ev (wn rfl) (ev_assign rfl) F S rfl rfl ?_; clear F a; intro a F
  refine wpList_nil ?_
  refine then_n ?_
  refine wp_cut (fun a w => ∃ (x1 : Int) (g1 : Gh), Fr 34 a [(5, .int .i64 x1), (0, vl_1)] ∧ Le g g1 ∧ St g1 [] fr w ∧ changeforgelaw2_follows.j1 l_ x1 = some r) ?_ ?_
  · refine wp_seq ?_
    refine wp_region_lit ?_
    refine wl_ev (wn rfl) (ev_assign rfl) F S rfl rfl ?_; clear F a; intro a F
    refine wpList_nil ?_
    refine then_n ?_
    refine wp_block ?_
    obtain ⟨r1, hr1, hm⟩ := bind_some hm
    have hmo1 := hm; clear hm
    refine wp_iter (σ := Int × Int) (ρ := Int) (m := fun s => changeforgelaw2_follows.l1 l_ m_ s.1 s.2) (I := fun s a w => match s with | (x2, x3) => ∃ (g2 : Gh), Fr 34 a [(6, .int .i64 x2), (5, .int .i64 x3), (0, vl_1), (1, vm_1)] ∧ Le g g2 ∧ St g2 [] fr w) hr1 ?_ ?_
    · dsimp only
      exact ⟨g, F.sub ⟨rfl, rfl, rfl, rfl, trivial⟩, (Le.refl _), S⟩
    · clear F S; rintro ⟨x2, x3⟩ a w x4 ⟨g2, F, l2, S⟩ hx1 hfin1
      have hm : changeforgelaw2_follows.l1 l_ m_ x2 x3 = some x4 := hx1; clear hx1
      unfold changeforgelaw2_follows.l1 at hm
      refine wp_seq ?_
      refine wp_seq ?_
      refine wp_region_lit ?_
      refine wl_ev (wn rfl) (ev_move rfl) F S rfl rfl ?_; clear F a; intro a F
      refine wl_ev (wn rfl) (ev_move rfl) F S rfl rfl ?_; clear F a; intro a F
      refine wl_ev (wn rfl) (ev_lenSh hm_1 rfl tu31) F S rfl rfl ?_; clear F a; intro a F
      refine wl_ev (wn rfl) (ev_int rfl rfl (bo_lss _ _ _ _)) F S rfl rfl ?_; clear F a; intro a F
      refine wl_ev (wn rfl) (ev_move rfl) F S rfl rfl ?_; clear F a; intro a F
      obtain ⟨x5, hx2, hm⟩ := bind_some hm
      refine wl_cut 5 (fun a w' => w = w' ∧ Fr 34 a [(16, .bool x5), (6, .int .i64 x2), (5, .int .i64 x3), (0, vl_1), (1, vm_1)]) ?_ ?_
      · clear hm; obtain ⟨hc1, hm⟩ | ⟨hc1, hm⟩ := ite_or hx2
        · refine wl_ev (wg F rfl rfl rfl rfl hc1) (ev_move rfl) F S rfl rfl ?_; clear F a; intro a F
          refine wl_ev (wg F rfl rfl rfl rfl hc1) (ev_move rfl) F S rfl rfl ?_; clear F a; intro a F
          refine wl_ev (wg F rfl rfl rfl rfl hc1) (ev_lenSh hl_1 rfl tu31) F S rfl rfl ?_; clear F a; intro a F
          refine wl_ev (wg F rfl rfl rfl rfl hc1) (ev_int rfl rfl (bo_lss _ _ _ _)) F S rfl rfl ?_; clear F a; intro a F
          refine wl_ev (wn rfl) (ev_pickT rfl hc1 rfl) F S rfl rfl ?_; clear F a; intro a F
          obtain rfl := Option.some.inj hm
          refine wpList_nil (then_n ?_); exact ⟨rfl, F.sub ⟨rfl, rfl, rfl, rfl, rfl, trivial⟩⟩
        · refine wl_skip rfl rfl rfl rfl (ne_tf hc1) F rfl rfl ?_; clear F a; intro a F
          refine wl_skip rfl rfl rfl rfl (ne_tf hc1) F rfl rfl ?_; clear F a; intro a F
          refine wl_skip rfl rfl rfl rfl (ne_tf hc1) F rfl rfl ?_; clear F a; intro a F
          refine wl_skip rfl rfl rfl rfl (ne_tf hc1) F rfl rfl ?_; clear F a; intro a F
          refine wl_ev (wn rfl) (ev_pickF rfl hc1 rfl) F S rfl rfl ?_; clear F a; intro a F
          obtain rfl := Option.some.inj hm
          refine wpList_nil (then_n ?_); exact ⟨rfl, F.sub ⟨rfl, rfl, rfl, rfl, rfl, trivial⟩⟩
      clear F; rintro a w' ⟨rfl, F⟩
      refine wpList_nil ?_
      refine then_n ?_
      obtain ⟨hc2, hm⟩ | ⟨hc2, hm⟩ := ite_or hm
      · refine wp_condT F rfl hc2 ?_
        refine wp_skip ?_
        refine then_n ?_
        refine wp_cut (fun a w => ∃ (x6 : Int) (g3 : Gh), Fr 34 a [(5, .int .i64 x6), (6, .int .i64 x2), (0, vl_1), (1, vm_1)] ∧ Le g2 g3 ∧ St g3 [] fr w ∧ changeforgelaw2_follows.j2 x2 x6 = some x4) ?_ ?_
        · refine wp_block ?_
          refine wp_seq ?_
          refine wp_quiet mo (by kernel_rfl) S ?_
          refine wq_ev (wn rfl) (ev_move rfl) F rfl rfl ?_; clear F a; intro a F
          refine wq_ev (wn rfl) (ev_move rfl) F rfl rfl ?_; clear F a; intro a F
          obtain ⟨y1, hy1, hm⟩ := bind_some hm
          obtain ⟨cs1, hr2, hp1⟩ := elemS (hm_1.mono l2) hy1
          obtain rfl := rep_str hr2
          refine wq_ev (wn rfl) (ev_idxS (hm_1.mono l2) hy1 tu31 ts9 rfl rfl) F rfl rfl ?_; clear F a; intro a F
          refine wq_ev (wn rfl) (ev_load1 tu9 rfl rfl (ptr_mono (cks := []) (fr := fr) hp1 (Le.refl _))) F rfl rfl ?_; clear F a; intro a F
          refine wq_ev (wn rfl) (ev_move rfl) F rfl rfl ?_; clear F a; intro a F
          refine wq_ev (wn rfl) (ev_move rfl) F rfl rfl ?_; clear F a; intro a F
          obtain ⟨y2, hy2, hm⟩ := bind_some hm
          obtain ⟨cs2, hr3, hp2⟩ := elemS (hl_1.mono l2) hy2
          obtain rfl := rep_str hr3
          refine wq_ev (wn rfl) (ev_idxS (hl_1.mono l2) hy2 tu31 ts9 rfl rfl) F rfl rfl ?_; clear F a; intro a F
          refine wq_ev (wn rfl) (ev_load1 tu9 rfl rfl (ptr_mono (cks := []) (fr := fr) hp2 (Le.refl _))) F rfl rfl ?_; clear F a; intro a F
          refine wq_ev (wn rfl) (ev_str rfl rfl (bs_eql _ _ _)) F rfl rfl ?_; clear F a; intro a F
          refine wq_nil ?_; clear S; intro w S
          replace F := F.sub (e' := [(27, .bool (decide (y1 = y2))), (6, .int .i64 x2), (5, .int .i64 x3), (0, vl_1), (1, vm_1)]) ⟨rfl, rfl, rfl, rfl, rfl, trivial⟩
          refine then_n ?_
          obtain ⟨hc3, hm⟩ | ⟨hc3, hm⟩ := ite_or hm
          · refine wp_condT F rfl hc3 ?_
            refine wp_region_lit ?_
            refine wl_ev (wn rfl) (ev_move rfl) F S rfl rfl ?_; clear F a; intro a F
            obtain ⟨z2, hz2, hm⟩ := bind_some hm
            refine wl_ev (wn rfl) (ev_int rfl rfl (bo_add hz2)) F S rfl rfl ?_; clear F a; intro a F
            refine wl_ev (wn rfl) (ev_assign rfl) F S rfl rfl ?_; clear F a; intro a F
            refine wpList_nil ?_
            replace F := F.sub (e' := [(5, .int .i64 z2), (6, .int .i64 x2), (0, vl_1), (1, vm_1)]) ⟨rfl, rfl, rfl, rfl, trivial⟩
            refine inb_n ?_
            refine then_n ?_
            exact ⟨z2, g2, F.sub ⟨rfl, rfl, rfl, rfl, trivial⟩, (Le.refl _), S, hm⟩
          · refine wp_condF F rfl hc3 ?_
            refine wp_skip ?_
            refine inb_n ?_
            refine then_n ?_
            exact ⟨x3, g2, F.sub ⟨rfl, rfl, rfl, rfl, trivial⟩, (Le.refl _), S, hm⟩
        · clear F S hm; rintro a w ⟨x6, g3, F, l3, S, hm⟩
          refine wp_region_lit ?_
          refine wl_ev (wn rfl) (ev_move rfl) F S rfl rfl ?_; clear F a; intro a F
          obtain ⟨z1, hz1, hm⟩ := bind_some hm
          refine wl_ev (wn rfl) (ev_int rfl rfl (bo_add hz1)) F S rfl rfl ?_; clear F a; intro a F
          refine wl_ev (wn rfl) (ev_assign rfl) F S rfl rfl ?_; clear F a; intro a F
          refine wpList_nil ?_
          replace F := F.sub (e' := [(6, .int .i64 z1), (5, .int .i64 x6), (0, vl_1), (1, vm_1)]) ⟨rfl, rfl, rfl, rfl, trivial⟩
          refine then_n ?_
          obtain rfl := Option.some.inj hm
          refine ⟨_, rfl, ?_⟩
          dsimp only
          exact ⟨g3, F.sub ⟨rfl, rfl, rfl, rfl, trivial⟩, (l2.trans l3), S⟩
      · refine wp_condF F rfl hc2 ?_
        refine wp_exit ?_
        refine then_e ?_
        refine then_e ?_
        refine inb_x ?_
        refine then_n ?_
        obtain rfl := Option.some.inj hm
        obtain rfl := hfin1 _ rfl
        clear hm
        have hm : (changeforgelaw2_follows.j1 l_ x3 : Option Bool) = some _ := hmo1
        exact ⟨x3, g2, F.sub ⟨rfl, rfl, trivial⟩, l2, S, hm⟩
  · clear F S hm; rintro a w ⟨x1, g1, F, l1, S, hm⟩
    refine wp_seq ?_
    refine wp_region_lit ?_
    refine wl_ev (wn rfl) (ev_move rfl) F S rfl rfl ?_; clear F a; intro a F
    refine wl_ev (wn rfl) (ev_move rfl) F S rfl rfl ?_; clear F a; intro a F
    refine wl_ev (wn rfl) (ev_lenSh hl_1 rfl tu31) F S rfl rfl ?_; clear F a; intro a F
    refine wl_ev (wn rfl) (ev_int rfl rfl (bo_eql _ _ _ _)) F S rfl rfl ?_; clear F a; intro a F
    refine wl_ev (wn rfl) (ev_assign rfl) F S rfl rfl ?_; clear F a; intro a F
    refine wpList_nil ?_
    replace F := F.sub (e' := [(4, .bool (decide (x1 = (l_.length : Int))))]) ⟨rfl, trivial⟩
    refine then_n ?_
    refine wp_ret ?_
    obtain rfl := Option.some.inj hm
    refine post_r (fn := Try.f16) (rs := [.tmp 4]) [.bool (decide (x1 = (l_.length : Int)))] F rfl (ar_cons (resT rfl) ar_nil) ?_
    exact ⟨_, rfl, g1, l1, S, rfl⟩

theorem changeforgelaw2_BlameOrigins_ok {g : Gh} {fr : Hl} {w : World} {r : Bool} (versions : (List (List ByteArray))) (vversions1 : Value) (hversions1 : RepSl g versions vversions1) (S : St g [] fr w) (hm : changeforgelaw2_BlameOrigins versions = some r) :
    Calls Try.prog 4 [vversions1].toArray w (fun en w' => ∃ v, en = .returned v ∧ ∃ (g' : Gh), Le g g' ∧ St g' [] fr w' ∧ .bool r = v) := by
  unfold changeforgelaw2_BlameOrigins at hm
  refine calls_enter (fn := Try.f4) Try.func4 rfl Try.ntmps4 (Nat.le_of_ble_eq_true rfl) ?_
  intro a F
  replace F : Fr 75 a [(0, vversions1)] := F
  refine wp_seq ?_
  refine wp_region_lit ?_
  refine wl_ev (wn rfl) (ev_assign rfl) F S rfl rfl ?_; clear F a; intro a F
  refine wpList_nil ?_
  replace F := F.sub (e' := [(0, vversions1)]) ⟨rfl, trivial⟩
  refine then_n ?_
  refine wp_seq ?_
  refine wp_region_lit ?_
  refine wl_ev (wn rfl) (ev_move rfl) F S rfl rfl ?_; clear F a; intro a F
  obtain ⟨y1, hy1, hm⟩ := bind_some hm
  refine wl_call (wn rfl) rfl (xs := [.tmp 9]) (vs := [vversions1]) (cap := []) F rfl rfl tc10 (blame_Annotate_ok (g := g) (fr := fr) (w := w) versions vversions1 hversions1 S hy1) rfl rfl ?_; clear F a S
  rintro _ a w ⟨g1, v1, l1, S, h1, rfl⟩ F; replace S : St g1 [] fr w := S
  refine wl_ev (wn rfl) (ev_move rfl) F S rfl rfl ?_; clear F a; intro a F
  refine wl_ev (wn rfl) (ev_extract (vs := [v1, .agg #[.int .i64 y1.2.Code, .int .i64 y1.2.Index]]) rfl rfl) F S rfl rfl ?_; clear F a; intro a F
  refine wl_ev (wn rfl) (ev_extract (vs := [v1, .agg #[.int .i64 y1.2.Code, .int .i64 y1.2.Index]]) rfl rfl) F S rfl rfl ?_; clear F a; intro a F
  refine wl_alloc (wn rfl) rfl tz25 (cs := [.int .i64 0, .int .i64 0]) rfl F S rfl rfl ?_; clear F a S; rintro b1 a w F S
  refine wl_ev (wn rfl) (ev_assign rfl) F S rfl rfl ?_; clear F a; intro a F
  refine wl_storeC (wn rfl) rfl F S rfl rfl (vs := [.int .i64 y1.2.Code, .int .i64 y1.2.Index]) rfl ts25 (one_cons rfl (one_cons rfl one_nil)) (k := 0) rfl (Nat.le_of_ble_eq_true rfl) (c' := #[.int .i64 y1.2.Code, .int .i64 y1.2.Index]) rfl rfl ?_; clear S; intro w S
  replace S : St g1 [[(b1, .cells #[.int .i64 y1.2.Code, .int .i64 y1.2.Index] 25 (0, 0))]] fr w := S
  refine wpList_nil ?_
  replace F := F.sub (e' := [(3, v1), (4, .pointer (some ⟨b1, 0, Option.none⟩)), (0, vversions1)]) ⟨rfl, rfl, rfl, trivial⟩
  refine then_n ?_
  refine wp_seq ?_
  refine wp_seq ?_
  refine wp_region_lit ?_
  refine wl_ev (wn rfl) (ev_fieldAddr' tu25 tf25_0 (z := 0) ts3 rfl ⟨_, rfl⟩ rfl) F S rfl rfl ?_; clear F a; intro a F
  refine wl_ev (wn rfl) (ev_load1 tu3 rfl rfl (box_ptr (cells := [.int .i64 y1.2.Code]) 0 rfl 0 rfl (Nat.le_of_ble_eq_true rfl))) F S rfl rfl ?_; clear F a; intro a F
  refine wl_ev (wn rfl) (ev_int rfl rfl (bo_neq _ _ _ _)) F S rfl rfl ?_; clear F a; intro a F
  refine wl_ev (wn rfl) (ev_move rfl) F S rfl rfl ?_; clear F a; intro a F
  obtain ⟨x1, hx1, hm⟩ := bind_some hm
  refine wl_cut 4 (fun a w' => w = w' ∧ Fr 75 a [(20, .bool x1), (3, v1), (0, vversions1)]) ?_ ?_
  · clear hm; obtain ⟨hc1, hm⟩ | ⟨hc1, hm⟩ := ite_or hx1
    · refine wl_skip rfl rfl rfl rfl (ne_ft hc1) F rfl rfl ?_; clear F a; intro a F
      refine wl_skip rfl rfl rfl rfl (ne_ft hc1) F rfl rfl ?_; clear F a; intro a F
      refine wl_skip rfl rfl rfl rfl (ne_ft hc1) F rfl rfl ?_; clear F a; intro a F
      refine wl_ev (wn rfl) (ev_pickT rfl hc1 rfl) F S rfl rfl ?_; clear F a; intro a F
      obtain rfl := Option.some.inj hm
      refine wpList_nil (then_n ?_); exact ⟨rfl, F.sub ⟨rfl, rfl, rfl, trivial⟩⟩
    · refine wl_ev (wg F rfl rfl rfl rfl hc1) (ev_move rfl) F S rfl rfl ?_; clear F a; intro a F
      refine wl_ev (wg F rfl rfl rfl rfl hc1) (ev_lenSh hversions1 rfl tu22) F S rfl rfl ?_; clear F a; intro a F
      refine wl_ev (wg F rfl rfl rfl rfl hc1) (ev_int rfl rfl (bo_eql _ _ _ _)) F S rfl rfl ?_; clear F a; intro a F
      refine wl_ev (wn rfl) (ev_pickF rfl hc1 rfl) F S rfl rfl ?_; clear F a; intro a F
      obtain rfl := Option.some.inj hm
      refine wpList_nil (then_n ?_); exact ⟨rfl, F.sub ⟨rfl, rfl, rfl, trivial⟩⟩
  clear F; rintro a w' ⟨rfl, F⟩
  refine wpList_nil ?_
  refine then_n ?_
  obtain ⟨hc2, hm⟩ | ⟨hc2, hm⟩ := ite_or hm
  · refine wp_condT F rfl hc2 ?_
    refine wp_seq ?_
    refine wp_region_lit ?_
    obtain ⟨y2, hy2, hm⟩ := bind_some hm
    refine wl_call (wn rfl) rfl (xs := []) (vs := []) (cap := []) F rfl rfl tc12 (changeforgelaw2_added_ok (g := g1) (fr := (fl [[(b1, .cells #[.int .i64 y1.2.Code, .int .i64 y1.2.Index] 25 (0, 0))]] fr)) (w := w)  S hy2) rfl rfl ?_; clear F a S
    rintro _ a w ⟨g2, l2, S, rfl⟩ F; replace S : St g2 [[(b1, .cells #[.int .i64 y1.2.Code, .int .i64 y1.2.Index] 25 (0, 0))]] fr w := S
    refine wl_ev (wn rfl) (ev_assign rfl) F S rfl rfl ?_; clear F a; intro a F
    refine wpList_nil ?_
    replace F := F.sub (e' := [(2, .bool y2)]) ⟨rfl, trivial⟩
    refine then_n ?_
    refine wp_ret ?_
    refine then_r ?_
    obtain rfl := Option.some.inj hm
    refine post_r (fn := Try.f4) (rs := [.tmp 2]) [.bool y2] F rfl (ar_cons (resT rfl) ar_nil) ?_
    replace S : St g2 [] fr w := St.tail [] _ S
    exact ⟨_, rfl, g2, (l1.trans l2), S, rfl⟩
  · refine wp_condF F rfl hc2 ?_
    refine wp_skip ?_
    refine then_n ?_
    refine wp_seq ?_
    refine wp_region_lit ?_
    refine wl_ev (wn rfl) (ev_move rfl) F S rfl rfl ?_; clear F a; intro a F
    refine wl_ev (wn rfl) (ev_move rfl) F S rfl rfl ?_; clear F a; intro a F
    refine wl_ev (wn rfl) (ev_lenSh hversions1 rfl tu22) F S rfl rfl ?_; clear F a; intro a F
    obtain ⟨z1, hz1, hm⟩ := bind_some hm
    refine wl_ev (wn rfl) (ev_int rfl rfl (bo_sub hz1)) F S rfl rfl ?_; clear F a; intro a F
    obtain ⟨y3, hy3, hm⟩ := bind_some hm
    obtain ⟨cs1, hr1, hp1⟩ := elemS (hversions1.mono l1) hy3
    obtain ⟨v2, rfl, h2⟩ := rep_list hr1
    refine wl_ev (wn rfl) (ev_idxS (hversions1.mono l1) hy3 tu22 ts31 rfl rfl) F S rfl rfl ?_; clear F a; intro a F
    refine wl_ev (wn rfl) (ev_load1 tu31 rfl rfl (ptr_mono (cks := [[(b1, .cells #[.int .i64 y1.2.Code, .int .i64 y1.2.Index] 25 (0, 0))]]) (fr := fr) hp1 (Le.refl _))) F S rfl rfl ?_; clear F a; intro a F
    refine wl_ev (wn rfl) (ev_assign rfl) F S rfl rfl ?_; clear F a; intro a F
    refine wpList_nil ?_
    replace F := F.sub (e' := [(5, v2), (3, v1), (0, vversions1)]) ⟨rfl, rfl, rfl, trivial⟩
    refine then_n ?_
    refine wp_seq ?_
    refine wp_seq ?_
    refine wp_region_lit ?_
    refine wl_ev (wn rfl) (ev_move rfl) F S rfl rfl ?_; clear F a; intro a F
    refine wl_ev (wn rfl) (ev_lenSh h1 rfl tu23) F S rfl rfl ?_; clear F a; intro a F
    refine wl_ev (wn rfl) (ev_move rfl) F S rfl rfl ?_; clear F a; intro a F
    refine wl_ev (wn rfl) (ev_lenSh h2 rfl tu31) F S rfl rfl ?_; clear F a; intro a F
    refine wl_ev (wn rfl) (ev_int rfl rfl (bo_neq _ _ _ _)) F S rfl rfl ?_; clear F a; intro a F
    refine wpList_nil ?_
    replace F := F.sub (e' := [(32, .bool (!decide ((y1.1.length : Int) = (y3.length : Int)))), (5, v2), (3, v1), (0, vversions1)]) ⟨rfl, rfl, rfl, rfl, trivial⟩
    refine then_n ?_
    obtain ⟨hc3, hm⟩ | ⟨hc3, hm⟩ := ite_or hm
    · refine wp_condT F rfl hc3 ?_
      refine wp_seq ?_
      refine wp_region_lit ?_
      refine wl_ev (wn rfl) (ev_assign rfl) F S rfl rfl ?_; clear F a; intro a F
      refine wpList_nil ?_
      replace F := F.sub (e' := [(2, .bool false)]) ⟨rfl, trivial⟩
      refine then_n ?_
      refine wp_ret ?_
      refine then_r ?_
      obtain rfl := Option.some.inj hm
      refine post_r (fn := Try.f4) (rs := [.tmp 2]) [.bool false] F rfl (ar_cons (resT rfl) ar_nil) ?_
      replace S : St g1 [] fr w := St.tail [] _ S
      exact ⟨_, rfl, g1, l1, S, rfl⟩
    · refine wp_condF F rfl hc3 ?_
      refine wp_skip ?_
      refine then_n ?_
      refine wp_cut (fun a w => ∃ (g3 : Gh), Fr 75 a [] ∧ Le g1 g3 ∧ St g3 [] fr w ∧ changeforgelaw2_BlameOrigins.j1 = some r) ?_ ?_
      · refine wp_seq ?_
        refine wp_region_lit ?_
        refine wl_ev (wn rfl) (ev_assign rfl) F S rfl rfl ?_; clear F a; intro a F
        refine wpList_nil ?_
        replace F := F.sub (e' := [(6, .int .i64 0), (5, v2), (3, v1), (0, vversions1)]) ⟨rfl, rfl, rfl, rfl, trivial⟩
        refine then_n ?_
        refine wp_block ?_
        obtain ⟨r1, hr2, hm⟩ := bind_some hm
        have hmo1 := hm; clear hm
        refine wp_iter (σ := Int) (ρ := Bool ⊕ Unit) (m := fun s => changeforgelaw2_BlameOrigins.l1 versions y1 y3 s) (I := fun x2 a w => ∃ (g5 : Gh), Fr 75 a [(6, .int .i64 x2), (5, v2), (3, v1), (0, vversions1)] ∧ Le g1 g5 ∧ St g5 [] fr w) hr2 ?_ ?_
        · replace S : St g1 [] fr w := St.tail [] _ S
          exact ⟨g1, F.sub ⟨rfl, rfl, rfl, rfl, trivial⟩, (Le.refl _), S⟩
        · clear F S; rintro x2 a w x3 ⟨g5, F, l5, S⟩ hx2 hfin1
          have hm : changeforgelaw2_BlameOrigins.l1 versions y1 y3 x2 = some x3 := hx2; clear hx2
          unfold changeforgelaw2_BlameOrigins.l1 at hm
          refine wp_seq ?_
          refine wp_seq ?_
          refine wp_region_lit ?_
          refine wl_ev (wn rfl) (ev_move rfl) F S rfl rfl ?_; clear F a; intro a F
          refine wl_ev (wn rfl) (ev_move rfl) F S rfl rfl ?_; clear F a; intro a F
          refine wl_ev (wn rfl) (ev_lenSh h1 rfl tu23) F S rfl rfl ?_; clear F a; intro a F
          refine wl_ev (wn rfl) (ev_int rfl rfl (bo_lss _ _ _ _)) F S rfl rfl ?_; clear F a; intro a F
          refine wpList_nil ?_
          replace F := F.sub (e' := [(36, .bool (decide (x2 < (y1.1.length : Int)))), (6, .int .i64 x2), (5, v2), (3, v1), (0, vversions1)]) ⟨rfl, rfl, rfl, rfl, rfl, trivial⟩
          refine then_n ?_
          obtain ⟨hc4, hm⟩ | ⟨hc4, hm⟩ := ite_or hm
          · refine wp_condT F rfl hc4 ?_
            refine wp_skip ?_
            refine then_n ?_
            refine wp_cut (fun a w => ∃ (g6 : Gh), Fr 75 a [(6, .int .i64 x2), (5, v2), (3, v1), (0, vversions1)] ∧ Le g5 g6 ∧ St g6 [] fr w ∧ changeforgelaw2_BlameOrigins.j2 x2 = some x3) ?_ ?_
            · refine wp_block ?_
              refine wp_seq ?_
              refine wp_seq ?_
              refine wp_region_lit ?_
              refine wl_ev (wn rfl) (ev_move rfl) F S rfl rfl ?_; clear F a; intro a F
              refine wl_ev (wn rfl) (ev_move rfl) F S rfl rfl ?_; clear F a; intro a F
              obtain ⟨y5, hy5, hm⟩ := bind_some hm
              obtain ⟨cs2, hr3, hp2⟩ := elemS (h1.mono l5) hy5
              obtain rfl := rep_int hr3
              refine wl_ev (wn rfl) (ev_idxS (h1.mono l5) hy5 tu23 ts3 rfl rfl) F S rfl rfl ?_; clear F a; intro a F
              refine wl_ev (wn rfl) (ev_load1 tu3 rfl rfl (ptr_mono (cks := []) (fr := fr) hp2 (Le.refl _))) F S rfl rfl ?_; clear F a; intro a F
              refine wl_ev (wn rfl) (ev_int rfl rfl (bo_lss _ _ _ _)) F S rfl rfl ?_; clear F a; intro a F
              refine wl_ev (wn rfl) (ev_move rfl) F S rfl rfl ?_; clear F a; intro a F
              obtain ⟨x4, hx3, hm⟩ := bind_some hm
              refine wl_cut 8 (fun a w' => w = w' ∧ Fr 75 a [(52, .bool x4), (6, .int .i64 x2), (5, v2), (3, v1), (0, vversions1)]) ?_ ?_
              · clear hm; obtain ⟨hc5, hm⟩ | ⟨hc5, hm⟩ := ite_or hx3
                · refine wl_skip rfl rfl rfl rfl (ne_ft hc5) F rfl rfl ?_; clear F a; intro a F
                  refine wl_skip rfl rfl rfl rfl (ne_ft hc5) F rfl rfl ?_; clear F a; intro a F
                  refine wl_skip rfl rfl rfl rfl (ne_ft hc5) F rfl rfl ?_; clear F a; intro a F
                  refine wl_skip rfl rfl rfl rfl (ne_ft hc5) F rfl rfl ?_; clear F a; intro a F
                  refine wl_skip rfl rfl rfl rfl (ne_ft hc5) F rfl rfl ?_; clear F a; intro a F
                  refine wl_skip rfl rfl rfl rfl (ne_ft hc5) F rfl rfl ?_; clear F a; intro a F
                  refine wl_skip rfl rfl rfl rfl (ne_ft hc5) F rfl rfl ?_; clear F a; intro a F
                  refine wl_ev (wn rfl) (ev_pickT rfl hc5 rfl) F S rfl rfl ?_; clear F a; intro a F
                  obtain rfl := Option.some.inj hm
                  refine wpList_nil (then_n ?_); exact ⟨rfl, F.sub ⟨rfl, rfl, rfl, rfl, rfl, trivial⟩⟩
                · refine wl_ev (wg F rfl rfl rfl rfl hc5) (ev_move rfl) F S rfl rfl ?_; clear F a; intro a F
                  refine wl_ev (wg F rfl rfl rfl rfl hc5) (ev_move rfl) F S rfl rfl ?_; clear F a; intro a F
                  obtain ⟨y6, hy6, hm⟩ := bind_some hm
                  obtain ⟨cs3, hr4, hp3⟩ := elemS (h1.mono l5) hy6
                  obtain rfl := rep_int hr4
                  refine wl_ev (wg F rfl rfl rfl rfl hc5) (ev_idxS (h1.mono l5) hy6 tu23 ts3 rfl rfl) F S rfl rfl ?_; clear F a; intro a F
                  refine wl_ev (wg F rfl rfl rfl rfl hc5) (ev_load1 tu3 rfl rfl (ptr_mono (cks := []) (fr := fr) hp3 (Le.refl _))) F S rfl rfl ?_; clear F a; intro a F
                  refine wl_ev (wg F rfl rfl rfl rfl hc5) (ev_move rfl) F S rfl rfl ?_; clear F a; intro a F
                  refine wl_ev (wg F rfl rfl rfl rfl hc5) (ev_lenSh hversions1 rfl tu22) F S rfl rfl ?_; clear F a; intro a F
                  refine wl_ev (wg F rfl rfl rfl rfl hc5) (ev_int rfl rfl (bo_geq _ _ _ _)) F S rfl rfl ?_; clear F a; intro a F
                  refine wl_ev (wn rfl) (ev_pickF rfl hc5 rfl) F S rfl rfl ?_; clear F a; intro a F
                  obtain rfl := Option.some.inj hm
                  refine wpList_nil (then_n ?_); exact ⟨rfl, F.sub ⟨rfl, rfl, rfl, rfl, rfl, trivial⟩⟩
              clear F; rintro a w' ⟨rfl, F⟩
              refine wpList_nil ?_
              refine then_n ?_
              obtain ⟨hc6, hm⟩ | ⟨hc6, hm⟩ := ite_or hm
              · refine wp_condT F rfl hc6 ?_
                refine wp_seq ?_
                refine wp_region_lit ?_
                refine wl_ev (wn rfl) (ev_assign rfl) F S rfl rfl ?_; clear F a; intro a F
                refine wpList_nil ?_
                replace F := F.sub (e' := [(2, .bool false)]) ⟨rfl, trivial⟩
                refine then_n ?_
                refine wp_ret ?_
                refine then_r ?_
                refine inb_r ?_
                refine then_r ?_
                refine then_r ?_
                refine inb_r ?_
                refine then_r ?_
                obtain rfl := Option.some.inj hm
                obtain rfl := hfin1 _ rfl
                clear hm
                have hm : (some false : Option Bool) = some _ := hmo1
                obtain rfl := Option.some.inj hm
                refine post_r (fn := Try.f4) (rs := [.tmp 2]) [.bool false] F rfl (ar_cons (resT rfl) ar_nil) ?_
                exact ⟨_, rfl, g5, (l1.trans l5), S, rfl⟩
              · refine wp_condF F rfl hc6 ?_
                refine wp_skip ?_
                refine then_n ?_
                refine wp_seq ?_
                refine wp_region_lit ?_
                refine wl_ev (wn rfl) (ev_move rfl) F S rfl rfl ?_; clear F a; intro a F
                refine wl_ev (wn rfl) (ev_move rfl) F S rfl rfl ?_; clear F a; intro a F
                obtain ⟨y7, hy7, hm⟩ := bind_some hm
                obtain ⟨cs4, hr5, hp4⟩ := elemS (h1.mono l5) hy7
                obtain rfl := rep_int hr5
                refine wl_ev (wn rfl) (ev_idxS (h1.mono l5) hy7 tu23 ts3 rfl rfl) F S rfl rfl ?_; clear F a; intro a F
                refine wl_ev (wn rfl) (ev_load1 tu3 rfl rfl (ptr_mono (cks := []) (fr := fr) hp4 (Le.refl _))) F S rfl rfl ?_; clear F a; intro a F
                refine wl_ev (wn rfl) (ev_assign rfl) F S rfl rfl ?_; clear F a; intro a F
                refine wpList_nil ?_
                replace F := F.sub (e' := [(7, .int .i64 y7), (6, .int .i64 x2), (5, v2), (3, v1), (0, vversions1)]) ⟨rfl, rfl, rfl, rfl, rfl, trivial⟩
                refine then_n ?_
                refine wp_cut1 (fun a w => ∃ (g7 : Gh), Fr 75 a [(6, .int .i64 x2), (5, v2), (3, v1), (0, vversions1)] ∧ Le g5 g7 ∧ St g7 [] fr w ∧ changeforgelaw2_BlameOrigins.j3 x2 = some x3) ?_ ?_
                · refine wp_block ?_
                  obtain ⟨r2, hr6, hm⟩ := bind_some hm
                  have hmo2 := hm; clear hm
                  refine wp_iter (σ := Int) (ρ := Bool ⊕ Unit) (m := fun s => changeforgelaw2_BlameOrigins.l2 versions y3 x2 s) (I := fun x5 a w => ∃ (g8 : Gh), Fr 75 a [(7, .int .i64 x5), (6, .int .i64 x2), (5, v2), (3, v1), (0, vversions1)] ∧ Le g5 g8 ∧ St g8 [] fr w) hr6 ?_ ?_
                  · exact ⟨g5, F.sub ⟨rfl, rfl, rfl, rfl, rfl, trivial⟩, (Le.refl _), S⟩
                  · clear F S; rintro x5 a w x6 ⟨g8, F, l8, S⟩ hx4 hfin2
                    have hm : changeforgelaw2_BlameOrigins.l2 versions y3 x2 x5 = some x6 := hx4; clear hx4
                    unfold changeforgelaw2_BlameOrigins.l2 at hm
                    refine wp_seq ?_
                    refine wp_seq ?_
                    refine wp_region_lit ?_
                    refine wl_ev (wn rfl) (ev_move rfl) F S rfl rfl ?_; clear F a; intro a F
                    refine wl_ev (wn rfl) (ev_move rfl) F S rfl rfl ?_; clear F a; intro a F
                    refine wl_ev (wn rfl) (ev_lenSh hversions1 rfl tu22) F S rfl rfl ?_; clear F a; intro a F
                    refine wl_ev (wn rfl) (ev_int rfl rfl (bo_lss _ _ _ _)) F S rfl rfl ?_; clear F a; intro a F
                    refine wpList_nil ?_
                    replace F := F.sub (e' := [(60, .bool (decide (x5 < (versions.length : Int)))), (7, .int .i64 x5), (6, .int .i64 x2), (5, v2), (3, v1), (0, vversions1)]) ⟨rfl, rfl, rfl, rfl, rfl, rfl, trivial⟩
                    refine then_n ?_
                    obtain ⟨hc7, hm⟩ | ⟨hc7, hm⟩ := ite_or hm
                    · refine wp_condT F rfl hc7 ?_
                      refine wp_skip ?_
                      refine then_n ?_
                      refine wp_seq ?_
                      refine wp_block ?_
                      refine wp_seq ?_
                      refine wp_quiet mo (by kernel_rfl) S ?_
                      refine wq_ev (wn rfl) (ev_move rfl) F rfl rfl ?_; clear F a; intro a F
                      refine wq_ev (wn rfl) (ev_move rfl) F rfl rfl ?_; clear F a; intro a F
                      refine wq_ev (wn rfl) (ev_move rfl) F rfl rfl ?_; clear F a; intro a F
                      obtain ⟨z3, hz3, hm⟩ := bind_some hm
                      refine wq_ev (wn rfl) (ev_int rfl rfl (bo_add hz3)) F rfl rfl ?_; clear F a; intro a F
                      obtain ⟨y8, hy8, hm⟩ := bind_some hm
                      refine wq_cutS (wn rfl) rfl (h2.mono (l5.trans l8)) hy8 tu31 ts9 rfl (bndV rfl) (bndV rfl) F rfl rfl ?_; clear F a; rintro v3 h3 a F
                      refine wq_ev (wn rfl) (ev_move rfl) F rfl rfl ?_; clear F a; intro a F
                      refine wq_ev (wn rfl) (ev_move rfl) F rfl rfl ?_; clear F a; intro a F
                      obtain ⟨y9, hy9, hm⟩ := bind_some hm
                      obtain ⟨cs5, hr7, hp5⟩ := elemS (hversions1.mono ((l1.trans l5).trans l8)) hy9
                      obtain ⟨v4, rfl, h4⟩ := rep_list hr7
                      refine wq_ev (wn rfl) (ev_idxS (hversions1.mono ((l1.trans l5).trans l8)) hy9 tu22 ts31 rfl rfl) F rfl rfl ?_; clear F a; intro a F
                      refine wq_ev (wn rfl) (ev_load1 tu31 rfl rfl (ptr_mono (cks := []) (fr := fr) hp5 (Le.refl _))) F rfl rfl ?_; clear F a; intro a F
                      obtain ⟨y10, hy10, hm⟩ := bind_some hm
                      refine wq_call (wn rfl) rfl (xs := [.tmp 67, .tmp 71]) (vs := [v3, v4]) (cap := []) F rfl rfl tc16 (v := .bool y10) (fun w S => (changeforgelaw2_follows_ok (g := g8) (fr := fr) (w := w) y8 v3 h3 y9 v4 h4 S hy10).mono (by rintro en w' ⟨_, rfl, g2, l2, S2, rfl⟩; exact ⟨rfl, S2.weak l2⟩)) rfl rfl ?_; clear F a; intro a F
                      refine wq_ev (wn rfl) (ev_not rfl) F rfl rfl ?_; clear F a; intro a F
                      refine wq_nil ?_; clear S; intro w S
                      replace F := F.sub (e' := [(73, .bool !y10), (7, .int .i64 x5), (6, .int .i64 x2), (5, v2), (3, v1), (0, vversions1)]) ⟨rfl, rfl, rfl, rfl, rfl, rfl, trivial⟩
                      refine then_n ?_
                      obtain ⟨hc8, hm⟩ | ⟨hc8, hm⟩ := ite_or hm
                      · refine wp_condT F rfl hc8 ?_
                        refine wp_seq ?_
                        refine wp_region_lit ?_
                        refine wl_ev (wn rfl) (ev_assign rfl) F S rfl rfl ?_; clear F a; intro a F
                        refine wpList_nil ?_
                        replace F := F.sub (e' := [(2, .bool false)]) ⟨rfl, trivial⟩
                        refine then_n ?_
                        refine wp_ret ?_
                        refine inb_r ?_
                        refine then_r ?_
                        refine then_r ?_
                        refine inb_r ?_
                        refine then_r ?_
                        refine inb_r ?_
                        refine then_r ?_
                        refine then_r ?_
                        refine inb_r ?_
                        refine then_r ?_
                        obtain rfl := Option.some.inj hm
                        obtain rfl := hfin2 _ rfl
                        clear hm
                        have hm : (some (Step.done (Sum.inl false)) : Option (Step Int (Bool ⊕ Unit))) = some _ := hmo2
                        obtain rfl := Option.some.inj hm
                        obtain rfl := hfin1 _ rfl
                        clear hm
                        have hm : (some false : Option Bool) = some _ := hmo1
                        obtain rfl := Option.some.inj hm
                        refine post_r (fn := Try.f4) (rs := [.tmp 2]) [.bool false] F rfl (ar_cons (resT rfl) ar_nil) ?_
                        exact ⟨_, rfl, g8, ((l1.trans l5).trans l8), S, rfl⟩
                      · refine wp_condF F rfl hc8 ?_
                        refine wp_skip ?_
                        refine inb_n ?_
                        refine then_n ?_
                        refine wp_region_lit ?_
                        refine wl_ev (wn rfl) (ev_move rfl) F S rfl rfl ?_; clear F a; intro a F
                        obtain ⟨z4, hz4, hm⟩ := bind_some hm
                        refine wl_ev (wn rfl) (ev_int rfl rfl (bo_add hz4)) F S rfl rfl ?_; clear F a; intro a F
                        refine wl_ev (wn rfl) (ev_assign rfl) F S rfl rfl ?_; clear F a; intro a F
                        refine wpList_nil ?_
                        replace F := F.sub (e' := [(7, .int .i64 z4), (6, .int .i64 x2), (5, v2), (3, v1), (0, vversions1)]) ⟨rfl, rfl, rfl, rfl, rfl, trivial⟩
                        refine then_n ?_
                        obtain rfl := Option.some.inj hm
                        refine ⟨_, rfl, ?_⟩
                        exact ⟨g8, F.sub ⟨rfl, rfl, rfl, rfl, rfl, trivial⟩, l8, S⟩
                    · refine wp_condF F rfl hc7 ?_
                      refine wp_exit ?_
                      refine then_e ?_
                      refine then_e ?_
                      refine inb_x ?_
                      refine then_n ?_
                      obtain rfl := Option.some.inj hm
                      obtain rfl := hfin2 _ rfl
                      clear hm
                      have hm : (changeforgelaw2_BlameOrigins.j3 x2 : Option (Step Int (Bool ⊕ Unit))) = some _ := hmo2
                      exact ⟨g8, F.sub ⟨rfl, rfl, rfl, rfl, trivial⟩, l8, S, hm⟩
                · clear F S hm; rintro a w ⟨g7, F, l7, S, hm⟩
                  refine inb_n ?_
                  refine then_n ?_
                  exact ⟨g7, F.sub ⟨rfl, rfl, rfl, rfl, trivial⟩, l7, S, hm⟩
            · clear F S hm; rintro a w ⟨g6, F, l6, S, hm⟩
              refine wp_region_lit ?_
              refine wl_ev (wn rfl) (ev_move rfl) F S rfl rfl ?_; clear F a; intro a F
              obtain ⟨z2, hz2, hm⟩ := bind_some hm
              refine wl_ev (wn rfl) (ev_int rfl rfl (bo_add hz2)) F S rfl rfl ?_; clear F a; intro a F
              refine wl_ev (wn rfl) (ev_assign rfl) F S rfl rfl ?_; clear F a; intro a F
              refine wpList_nil ?_
              replace F := F.sub (e' := [(6, .int .i64 z2), (5, v2), (3, v1), (0, vversions1)]) ⟨rfl, rfl, rfl, rfl, trivial⟩
              refine then_n ?_
              obtain rfl := Option.some.inj hm
              refine ⟨_, rfl, ?_⟩
              exact ⟨g6, F.sub ⟨rfl, rfl, rfl, rfl, trivial⟩, (l5.trans l6), S⟩
          · refine wp_condF F rfl hc4 ?_
            refine wp_exit ?_
            refine then_e ?_
            refine then_e ?_
            refine inb_x ?_
            refine then_n ?_
            obtain rfl := Option.some.inj hm
            obtain rfl := hfin1 _ rfl
            clear hm
            have hm : (changeforgelaw2_BlameOrigins.j1 : Option Bool) = some _ := hmo1
            exact ⟨g5, F.sub trivial, l5, S, hm⟩
      · clear F S hm; rintro a w ⟨g3, F, l3, S, hm⟩
        refine wp_seq ?_
        refine wp_region_lit ?_
        obtain ⟨y4, hy4, hm⟩ := bind_some hm
        refine wl_call (wn rfl) rfl (xs := []) (vs := []) (cap := []) F rfl rfl tc12 (changeforgelaw2_added_ok (g := g3) (fr := fr) (w := w)  S hy4) rfl rfl ?_; clear F a S
        rintro _ a w ⟨g4, l4, S, rfl⟩ F; replace S : St g4 [] fr w := S
        refine wl_ev (wn rfl) (ev_assign rfl) F S rfl rfl ?_; clear F a; intro a F
        refine wpList_nil ?_
        replace F := F.sub (e' := [(2, .bool y4)]) ⟨rfl, trivial⟩
        refine then_n ?_
        refine wp_ret ?_
        obtain rfl := Option.some.inj hm
        refine post_r (fn := Try.f4) (rs := [.tmp 2]) [.bool y4] F rfl (ar_cons (resT rfl) ar_nil) ?_
        exact ⟨_, rfl, g4, ((l1.trans l3).trans l4), S, rfl⟩

theorem changeforgelaw2_BlameUnchanged_ok {g : Gh} {fr : Hl} {w : World} {r : Bool} (versions : (List (List ByteArray))) (vversions1 : Value) (hversions1 : RepSl g versions vversions1) (S : St g [] fr w) (hm : changeforgelaw2_BlameUnchanged versions = some r) :
    Calls Try.prog 5 [vversions1].toArray w (fun en w' => ∃ v, en = .returned v ∧ ∃ (g' : Gh), Le g g' ∧ St g' [] fr w' ∧ .bool r = v) := by
  unfold changeforgelaw2_BlameUnchanged at hm
  refine calls_enter (fn := Try.f5) Try.func5 rfl Try.ntmps5 (Nat.le_of_ble_eq_true rfl) ?_
  intro a F
  replace F : Fr 52 a [(0, vversions1)] := F
  refine wp_seq ?_
  refine wp_region_lit ?_
  refine wl_ev (wn rfl) (ev_assign rfl) F S rfl rfl ?_; clear F a; intro a F
  refine wpList_nil ?_
  replace F := F.sub (e' := [(0, vversions1)]) ⟨rfl, trivial⟩
  refine then_n ?_
  refine wp_seq ?_
  refine wp_region_lit ?_
  refine wl_ev (wn rfl) (ev_move rfl) F S rfl rfl ?_; clear F a; intro a F
  obtain ⟨y1, hy1, hm⟩ := bind_some hm
  refine wl_call (wn rfl) rfl (xs := [.tmp 8]) (vs := [vversions1]) (cap := []) F rfl rfl tc10 (blame_Annotate_ok (g := g) (fr := fr) (w := w) versions vversions1 hversions1 S hy1) rfl rfl ?_; clear F a S
  rintro _ a w ⟨g1, v1, l1, S, h1, rfl⟩ F; replace S : St g1 [] fr w := S
  refine wl_ev (wn rfl) (ev_move rfl) F S rfl rfl ?_; clear F a; intro a F
  refine wl_ev (wn rfl) (ev_extract (vs := [v1, .agg #[.int .i64 y1.2.Code, .int .i64 y1.2.Index]]) rfl rfl) F S rfl rfl ?_; clear F a; intro a F
  refine wl_ev (wn rfl) (ev_extract (vs := [v1, .agg #[.int .i64 y1.2.Code, .int .i64 y1.2.Index]]) rfl rfl) F S rfl rfl ?_; clear F a; intro a F
  refine wl_alloc (wn rfl) rfl tz25 (cs := [.int .i64 0, .int .i64 0]) rfl F S rfl rfl ?_; clear F a S; rintro b1 a w F S
  refine wl_ev (wn rfl) (ev_assign rfl) F S rfl rfl ?_; clear F a; intro a F
  refine wl_storeC (wn rfl) rfl F S rfl rfl (vs := [.int .i64 y1.2.Code, .int .i64 y1.2.Index]) rfl ts25 (one_cons rfl (one_cons rfl one_nil)) (k := 0) rfl (Nat.le_of_ble_eq_true rfl) (c' := #[.int .i64 y1.2.Code, .int .i64 y1.2.Index]) rfl rfl ?_; clear S; intro w S
  replace S : St g1 [[(b1, .cells #[.int .i64 y1.2.Code, .int .i64 y1.2.Index] 25 (0, 0))]] fr w := S
  refine wpList_nil ?_
  replace F := F.sub (e' := [(3, v1), (4, .pointer (some ⟨b1, 0, Option.none⟩)), (0, vversions1)]) ⟨rfl, rfl, rfl, trivial⟩
  refine then_n ?_
  refine wp_seq ?_
  refine wp_seq ?_
  refine wp_region_lit ?_
  refine wl_ev (wn rfl) (ev_fieldAddr' tu25 tf25_0 (z := 0) ts3 rfl ⟨_, rfl⟩ rfl) F S rfl rfl ?_; clear F a; intro a F
  refine wl_ev (wn rfl) (ev_load1 tu3 rfl rfl (box_ptr (cells := [.int .i64 y1.2.Code]) 0 rfl 0 rfl (Nat.le_of_ble_eq_true rfl))) F S rfl rfl ?_; clear F a; intro a F
  refine wl_ev (wn rfl) (ev_int rfl rfl (bo_neq _ _ _ _)) F S rfl rfl ?_; clear F a; intro a F
  refine wl_ev (wn rfl) (ev_move rfl) F S rfl rfl ?_; clear F a; intro a F
  obtain ⟨x1, hx1, hm⟩ := bind_some hm
  refine wl_cut 4 (fun a w' => w = w' ∧ Fr 52 a [(19, .bool x1), (3, v1), (0, vversions1)]) ?_ ?_
  · clear hm; obtain ⟨hc1, hm⟩ | ⟨hc1, hm⟩ := ite_or hx1
    · refine wl_skip rfl rfl rfl rfl (ne_ft hc1) F rfl rfl ?_; clear F a; intro a F
      refine wl_skip rfl rfl rfl rfl (ne_ft hc1) F rfl rfl ?_; clear F a; intro a F
      refine wl_skip rfl rfl rfl rfl (ne_ft hc1) F rfl rfl ?_; clear F a; intro a F
      refine wl_ev (wn rfl) (ev_pickT rfl hc1 rfl) F S rfl rfl ?_; clear F a; intro a F
      obtain rfl := Option.some.inj hm
      refine wpList_nil (then_n ?_); exact ⟨rfl, F.sub ⟨rfl, rfl, rfl, trivial⟩⟩
    · refine wl_ev (wg F rfl rfl rfl rfl hc1) (ev_move rfl) F S rfl rfl ?_; clear F a; intro a F
      refine wl_ev (wg F rfl rfl rfl rfl hc1) (ev_lenSh hversions1 rfl tu22) F S rfl rfl ?_; clear F a; intro a F
      refine wl_ev (wg F rfl rfl rfl rfl hc1) (ev_int rfl rfl (bo_eql _ _ _ _)) F S rfl rfl ?_; clear F a; intro a F
      refine wl_ev (wn rfl) (ev_pickF rfl hc1 rfl) F S rfl rfl ?_; clear F a; intro a F
      obtain rfl := Option.some.inj hm
      refine wpList_nil (then_n ?_); exact ⟨rfl, F.sub ⟨rfl, rfl, rfl, trivial⟩⟩
  clear F; rintro a w' ⟨rfl, F⟩
  refine wl_ev (wn rfl) (ev_move rfl) F S rfl rfl ?_; clear F a; intro a F
  obtain ⟨x2, hx2, hm⟩ := bind_some hm
  refine wl_cut 4 (fun a w' => w = w' ∧ Fr 52 a [(24, .bool x2), (3, v1), (0, vversions1)]) ?_ ?_
  · clear hm; obtain ⟨hc2, hm⟩ | ⟨hc2, hm⟩ := ite_or hx2
    · refine wl_skip rfl rfl rfl rfl (ne_ft hc2) F rfl rfl ?_; clear F a; intro a F
      refine wl_skip rfl rfl rfl rfl (ne_ft hc2) F rfl rfl ?_; clear F a; intro a F
      refine wl_skip rfl rfl rfl rfl (ne_ft hc2) F rfl rfl ?_; clear F a; intro a F
      refine wl_ev (wn rfl) (ev_pickT rfl hc2 rfl) F S rfl rfl ?_; clear F a; intro a F
      obtain rfl := Option.some.inj hm
      refine wpList_nil (then_n ?_); exact ⟨rfl, F.sub ⟨rfl, rfl, rfl, trivial⟩⟩
    · refine wl_ev (wg F rfl rfl rfl rfl hc2) (ev_move rfl) F S rfl rfl ?_; clear F a; intro a F
      refine wl_ev (wg F rfl rfl rfl rfl hc2) (ev_lenSh hversions1 rfl tu22) F S rfl rfl ?_; clear F a; intro a F
      refine wl_ev (wg F rfl rfl rfl rfl hc2) (ev_int rfl rfl (bo_geq _ _ _ _)) F S rfl rfl ?_; clear F a; intro a F
      refine wl_ev (wn rfl) (ev_pickF rfl hc2 rfl) F S rfl rfl ?_; clear F a; intro a F
      obtain rfl := Option.some.inj hm
      refine wpList_nil (then_n ?_); exact ⟨rfl, F.sub ⟨rfl, rfl, rfl, trivial⟩⟩
  clear F; rintro a w' ⟨rfl, F⟩
  refine wpList_nil ?_
  refine then_n ?_
  obtain ⟨hc3, hm⟩ | ⟨hc3, hm⟩ := ite_or hm
  · refine wp_condT F rfl hc3 ?_
    refine wp_seq ?_
    refine wp_region_lit ?_
    obtain ⟨y2, hy2, hm⟩ := bind_some hm
    refine wl_call (wn rfl) rfl (xs := []) (vs := []) (cap := []) F rfl rfl tc12 (changeforgelaw2_added_ok (g := g1) (fr := (fl [[(b1, .cells #[.int .i64 y1.2.Code, .int .i64 y1.2.Index] 25 (0, 0))]] fr)) (w := w)  S hy2) rfl rfl ?_; clear F a S
    rintro _ a w ⟨g2, l2, S, rfl⟩ F; replace S : St g2 [[(b1, .cells #[.int .i64 y1.2.Code, .int .i64 y1.2.Index] 25 (0, 0))]] fr w := S
    refine wl_ev (wn rfl) (ev_assign rfl) F S rfl rfl ?_; clear F a; intro a F
    refine wpList_nil ?_
    replace F := F.sub (e' := [(2, .bool y2)]) ⟨rfl, trivial⟩
    refine then_n ?_
    refine wp_ret ?_
    refine then_r ?_
    obtain rfl := Option.some.inj hm
    refine post_r (fn := Try.f5) (rs := [.tmp 2]) [.bool y2] F rfl (ar_cons (resT rfl) ar_nil) ?_
    replace S : St g2 [] fr w := St.tail [] _ S
    exact ⟨_, rfl, g2, (l1.trans l2), S, rfl⟩
  · refine wp_condF F rfl hc3 ?_
    refine wp_skip ?_
    refine then_n ?_
    refine wp_seq ?_
    obtain ⟨y3, hy3, hm⟩ := bind_some hm
    obtain ⟨z1, hz1, hm⟩ := bind_some hm
    obtain ⟨y4, hy4, hm⟩ := bind_some hm
    obtain ⟨y5, hy5, hm⟩ := bind_some hm
    obtain ⟨y6, hy6, hm⟩ := bind_some hm
    refine wp_drawL ⟨1, [[27], [28], [29], [30], [31], [32], [33], [34], [35], [36], [37], [38], [26, 38], [39, 38], [40], [6], [5, 38], [6]], [[], [], [0], [], [], [], [], [], [], [], [2], [10], [], [], [], [], [], [15]], [[], [], [], [], [], [], [], [], [], [], [9], [], [], [], [], [], [], []], [[], [0], [], [0], [0], [], [], [], [], [], [], [], [], [], [], [], [], []], [[], [], [0, 1], [], [], [4], [5], [3, 6], [7], [8], [2, 9], [10], [11], [11, 12], [11, 12], [], [11, 13], [14, 15]], [3], [1, 3, 4, 5, 6, 7, 8, 9, 11, 12, 13, 14, 16, 17, 18]⟩
      [([27], fun us g c => ∃ v2 : Value, us = [v2] ∧ OwnS g ([] : List (List ByteArray)) v2 c),
       ([28], fun us g c => us = [vversions1]),
       ([29], fun us g c => ∃ v3 : Value, us = [v3] ∧ OwnS g y3 v3 c),
       ([30], fun us g c => us = [vversions1]),
       ([31], fun us g c => us = [vversions1]),
       ([32], fun us g c => us = [.int .i64 (versions.length : Int)]),
       ([33], fun us g c => us = [.int .i64 z1]),
       ([34], fun us g c => ∃ v4 : Value, us = [(elemP vversions1 z1 1)] ∧ RepSl g y4 v4 ∧ PtrC g (elemP vversions1 z1 1) [v4]),
       ([35], fun us g c => ∃ v4 : Value, us = [v4] ∧ RepSl g y4 v4),
       ([36], fun us g c => ∃ v5 : Value, us = [v5] ∧ OwnS g ([y4] : List (List ByteArray)) v5 c),
       ([37], fun us g c => ∃ v6 : Value, us = [v6] ∧ OwnS g y5 v6 c),
       ([38], fun us g c => ∃ v7 : Value, us = [.tuple #[v7, .agg #[.int .i64 y6.2.Code, .int .i64 y6.2.Index]]] ∧ RepSl g y6.1 v7),
       ([26, 38], fun us g c => ∃ v7 : Value, us = [.tuple #[v7, .agg #[.int .i64 y6.2.Code, .int .i64 y6.2.Index]], .tuple #[v7, .agg #[.int .i64 y6.2.Code, .int .i64 y6.2.Index]]]),
       ([39, 38], fun us g c => ∃ v7 : Value, us = [v7, .tuple #[v7, .agg #[.int .i64 y6.2.Code, .int .i64 y6.2.Index]]]),
       ([40], fun us g c => us = [.agg #[.int .i64 y6.2.Code, .int .i64 y6.2.Index]]),
       ([6], fun us g c => ∃ b2 : Nat, us = [.pointer (some ⟨b2, 0, Option.none⟩)] ∧ c = [(b2, .cells #[.int .i64 0, .int .i64 0] 25 (0, 0))]),
       ([5, 38], fun us g c => ∃ v7 : Value, us = [v7, .tuple #[v7, .agg #[.int .i64 y6.2.Code, .int .i64 y6.2.Index]]]),
       ([6], fun us g c => ∃ b2 : Nat, us = [.pointer (some ⟨b2, 0, Option.none⟩)] ∧ c = [(b2, .cells #[.int .i64 y6.2.Code, .int .i64 y6.2.Index] 25 (0, 0))])]
      mo (by kernel_rfl) rfl rfl ⟨fun _ _ _ _ l ⟨x0, e0, h0⟩ => ⟨x0, e0, h0.mono l⟩, fun _ _ _ _ _ h => h, fun _ _ _ _ l ⟨x0, e0, h0⟩ => ⟨x0, e0, h0.mono l⟩, fun _ _ _ _ _ h => h, fun _ _ _ _ _ h => h, fun _ _ _ _ _ h => h, fun _ _ _ _ _ h => h, fun _ _ _ _ l ⟨x0, e0, h0, h1⟩ => ⟨x0, e0, h0.mono l, h1.mono l⟩, fun _ _ _ _ l ⟨x0, e0, h0⟩ => ⟨x0, e0, h0.mono l⟩, fun _ _ _ _ l ⟨x0, e0, h0⟩ => ⟨x0, e0, h0.mono l⟩, fun _ _ _ _ l ⟨x0, e0, h0⟩ => ⟨x0, e0, h0.mono l⟩, fun _ _ _ _ l ⟨x0, e0, h0⟩ => ⟨x0, e0, h0.mono l⟩, fun _ _ _ _ _ h => h, fun _ _ _ _ _ h => h, fun _ _ _ _ _ h => h, fun _ _ _ _ _ h => h, fun _ _ _ _ _ h => h, fun _ _ _ _ _ h => h, trivial⟩ F S ⟨?_, ?_, ?_, ?_, ?_, ?_, ?_, ?_, ?_, ?_, ?_, ?_, ?_, ?_, ?_, ?_, ?_, ?_, trivial⟩ ?_
    · intro a w gd1 c fr hsz hdf hK ld1 hN hI S
      have F : Fr 52 a [] := Fr.of hsz hdf trivial
      replace S : St gd1 [] fr w := S.of_eq (flat2 _ _ _ _)
      refine wl_lit (l := ([] : List (List ByteArray))) (vs := []) (parts := []) (wn rfl) rfl rfl rfl tu22 te31 sz_nil rfl (Cat.nil _) coa_nil rfl F S rfl rfl ?_; clear F S
      rintro v2 c1 a w h2 F S
      refine wpList_nil ⟨rfl, F.sz, F.df, _, c1, (Le.refl _), ?_, ⟨v2, (lst1 (F.get 27 _ rfl)), h2⟩⟩
      refine St0.of_eq ?_ (flat3s c (c1) [] fr).symm
      show St0 _ (fl ([c1] ++ []) fr) _
      exact S
    · intro a w gd1 c fr hsz hdf hK ld1 hN hI S
      have F : Fr 52 a [(0, vversions1)] := Fr.of hsz hdf ⟨hK 0 (by decide) _ rfl, trivial⟩
      replace S : St gd1 [] fr w := S.of_eq (flat2 _ _ _ _)
      refine wl_ev (wn rfl) (ev_move rfl) F S rfl rfl ?_; clear F; intro a F
      refine wpList_nil ⟨rfl, F.sz, F.df, _, [], (Le.refl _), ?_, (lst1 (F.get 28 _ rfl))⟩
      refine St0.of_eq ?_ (flat3 c [] [] fr).symm
      show St0 _ (fl ([] ++ []) fr) _
      exact S
    · intro a w gd1 c fr hsz hdf hK ld1 hN hI S
      obtain ⟨v2, e0, lh1⟩ := hN 0 (by decide)
      have e27x : val a 27 = v2 := nth e0 0
      have e1 := hN 1 (by decide)
      have e28x : val a 28 = vversions1 := nth e1 0
      have F : Fr 52 a [(27, v2), (28, vversions1)] := Fr.of hsz hdf ⟨e27x, e28x, trivial⟩
      replace S : St gd1 [c 0] fr w := S.of_eq (flat2 _ _ _ _)
      obtain ⟨cs1, hk1, hr1⟩ := RepSl.reads (hversions1.mono (l1.trans ld1))
      refine wl_append (wn rfl) rfl tu22 tu22 te31 (by decide) (by decide) F S rfl rfl (k := 0) rfl lh1 hk1 rfl (hr1 _ _ S) hy3 rfl rfl ?_; clear F S
      rintro v3 c2 a w h3 S F; replace S : St gd1 [c2] fr w := S
      refine wpList_nil ⟨rfl, F.sz, F.df, _, c2, (Le.refl _), ?_, ⟨v3, (lst1 (F.get 29 _ rfl)), h3⟩⟩
      refine St0.of_eq ?_ (flat3s c (c2) [] fr).symm
      show St0 _ (fl ([c2] ++ []) fr) _
      exact S
    · intro a w gd1 c fr hsz hdf hK ld1 hN hI S
      have F : Fr 52 a [(0, vversions1)] := Fr.of hsz hdf ⟨hK 0 (by decide) _ rfl, trivial⟩
      replace S : St gd1 [] fr w := S.of_eq (flat2 _ _ _ _)
      refine wl_ev (wn rfl) (ev_move rfl) F S rfl rfl ?_; clear F; intro a F
      refine wpList_nil ⟨rfl, F.sz, F.df, _, [], (Le.refl _), ?_, (lst1 (F.get 30 _ rfl))⟩
      refine St0.of_eq ?_ (flat3 c [] [] fr).symm
      show St0 _ (fl ([] ++ []) fr) _
      exact S
    · intro a w gd1 c fr hsz hdf hK ld1 hN hI S
      have F : Fr 52 a [(0, vversions1)] := Fr.of hsz hdf ⟨hK 0 (by decide) _ rfl, trivial⟩
      replace S : St gd1 [] fr w := S.of_eq (flat2 _ _ _ _)
      refine wl_ev (wn rfl) (ev_move rfl) F S rfl rfl ?_; clear F; intro a F
      refine wpList_nil ⟨rfl, F.sz, F.df, _, [], (Le.refl _), ?_, (lst1 (F.get 31 _ rfl))⟩
      refine St0.of_eq ?_ (flat3 c [] [] fr).symm
      show St0 _ (fl ([] ++ []) fr) _
      exact S
    · intro a w gd1 c fr hsz hdf hK ld1 hN hI S
      have e4 := hN 4 (by decide)
      have e31x : val a 31 = vversions1 := nth e4 0
      have F : Fr 52 a [(31, vversions1)] := Fr.of hsz hdf ⟨e31x, trivial⟩
      replace S : St gd1 [] fr w := S.of_eq (flat2 _ _ _ _)
      refine wl_ev (wn rfl) (ev_lenSh hversions1 rfl tu22) F S rfl rfl ?_; clear F; intro a F
      refine wpList_nil ⟨rfl, F.sz, F.df, _, [], (Le.refl _), ?_, (lst1 (F.get 32 _ rfl))⟩
      refine St0.of_eq ?_ (flat3 c [] [] fr).symm
      show St0 _ (fl ([] ++ []) fr) _
      exact S
    · intro a w gd1 c fr hsz hdf hK ld1 hN hI S
      have e5 := hN 5 (by decide)
      have e32x : val a 32 = .int .i64 (versions.length : Int) := nth e5 0
      have F : Fr 52 a [(32, .int .i64 (versions.length : Int))] := Fr.of hsz hdf ⟨e32x, trivial⟩
      replace S : St gd1 [] fr w := S.of_eq (flat2 _ _ _ _)
      refine wl_ev (wn rfl) (ev_int rfl rfl (bo_sub hz1)) F S rfl rfl ?_; clear F; intro a F
      refine wpList_nil ⟨rfl, F.sz, F.df, _, [], (Le.refl _), ?_, (lst1 (F.get 33 _ rfl))⟩
      refine St0.of_eq ?_ (flat3 c [] [] fr).symm
      show St0 _ (fl ([] ++ []) fr) _
      exact S
    · intro a w gd1 c fr hsz hdf hK ld1 hN hI S
      have e3 := hN 3 (by decide)
      have e30x : val a 30 = vversions1 := nth e3 0
      have e6 := hN 6 (by decide)
      have e33x : val a 33 = .int .i64 z1 := nth e6 0
      have F : Fr 52 a [(30, vversions1), (33, .int .i64 z1)] := Fr.of hsz hdf ⟨e30x, e33x, trivial⟩
      replace S : St gd1 [] fr w := S.of_eq (flat2 _ _ _ _)
      obtain ⟨cs2, hr2, hp1⟩ := elemS (hversions1.mono (l1.trans ld1)) hy4
      obtain ⟨v4, rfl, h4⟩ := rep_list hr2
      refine wl_ev (wn rfl) (ev_idxS (hversions1.mono (l1.trans ld1)) hy4 tu22 ts31 rfl rfl) F S rfl rfl ?_; clear F; intro a F
      refine wpList_nil ⟨rfl, F.sz, F.df, _, [], (Le.refl _), ?_, ⟨v4, (lst1 (F.get 34 _ rfl)), h4, hp1⟩⟩
      refine St0.of_eq ?_ (flat3 c [] [] fr).symm
      show St0 _ (fl ([] ++ []) fr) _
      exact S
    · intro a w gd1 c fr hsz hdf hK ld1 hN hI S
      obtain ⟨lv1, e7, lh1, lh2⟩ := hN 7 (by decide)
      have e34x : val a 34 = (elemP vversions1 z1 1) := nth e7 0
      have F : Fr 52 a [(34, (elemP vversions1 z1 1))] := Fr.of hsz hdf ⟨e34x, trivial⟩
      replace S : St gd1 [] fr w := S.of_eq (flat2 _ _ _ _)
      refine wl_ev (wn rfl) (ev_load1 tu31 rfl rfl (ptr_mono (cks := []) (fr := fr) lh2 (Le.refl _))) F S rfl rfl ?_; clear F; intro a F
      refine wpList_nil ⟨rfl, F.sz, F.df, _, [], (Le.refl _), ?_, ⟨lv1, (lst1 (F.get 35 _ rfl)), lh1⟩⟩
      refine St0.of_eq ?_ (flat3 c [] [] fr).symm
      show St0 _ (fl ([] ++ []) fr) _
      exact S
    · intro a w gd1 c fr hsz hdf hK ld1 hN hI S
      obtain ⟨v4, e8, lh1⟩ := hN 8 (by decide)
      have e35x : val a 35 = v4 := nth e8 0
      have F : Fr 52 a [(35, v4)] := Fr.of hsz hdf ⟨e35x, trivial⟩
      replace S : St gd1 [] fr w := S.of_eq (flat2 _ _ _ _)
      refine wl_lit (l := ([y4] : List (List ByteArray))) (vs := [v4]) (parts := [(0, .tmp 35)]) (wn rfl) rfl rfl rfl tu22 te31 (sz_cons lh1.csz sz_nil) rfl (Cat.cons ⟨_, rfl, lh1⟩ (Cat.nil _)) (coa_cons lh1.cl coa_nil) rfl F S rfl rfl ?_; clear F S
      rintro v5 c3 a w h5 F S
      refine wpList_nil ⟨rfl, F.sz, F.df, _, c3, (Le.refl _), ?_, ⟨v5, (lst1 (F.get 36 _ rfl)), h5⟩⟩
      refine St0.of_eq ?_ (flat3s c (c3) [] fr).symm
      show St0 _ (fl ([c3] ++ []) fr) _
      exact S
    · intro a w gd1 c fr hsz hdf hK ld1 hN hI S
      obtain ⟨v3, e2, lh1⟩ := hN 2 (by decide)
      have e29x : val a 29 = v3 := nth e2 0
      obtain ⟨v5, e9, lh2⟩ := hN 9 (by decide)
      have e36x : val a 36 = v5 := nth e9 0
      have F : Fr 52 a [(29, v3), (36, v5)] := Fr.of hsz hdf ⟨e29x, e36x, trivial⟩
      replace S : St gd1 [c 2, c 9] fr w := S.of_eq (flat2 _ _ _ _)
      obtain ⟨cs3, hk2, hr3⟩ := OwnS.reads lh2
      refine wl_append (wn rfl) rfl tu22 tu22 te31 (by decide) (by decide) F S rfl rfl (k := 0) rfl lh1 hk2 rfl (hr3 _ _ _ 1 rfl S) hy5 rfl rfl ?_; clear F S
      rintro v6 c4 a w h6 S F; replace S : St gd1 [c4, (c 9)] fr w := S
      refine wpList_nil ⟨rfl, F.sz, F.df, _, c4, (Le.refl _), ?_, ⟨v6, (lst1 (F.get 37 _ rfl)), h6⟩⟩
      refine St0.of_eq ?_ (flat3s c (c4) [9] fr).symm
      show St0 _ (fl ([c4] ++ [c 9]) fr) _
      exact S
    · intro a w gd1 c fr hsz hdf hK ld1 hN hI S
      obtain ⟨v6, e10, lh1⟩ := hN 10 (by decide)
      have e37x : val a 37 = v6 := nth e10 0
      have F : Fr 52 a [(37, v6)] := Fr.of hsz hdf ⟨e37x, trivial⟩
      replace S : St gd1 [c 10] fr w := S.of_eq (flat2 _ _ _ _)
      obtain ⟨g3, l3, S, h7⟩ : ∃ gz, Le gd1 gz ∧ St gz [] fr w ∧ RepSl gz y5 v6 := ⟨_, Le.add _ _, S.freeze 0 rfl, OwnS.freeze (S.front 0 rfl) lh1⟩
      refine wl_call (wn rfl) rfl (xs := [.tmp 37]) (vs := [v6]) (cap := []) F rfl rfl tc10 (blame_Annotate_ok (g := g3) (fr := fr) (w := w) y5 v6 h7 S hy6) rfl rfl ?_; clear F S
      rintro _ a w ⟨g4, v7, l4, S, h8, rfl⟩ F; replace S : St g4 [] fr w := S
      refine wpList_nil ⟨rfl, F.sz, F.df, _, [], (l3.trans l4), ?_, ⟨v7, (lst1 (F.get 38 _ rfl)), h8⟩⟩
      refine St0.of_eq ?_ (flat3 c [] [] fr).symm
      show St0 _ (fl ([] ++ []) fr) _
      exact S
    · intro a w gd1 c fr hsz hdf hK ld1 hN hI S
      obtain ⟨v7, e11, lh1⟩ := hN 11 (by decide)
      have e38x : val a 38 = .tuple #[v7, .agg #[.int .i64 y6.2.Code, .int .i64 y6.2.Index]] := nth e11 0
      have F : Fr 52 a [(38, .tuple #[v7, .agg #[.int .i64 y6.2.Code, .int .i64 y6.2.Index]])] := Fr.of hsz hdf ⟨e38x, trivial⟩
      replace S : St gd1 [] fr w := S.of_eq (flat2 _ _ _ _)
      refine wl_ev (wn rfl) (ev_move rfl) F S rfl rfl ?_; clear F; intro a F
      refine wpList_nil ⟨rfl, F.sz, F.df, _, [], (Le.refl _), ?_, ⟨v7, (lst2 (F.get 26 _ rfl) (F.get 38 _ rfl))⟩⟩
      refine St0.of_eq ?_ (flat3 c [] [] fr).symm
      show St0 _ (fl ([] ++ []) fr) _
      exact S
    · intro a w gd1 c fr hsz hdf hK ld1 hN hI S
      obtain ⟨v7, e11, lh1⟩ := hN 11 (by decide)
      have e38x : val a 38 = .tuple #[v7, .agg #[.int .i64 y6.2.Code, .int .i64 y6.2.Index]] := nth e11 0
      obtain ⟨dup1, e12⟩ := hN 12 (by decide)
      obtain rfl : v7 = dup1 := by have := e38x.symm.trans (nth e12 1); simpa using this
      have e26x : val a 26 = .tuple #[v7, .agg #[.int .i64 y6.2.Code, .int .i64 y6.2.Index]] := nth e12 0
      have F : Fr 52 a [(38, .tuple #[v7, .agg #[.int .i64 y6.2.Code, .int .i64 y6.2.Index]]), (26, .tuple #[v7, .agg #[.int .i64 y6.2.Code, .int .i64 y6.2.Index]])] := Fr.of hsz hdf ⟨e38x, e26x, trivial⟩
      replace S : St gd1 [] fr w := S.of_eq (flat2 _ _ _ _)
      refine wl_ev (wn rfl) (ev_extract (vs := [v7, .agg #[.int .i64 y6.2.Code, .int .i64 y6.2.Index]]) rfl rfl) F S rfl rfl ?_; clear F; intro a F
      refine wpList_nil ⟨rfl, F.sz, F.df, _, [], (Le.refl _), ?_, ⟨v7, (lst2 (F.get 39 _ rfl) (F.get 38 _ rfl))⟩⟩
      refine St0.of_eq ?_ (flat3 c [] [] fr).symm
      show St0 _ (fl ([] ++ []) fr) _
      exact S
    · intro a w gd1 c fr hsz hdf hK ld1 hN hI S
      obtain ⟨v7, e11, lh1⟩ := hN 11 (by decide)
      have e38x : val a 38 = .tuple #[v7, .agg #[.int .i64 y6.2.Code, .int .i64 y6.2.Index]] := nth e11 0
      obtain ⟨dup1, e12⟩ := hN 12 (by decide)
      obtain rfl : v7 = dup1 := by have := e38x.symm.trans (nth e12 1); simpa using this
      have e26x : val a 26 = .tuple #[v7, .agg #[.int .i64 y6.2.Code, .int .i64 y6.2.Index]] := nth e12 0
      have F : Fr 52 a [(38, .tuple #[v7, .agg #[.int .i64 y6.2.Code, .int .i64 y6.2.Index]]), (26, .tuple #[v7, .agg #[.int .i64 y6.2.Code, .int .i64 y6.2.Index]])] := Fr.of hsz hdf ⟨e38x, e26x, trivial⟩
      replace S : St gd1 [] fr w := S.of_eq (flat2 _ _ _ _)
      refine wl_ev (wn rfl) (ev_extract (vs := [v7, .agg #[.int .i64 y6.2.Code, .int .i64 y6.2.Index]]) rfl rfl) F S rfl rfl ?_; clear F; intro a F
      refine wpList_nil ⟨rfl, F.sz, F.df, _, [], (Le.refl _), ?_, (lst1 (F.get 40 _ rfl))⟩
      refine St0.of_eq ?_ (flat3 c [] [] fr).symm
      show St0 _ (fl ([] ++ []) fr) _
      exact S
    · intro a w gd1 c fr hsz hdf hK ld1 hN hI S
      have F : Fr 52 a [] := Fr.of hsz hdf trivial
      replace S : St gd1 [] fr w := S.of_eq (flat2 _ _ _ _)
      refine wl_alloc (wn rfl) rfl tz25 (cs := [.int .i64 0, .int .i64 0]) rfl F S rfl rfl ?_; clear F S; rintro b2 a w F S
      refine wpList_nil ⟨rfl, F.sz, F.df, _, [(b2, .cells #[.int .i64 0, .int .i64 0] 25 (0, 0))], (Le.refl _), ?_, ⟨b2, (lst1 (F.get 6 _ rfl)), rfl⟩⟩
      refine St0.of_eq ?_ (flat3s c ([(b2, .cells #[.int .i64 0, .int .i64 0] 25 (0, 0))]) [] fr).symm
      show St0 _ (fl ([[(b2, .cells #[.int .i64 0, .int .i64 0] 25 (0, 0))]] ++ []) fr) _
      exact S
    · intro a w gd1 c fr hsz hdf hK ld1 hN hI S
      obtain ⟨v7, e11, lh1⟩ := hN 11 (by decide)
      have e38x : val a 38 = .tuple #[v7, .agg #[.int .i64 y6.2.Code, .int .i64 y6.2.Index]] := nth e11 0
      obtain ⟨dup1, e13⟩ := hN 13 (by decide)
      obtain rfl : v7 = dup1 := by have := e38x.symm.trans (nth e13 1); simpa using this
      have e39x : val a 39 = v7 := nth e13 0
      have F : Fr 52 a [(38, .tuple #[v7, .agg #[.int .i64 y6.2.Code, .int .i64 y6.2.Index]]), (39, v7)] := Fr.of hsz hdf ⟨e38x, e39x, trivial⟩
      replace S : St gd1 [] fr w := S.of_eq (flat2 _ _ _ _)
      refine wl_ev (wn rfl) (ev_assign rfl) F S rfl rfl ?_; clear F; intro a F
      refine wpList_nil ⟨rfl, F.sz, F.df, _, [], (Le.refl _), ?_, ⟨v7, (lst2 (F.get 5 _ rfl) (F.get 38 _ rfl))⟩⟩
      refine St0.of_eq ?_ (flat3 c [] [] fr).symm
      show St0 _ (fl ([] ++ []) fr) _
      exact S
    · intro a w gd1 c fr hsz hdf hK ld1 hN hI S
      have e14 := hN 14 (by decide)
      have e40x : val a 40 = .agg #[.int .i64 y6.2.Code, .int .i64 y6.2.Index] := nth e14 0
      obtain ⟨b2, e15, q15⟩ := hN 15 (by decide)
      have e6x : val a 6 = .pointer (some ⟨b2, 0, Option.none⟩) := nth e15 0
      have F : Fr 52 a [(40, .agg #[.int .i64 y6.2.Code, .int .i64 y6.2.Index]), (6, .pointer (some ⟨b2, 0, Option.none⟩))] := Fr.of hsz hdf ⟨e40x, e6x, trivial⟩
      replace S : St gd1 [c 15] fr w := S.of_eq (flat2 _ _ _ _)
      rw [q15] at S
      refine wl_storeC (wn rfl) rfl F S rfl rfl (vs := [.int .i64 y6.2.Code, .int .i64 y6.2.Index]) rfl ts25 (one_cons rfl (one_cons rfl one_nil)) (k := 0) rfl (Nat.le_of_ble_eq_true rfl) (c' := #[.int .i64 y6.2.Code, .int .i64 y6.2.Index]) rfl rfl ?_; clear S; intro w S
      replace S : St gd1 [[(b2, .cells #[.int .i64 y6.2.Code, .int .i64 y6.2.Index] 25 (0, 0))]] fr w := S
      refine wpList_nil ⟨rfl, F.sz, F.df, _, [(b2, .cells #[.int .i64 y6.2.Code, .int .i64 y6.2.Index] 25 (0, 0))], (Le.refl _), ?_, ⟨b2, (lst1 (F.get 6 _ rfl)), rfl⟩⟩
      refine St0.of_eq ?_ (flat3s c ([(b2, .cells #[.int .i64 y6.2.Code, .int .i64 y6.2.Index] 25 (0, 0))]) [] fr).symm
      show St0 _ (fl ([[(b2, .cells #[.int .i64 y6.2.Code, .int .i64 y6.2.Index] 25 (0, 0))]] ++ []) fr) _
      exact S
    clear F S; intro a w gd1 c hsz hdf hK ld1 hI S hN
    obtain ⟨v5, e9, lh1⟩ := hN 9 (by decide)
    have e36x : val a 36 = v5 := nth e9 0
    obtain ⟨v7, e11, lh2⟩ := hN 11 (by decide)
    have e38x : val a 38 = .tuple #[v7, .agg #[.int .i64 y6.2.Code, .int .i64 y6.2.Index]] := nth e11 0
    obtain ⟨b2, e15, q15⟩ := hN 15 (by decide)
    have e6x : val a 6 = .pointer (some ⟨b2, 0, Option.none⟩) := nth e15 0
    obtain ⟨dup1, e16⟩ := hN 16 (by decide)
    obtain rfl : v7 = dup1 := by have := e38x.symm.trans (nth e16 1); simpa using this
    have e5x : val a 5 = v7 := nth e16 0
    obtain ⟨dup2, e17, q17⟩ := hN 17 (by decide)
    obtain rfl : b2 = dup2 := by have := e6x.symm.trans (nth e17 0); simpa using this
    have F : Fr 52 a [(3, v1), (6, .pointer (some ⟨b2, 0, Option.none⟩)), (5, v7)] := Fr.of hsz hdf ⟨hK 3 (by decide) _ rfl, e6x, e5x, trivial⟩
    replace S : St gd1 [c 1, c 3, c 4, c 5, c 6, c 7, c 8, c 9, c 11, c 12, c 13, c 14, c 16, c 17, c 18] fr w := S.of_eq (flat_fl _ _ _)
    generalize c 9 = c3 at *
    rw [q17] at S
    have q18 : c 18 = [(b1, .cells #[.int .i64 y1.2.Code, .int .i64 y1.2.Index] 25 (0, 0))] := hI 0 _ rfl
    rw [q18] at S
    replace S : St gd1 [[(b2, .cells #[.int .i64 y6.2.Code, .int .i64 y6.2.Index] 25 (0, 0))]] fr w := St.tail [[(b2, .cells #[.int .i64 y6.2.Code, .int .i64 y6.2.Index] 25 (0, 0))]] _ (S.frontC 13 rfl)
    clear hK hI hN hsz hdf e9 e11 e15 e16 e17 e36x e38x e6x e5x
    refine then_n ?_
    refine wp_seq ?_
    refine wp_region_lit ?_
    refine wl_ev (wn rfl) (ev_fieldAddr' tu25 tf25_0 (z := 0) ts3 rfl ⟨_, rfl⟩ rfl) F S rfl rfl ?_; clear F a; intro a F
    refine wl_ev (wn rfl) (ev_load1 tu3 rfl rfl (box_ptr (cells := [.int .i64 y6.2.Code]) 0 rfl 0 rfl (Nat.le_of_ble_eq_true rfl))) F S rfl rfl ?_; clear F a; intro a F
    refine wl_ev (wn rfl) (ev_int rfl rfl (bo_eql _ _ _ _)) F S rfl rfl ?_; clear F a; intro a F
    refine wl_ev (wn rfl) (ev_move rfl) F S rfl rfl ?_; clear F a; intro a F
    obtain ⟨x3, hx3, hm⟩ := bind_some hm
    refine wl_cut 4 (fun a w => ∃ g5, Fr 52 a [(48, .bool x3)] ∧ Le gd1 g5 ∧ St g5 [[(b2, .cells #[.int .i64 y6.2.Code, .int .i64 y6.2.Index] 25 (0, 0))]] fr w) ?_ ?_
    · clear hm; obtain ⟨hc4, hm⟩ | ⟨hc4, hm⟩ := ite_or hx3
      · refine wl_ev (wg F rfl rfl rfl rfl hc4) (ev_move rfl) F S rfl rfl ?_; clear F a; intro a F
        refine wl_ev (wg F rfl rfl rfl rfl hc4) (ev_move rfl) F S rfl rfl ?_; clear F a; intro a F
        obtain ⟨y7, hy7, hm⟩ := bind_some hm
        refine wl_call (wg F rfl rfl rfl rfl hc4) rfl (xs := [.tmp 45, .tmp 46]) (vs := [v1, v7]) (cap := []) F rfl rfl tc14 (changeforgeequal_Ints_ok (g := gd1) (fr := (fl [[(b2, .cells #[.int .i64 y6.2.Code, .int .i64 y6.2.Index] 25 (0, 0))]] fr)) (w := w) y1.1 v1 (h1.mono ld1) y6.1 v7 lh2 S hy7) rfl rfl ?_; clear F a S
        rintro _ a w ⟨g6, l6, S, rfl⟩ F; replace S : St g6 [[(b2, .cells #[.int .i64 y6.2.Code, .int .i64 y6.2.Index] 25 (0, 0))]] fr w := S
        refine wl_ev (wn rfl) (ev_pickT rfl hc4 rfl) F S rfl rfl ?_; clear F a; intro a F
        obtain rfl := Option.some.inj hm
        refine wpList_nil (then_n ?_); exact ⟨g6, F.sub ⟨rfl, trivial⟩, l6, S⟩
      · refine wl_skip rfl rfl rfl rfl (ne_tf hc4) F rfl rfl ?_; clear F a; intro a F
        refine wl_skip rfl rfl rfl rfl (ne_tf hc4) F rfl rfl ?_; clear F a; intro a F
        refine wl_skip rfl rfl rfl rfl (ne_tf hc4) F rfl rfl ?_; clear F a; intro a F
        refine wl_ev (wn rfl) (ev_pickF rfl hc4 rfl) F S rfl rfl ?_; clear F a; intro a F
        obtain rfl := Option.some.inj hm
        refine wpList_nil (then_n ?_); exact ⟨gd1, F.sub ⟨rfl, trivial⟩, (Le.refl _), S⟩
    clear F S; rintro a w ⟨g5, F, l5, S⟩
    refine wl_ev (wn rfl) (ev_move rfl) F S rfl rfl ?_; clear F a; intro a F
    obtain ⟨x4, hx4, hm⟩ := bind_some hm
    refine wl_cut 2 (fun a w => ∃ g7, Fr 52 a [(51, .bool x4)] ∧ Le g5 g7 ∧ St g7 [[(b2, .cells #[.int .i64 y6.2.Code, .int .i64 y6.2.Index] 25 (0, 0))]] fr w) ?_ ?_
    · clear hm; obtain ⟨hc5, hm⟩ | ⟨hc5, hm⟩ := ite_or hx4
      · obtain ⟨y8, hy8, hm⟩ := bind_some hm
        refine wl_call (wg F rfl rfl rfl rfl hc5) rfl (xs := []) (vs := []) (cap := []) F rfl rfl tc12 (changeforgelaw2_added_ok (g := g5) (fr := (fl [[(b2, .cells #[.int .i64 y6.2.Code, .int .i64 y6.2.Index] 25 (0, 0))]] fr)) (w := w)  S hy8) rfl rfl ?_; clear F a S
        rintro _ a w ⟨g8, l8, S, rfl⟩ F; replace S : St g8 [[(b2, .cells #[.int .i64 y6.2.Code, .int .i64 y6.2.Index] 25 (0, 0))]] fr w := S
        refine wl_ev (wn rfl) (ev_pickT rfl hc5 rfl) F S rfl rfl ?_; clear F a; intro a F
        obtain rfl := Option.some.inj hm
        refine wpList_nil (then_n ?_); exact ⟨g8, F.sub ⟨rfl, trivial⟩, l8, S⟩
      · refine wl_skip rfl rfl rfl rfl (ne_tf hc5) F rfl rfl ?_; clear F a; intro a F
        refine wl_ev (wn rfl) (ev_pickF rfl hc5 rfl) F S rfl rfl ?_; clear F a; intro a F
        obtain rfl := Option.some.inj hm
        refine wpList_nil (then_n ?_); exact ⟨g5, F.sub ⟨rfl, trivial⟩, (Le.refl _), S⟩
    clear F S; rintro a w ⟨g7, F, l7, S⟩
    refine wl_ev (wn rfl) (ev_assign rfl) F S rfl rfl ?_; clear F a; intro a F
    refine wpList_nil ?_
    replace F := F.sub (e' := [(2, .bool x4)]) ⟨rfl, trivial⟩
    refine then_n ?_
    refine wp_ret ?_
    obtain rfl := Option.some.inj hm
    refine post_r (fn := Try.f5) (rs := [.tmp 2]) [.bool x4] F rfl (ar_cons (resT rfl) ar_nil) ?_
    replace S : St g7 [] fr w := St.tail [] _ S
    exact ⟨_, rfl, g7, (((l1.trans ld1).trans l5).trans l7), S, rfl⟩

theorem lines_Both_ok {g : Gh} {fr : Hl} {w : World} {r : Fault} (a_ : (List ByteArray)) (va_1 : Value) (ha_1 : RepSl g a_ va_1) (b_ : (List ByteArray)) (vb_1 : Value) (hb_1 : RepSl g b_ vb_1) (S : St g [] fr w) (hm : lines_Both a_ b_ = some r) :
    Calls Try.prog 28 [va_1, vb_1].toArray w (fun en w' => ∃ v, en = .returned v ∧ ∃ (g' : Gh), Le g g' ∧ St g' [] fr w' ∧ .agg #[.int .i64 r.Code, .int .i64 r.Index] = v) := by
  unfold lines_Both at hm
  refine calls_enter (fn := Try.f28) Try.func28 rfl Try.ntmps28 (Nat.le_of_ble_eq_true rfl) ?_
  intro a F
  replace F : Fr 14 a [(0, va_1), (1, vb_1)] := F
  refine wp_seq ?_
  refine wp_region_lit ?_
  refine wl_alloc (wn rfl) rfl tz25 (cs := [.int .i64 0, .int .i64 0]) rfl F S rfl rfl ?_; clear F a S; rintro b1 a w F S
  refine wpList_nil ?_
  refine then_n ?_
  refine wp_seq ?_
  refine wp_seq ?_
  refine wp_region_lit ?_
  refine wl_ev (wn rfl) (ev_move rfl) F S rfl rfl ?_; clear F a; intro a F
  obtain ⟨y1, hy1, hm⟩ := bind_some hm
  refine wl_call (wn rfl) rfl (xs := [.tmp 6]) (vs := [va_1]) (cap := []) F rfl rfl tc33 (lines_Validate_ok (g := g) (fr := (fl [[(b1, .cells #[.int .i64 0, .int .i64 0] 25 (0, 0))]] fr)) (w := w) a_ va_1 ha_1 S hy1) rfl rfl ?_; clear F a S
  rintro _ a w ⟨g1, l1, S, rfl⟩ F; replace S : St g1 [[(b1, .cells #[.int .i64 0, .int .i64 0] 25 (0, 0))]] fr w := S
  refine wl_alloc (wn rfl) rfl tz25 (cs := [.int .i64 0, .int .i64 0]) rfl F S rfl rfl ?_; clear F a S; rintro b2 a w F S
  refine wl_storeC (wn rfl) rfl F S rfl rfl (vs := [.int .i64 y1.Code, .int .i64 y1.Index]) rfl ts25 (one_cons rfl (one_cons rfl one_nil)) (k := 0) rfl (Nat.le_of_ble_eq_true rfl) (c' := #[.int .i64 y1.Code, .int .i64 y1.Index]) rfl rfl ?_; clear S; intro w S
  replace S : St g1 [[(b2, .cells #[.int .i64 y1.Code, .int .i64 y1.Index] 25 (0, 0))], [(b1, .cells #[.int .i64 0, .int .i64 0] 25 (0, 0))]] fr w := S
  refine wpList_nil ?_
  replace F := F.sub (e' := [(5, .pointer (some ⟨b2, 0, Option.none⟩)), (4, .pointer (some ⟨b1, 0, Option.none⟩)), (1, vb_1)]) ⟨rfl, rfl, rfl, trivial⟩
  refine then_n ?_
  refine wp_seq ?_
  refine wp_region_lit ?_
  refine wl_ev (wn rfl) (ev_loadA tu25 rfl (cs := [.int .i64 y1.Code, .int .i64 y1.Index]) ts25 rfl (box_ptr (cells := [.int .i64 y1.Code, .int .i64 y1.Index]) 0 rfl 0 rfl (Nat.le_of_ble_eq_true rfl))) F S rfl rfl ?_; clear F a; intro a F
  refine wl_ev (wn rfl) (ev_build (parts := []) (vs := []) rfl (fun w => tb25_  w)) F S rfl rfl ?_; clear F a; intro a F
  refine wl_ev (wn rfl) (ev_neS tu25 tqa25 tqb25 tqc25 (xs := [.int .i64 y1.Code, .int .i64 y1.Index]) (ys := [.int .i64 0, .int .i64 0]) rfl rfl ⟨_, _, rfl, by decide, ⟨_, _, rfl, rfl, leaf_int tu3⟩, ⟨_, _, rfl, by decide, ⟨_, _, rfl, rfl, leaf_int tu3⟩, rfl⟩⟩) F S rfl rfl ?_; clear F a; intro a F
  refine wpList_nil ?_
  replace F := F.sub (e' := [(10, .bool (!(decide (y1.Code = 0) && decide (y1.Index = 0)))), (5, .pointer (some ⟨b2, 0, Option.none⟩)), (4, .pointer (some ⟨b1, 0, Option.none⟩)), (1, vb_1)]) ⟨rfl, rfl, rfl, rfl, trivial⟩
  refine then_n ?_
  obtain ⟨hc1, hm⟩ | ⟨hc1, hm⟩ := ite_or hm
  · refine wp_condT F rfl hc1 ?_
    refine wp_seq ?_
    refine wp_region_lit ?_
    refine wl_ev (wn rfl) (ev_loadA tu25 rfl (cs := [.int .i64 y1.Code, .int .i64 y1.Index]) ts25 rfl (box_ptr (cells := [.int .i64 y1.Code, .int .i64 y1.Index]) 0 rfl 0 rfl (Nat.le_of_ble_eq_true rfl))) F S rfl rfl ?_; clear F a; intro a F
    refine wl_storeC (wn rfl) rfl F S rfl rfl (vs := [.int .i64 y1.Code, .int .i64 y1.Index]) rfl ts25 (one_cons rfl (one_cons rfl one_nil)) (k := 1) rfl (Nat.le_of_ble_eq_true rfl) (c' := #[.int .i64 y1.Code, .int .i64 y1.Index]) rfl rfl ?_; clear S; intro w S
    replace S : St g1 [[(b2, .cells #[.int .i64 y1.Code, .int .i64 y1.Index] 25 (0, 0))], [(b1, .cells #[.int .i64 y1.Code, .int .i64 y1.Index] 25 (0, 0))]] fr w := S
    refine wpList_nil ?_
    replace F := F.sub (e' := [(4, .pointer (some ⟨b1, 0, Option.none⟩))]) ⟨rfl, trivial⟩
    refine then_n ?_
    refine wp_ret ?_
    refine then_r ?_
    obtain rfl := Option.some.inj hm
    refine post_r (fn := Try.f28) (rs := [.cell 4 25]) [.agg #[.int .i64 y1.Code, .int .i64 y1.Index]] F rfl (ar_cons (resA rfl tu25 rfl ts25 (box_ptr (cells := [.int .i64 y1.Code, .int .i64 y1.Index]) 1 rfl 0 rfl (Nat.le_of_ble_eq_true rfl) w S)) ar_nil) ?_
    replace S : St g1 [] fr w := St.tail [] _ S
    exact ⟨_, rfl, g1, l1, S, rfl⟩
  · refine wp_condF F rfl hc1 ?_
    refine wp_skip ?_
    refine then_n ?_
    refine wp_seq ?_
    refine wp_region_lit ?_
    refine wl_ev (wn rfl) (ev_move rfl) F S rfl rfl ?_; clear F a; intro a F
    obtain ⟨y2, hy2, hm⟩ := bind_some hm
    refine wl_call (wn rfl) rfl (xs := [.tmp 12, .const (.int .i64 (-2))]) (vs := [vb_1, .int .i64 (-2)]) (cap := []) F rfl rfl tc23 (lines_Second_ok (g := g1) (fr := (fl [[(b2, .cells #[.int .i64 y1.Code, .int .i64 y1.Index] 25 (0, 0))], [(b1, .cells #[.int .i64 0, .int .i64 0] 25 (0, 0))]] fr)) (w := w) b_ vb_1 (hb_1.mono l1) (-2) S hy2) rfl rfl ?_; clear F a S
    rintro _ a w ⟨g2, l2, S, rfl⟩ F; replace S : St g2 [[(b2, .cells #[.int .i64 y1.Code, .int .i64 y1.Index] 25 (0, 0))], [(b1, .cells #[.int .i64 0, .int .i64 0] 25 (0, 0))]] fr w := S
    refine wl_storeC (wn rfl) rfl F S rfl rfl (vs := [.int .i64 y2.Code, .int .i64 y2.Index]) rfl ts25 (one_cons rfl (one_cons rfl one_nil)) (k := 1) rfl (Nat.le_of_ble_eq_true rfl) (c' := #[.int .i64 y2.Code, .int .i64 y2.Index]) rfl rfl ?_; clear S; intro w S
    replace S : St g2 [[(b2, .cells #[.int .i64 y1.Code, .int .i64 y1.Index] 25 (0, 0))], [(b1, .cells #[.int .i64 y2.Code, .int .i64 y2.Index] 25 (0, 0))]] fr w := S
    refine wpList_nil ?_
    replace F := F.sub (e' := [(4, .pointer (some ⟨b1, 0, Option.none⟩))]) ⟨rfl, trivial⟩
    refine then_n ?_
    refine wp_ret ?_
    obtain rfl := Option.some.inj hm
    refine post_r (fn := Try.f28) (rs := [.cell 4 25]) [.agg #[.int .i64 y2.Code, .int .i64 y2.Index]] F rfl (ar_cons (resA rfl tu25 rfl ts25 (box_ptr (cells := [.int .i64 y2.Code, .int .i64 y2.Index]) 1 rfl 0 rfl (Nat.le_of_ble_eq_true rfl) w S)) ar_nil) ?_
    replace S : St g2 [] fr w := St.tail [] _ S
    exact ⟨_, rfl, g2, (l1.trans l2), S, rfl⟩

theorem diff_Distance_ok {g : Gh} {fr : Hl} {w : World} {r : Int × Fault} (a_ : (List ByteArray)) (va_1 : Value) (ha_1 : RepSl g a_ va_1) (b_ : (List ByteArray)) (vb_1 : Value) (hb_1 : RepSl g b_ vb_1) (S : St g [] fr w) (hm : diff_Distance a_ b_ = some r) :
    Calls Try.prog 27 [va_1, vb_1].toArray w (fun en w' => ∃ v, en = .returned v ∧ ∃ (g' : Gh), Le g g' ∧ St g' [] fr w' ∧ .tuple #[.int .i64 r.1, .agg #[.int .i64 r.2.Code, .int .i64 r.2.Index]] = v) := by
  unfold diff_Distance at hm
  refine calls_enter (fn := Try.f27) Try.func27 rfl Try.ntmps27 (Nat.le_of_ble_eq_true rfl) ?_
  intro a F
  replace F : Fr 32 a [(0, va_1), (1, vb_1)] := F
  refine wp_seq ?_
  refine wp_region_lit ?_
  refine wl_ev (wn rfl) (ev_assign rfl) F S rfl rfl ?_; clear F a; intro a F
  refine wl_alloc (wn rfl) rfl tz25 (cs := [.int .i64 0, .int .i64 0]) rfl F S rfl rfl ?_; clear F a S; rintro b1 a w F S
  refine wpList_nil ?_
  replace F := F.sub (e' := [(5, .pointer (some ⟨b1, 0, Option.none⟩)), (0, va_1), (1, vb_1)]) ⟨rfl, rfl, rfl, trivial⟩
  refine then_n ?_
  refine wp_seq ?_
  refine wp_seq ?_
  refine wp_region_lit ?_
  refine wl_ev (wn rfl) (ev_move rfl) F S rfl rfl ?_; clear F a; intro a F
  refine wl_ev (wn rfl) (ev_move rfl) F S rfl rfl ?_; clear F a; intro a F
  obtain ⟨y1, hy1, hm⟩ := bind_some hm
  refine wl_call (wn rfl) rfl (xs := [.tmp 10, .tmp 11]) (vs := [va_1, vb_1]) (cap := []) F rfl rfl tc28 (lines_Both_ok (g := g) (fr := (fl [[(b1, .cells #[.int .i64 0, .int .i64 0] 25 (0, 0))]] fr)) (w := w) a_ va_1 ha_1 b_ vb_1 hb_1 S hy1) rfl rfl ?_; clear F a S
  rintro _ a w ⟨g1, l1, S, rfl⟩ F; replace S : St g1 [[(b1, .cells #[.int .i64 0, .int .i64 0] 25 (0, 0))]] fr w := S
  refine wl_alloc (wn rfl) rfl tz25 (cs := [.int .i64 0, .int .i64 0]) rfl F S rfl rfl ?_; clear F a S; rintro b2 a w F S
  refine wl_storeC (wn rfl) rfl F S rfl rfl (vs := [.int .i64 y1.Code, .int .i64 y1.Index]) rfl ts25 (one_cons rfl (one_cons rfl one_nil)) (k := 0) rfl (Nat.le_of_ble_eq_true rfl) (c' := #[.int .i64 y1.Code, .int .i64 y1.Index]) rfl rfl ?_; clear S; intro w S
  replace S : St g1 [[(b2, .cells #[.int .i64 y1.Code, .int .i64 y1.Index] 25 (0, 0))], [(b1, .cells #[.int .i64 0, .int .i64 0] 25 (0, 0))]] fr w := S
  refine wpList_nil ?_
  replace F := F.sub (e' := [(6, .pointer (some ⟨b2, 0, Option.none⟩)), (5, .pointer (some ⟨b1, 0, Option.none⟩)), (0, va_1), (1, vb_1)]) ⟨rfl, rfl, rfl, rfl, trivial⟩
  refine then_n ?_
  refine wp_seq ?_
  refine wp_region_lit ?_
  refine wl_ev (wn rfl) (ev_loadA tu25 rfl (cs := [.int .i64 y1.Code, .int .i64 y1.Index]) ts25 rfl (box_ptr (cells := [.int .i64 y1.Code, .int .i64 y1.Index]) 0 rfl 0 rfl (Nat.le_of_ble_eq_true rfl))) F S rfl rfl ?_; clear F a; intro a F
  refine wl_ev (wn rfl) (ev_build (parts := []) (vs := []) rfl (fun w => tb25_  w)) F S rfl rfl ?_; clear F a; intro a F
  refine wl_ev (wn rfl) (ev_neS tu25 tqa25 tqb25 tqc25 (xs := [.int .i64 y1.Code, .int .i64 y1.Index]) (ys := [.int .i64 0, .int .i64 0]) rfl rfl ⟨_, _, rfl, by decide, ⟨_, _, rfl, rfl, leaf_int tu3⟩, ⟨_, _, rfl, by decide, ⟨_, _, rfl, rfl, leaf_int tu3⟩, rfl⟩⟩) F S rfl rfl ?_; clear F a; intro a F
  refine wpList_nil ?_
  replace F := F.sub (e' := [(15, .bool (!(decide (y1.Code = 0) && decide (y1.Index = 0)))), (6, .pointer (some ⟨b2, 0, Option.none⟩)), (5, .pointer (some ⟨b1, 0, Option.none⟩)), (0, va_1), (1, vb_1)]) ⟨rfl, rfl, rfl, rfl, rfl, trivial⟩
  refine then_n ?_
  obtain ⟨hc1, hm⟩ | ⟨hc1, hm⟩ := ite_or hm
  · refine wp_condT F rfl hc1 ?_
    refine wp_seq ?_
    refine wp_drawL ⟨2, [[16], [4], []], [[], [], [4]], [[3], [], []], [[6], [], [5]], [[], [], [0]], [5], [0, 1, 2, 3]⟩
      [([16], fun us g c => us = [.agg #[.int .i64 y1.Code, .int .i64 y1.Index]]),
       ([4], fun us g c => us = [.int .i64 0]),
       ([], fun us g c => us = [] ∧ c = [(b1, .cells #[.int .i64 y1.Code, .int .i64 y1.Index] 25 (0, 0))])]
      mo (by kernel_rfl) rfl rfl ⟨fun _ _ _ _ _ h => h, fun _ _ _ _ _ h => h, fun _ _ _ _ _ h => h, trivial⟩ F S ⟨?_, ?_, ?_, trivial⟩ ?_
    · intro a w gd1 c fr hsz hdf hK ld1 hN hI S
      have F : Fr 32 a [(6, .pointer (some ⟨b2, 0, Option.none⟩))] := Fr.of hsz hdf ⟨hK 6 (by decide) _ rfl, trivial⟩
      replace S : St gd1 [c 3] fr w := S.of_eq (flat2 _ _ _ _)
      have q3 : c 3 = [(b2, .cells #[.int .i64 y1.Code, .int .i64 y1.Index] 25 (0, 0))] := hI 0 _ rfl
      rw [q3] at S
      refine wl_ev (wn rfl) (ev_loadA tu25 rfl (cs := [.int .i64 y1.Code, .int .i64 y1.Index]) ts25 rfl (box_ptr (cells := [.int .i64 y1.Code, .int .i64 y1.Index]) 0 rfl 0 rfl (Nat.le_of_ble_eq_true rfl))) F S rfl rfl ?_; clear F; intro a F
      refine wpList_nil ⟨rfl, F.sz, F.df, _, [], (Le.refl _), ?_, (lst1 (F.get 16 _ rfl))⟩
      refine St0.of_eq ?_ (flat3 c [] [3] fr).symm
      show St0 _ (fl ([] ++ [c 3]) fr) _
      rw [q3]
      exact S
    · intro a w gd1 c fr hsz hdf hK ld1 hN hI S
      have F : Fr 32 a [] := Fr.of hsz hdf trivial
      replace S : St gd1 [] fr w := S.of_eq (flat2 _ _ _ _)
      refine wl_ev (wn rfl) (ev_assign rfl) F S rfl rfl ?_; clear F; intro a F
      refine wpList_nil ⟨rfl, F.sz, F.df, _, [], (Le.refl _), ?_, (lst1 (F.get 4 _ rfl))⟩
      refine St0.of_eq ?_ (flat3 c [] [] fr).symm
      show St0 _ (fl ([] ++ []) fr) _
      exact S
    · intro a w gd1 c fr hsz hdf hK ld1 hN hI S
      have e0 := hN 0 (by decide)
      have e16x : val a 16 = .agg #[.int .i64 y1.Code, .int .i64 y1.Index] := nth e0 0
      have F : Fr 32 a [(5, .pointer (some ⟨b1, 0, Option.none⟩)), (16, .agg #[.int .i64 y1.Code, .int .i64 y1.Index])] := Fr.of hsz hdf ⟨hK 5 (by decide) _ rfl, e16x, trivial⟩
      replace S : St gd1 [c 4] fr w := S.of_eq (flat2 _ _ _ _)
      have q4 : c 4 = [(b1, .cells #[.int .i64 0, .int .i64 0] 25 (0, 0))] := hI 1 _ rfl
      rw [q4] at S
      refine wl_storeC (wn rfl) rfl F S rfl rfl (vs := [.int .i64 y1.Code, .int .i64 y1.Index]) rfl ts25 (one_cons rfl (one_cons rfl one_nil)) (k := 0) rfl (Nat.le_of_ble_eq_true rfl) (c' := #[.int .i64 y1.Code, .int .i64 y1.Index]) rfl rfl ?_; clear S; intro w S
      replace S : St gd1 [[(b1, .cells #[.int .i64 y1.Code, .int .i64 y1.Index] 25 (0, 0))]] fr w := S
      refine wpList_nil ⟨rfl, F.sz, F.df, _, [(b1, .cells #[.int .i64 y1.Code, .int .i64 y1.Index] 25 (0, 0))], (Le.refl _), ?_, ⟨rfl, rfl⟩⟩
      refine St0.of_eq ?_ (flat3s c ([(b1, .cells #[.int .i64 y1.Code, .int .i64 y1.Index] 25 (0, 0))]) [] fr).symm
      show St0 _ (fl ([[(b1, .cells #[.int .i64 y1.Code, .int .i64 y1.Index] 25 (0, 0))]] ++ []) fr) _
      exact S
    clear F S; intro a w gd1 c hsz hdf hK ld1 hI S hN
    have e1 := hN 1 (by decide)
    have e4x : val a 4 = .int .i64 0 := nth e1 0
    obtain ⟨e2, q2⟩ := hN 2 (by decide)
    have F : Fr 32 a [(5, .pointer (some ⟨b1, 0, Option.none⟩)), (4, .int .i64 0)] := Fr.of hsz hdf ⟨hK 5 (by decide) _ rfl, e4x, trivial⟩
    replace S : St gd1 [c 0, c 1, c 2, c 3] fr w := S.of_eq (flat_fl _ _ _)
    rw [q2] at S
    have q3 : c 3 = [(b2, .cells #[.int .i64 y1.Code, .int .i64 y1.Index] 25 (0, 0))] := hI 0 _ rfl
    rw [q3] at S
    replace S : St gd1 [[(b1, .cells #[.int .i64 y1.Code, .int .i64 y1.Index] 25 (0, 0))]] fr w := St.tail [[(b1, .cells #[.int .i64 y1.Code, .int .i64 y1.Index] 25 (0, 0))]] _ (S.frontC 2 rfl)
    clear hK hI hN hsz hdf e1 e2 e4x
    refine then_n ?_
    refine wp_ret ?_
    refine then_r ?_
    obtain rfl := Option.some.inj hm
    refine post_r (fn := Try.f27) (rs := [.tmp 4, .cell 5 25]) [.int .i64 0, .agg #[.int .i64 y1.Code, .int .i64 y1.Index]] F rfl (ar_cons (resT rfl) (ar_cons (resA rfl tu25 rfl ts25 (box_ptr (cells := [.int .i64 y1.Code, .int .i64 y1.Index]) 0 rfl 0 rfl (Nat.le_of_ble_eq_true rfl) w S)) ar_nil)) ?_
    replace S : St gd1 [] fr w := St.tail [] _ S
    exact ⟨_, rfl, gd1, (l1.trans ld1), S, rfl⟩
  · refine wp_condF F rfl hc1 ?_
    refine wp_skip ?_
    refine then_n ?_
    refine wp_seq ?_
    refine wp_region_lit ?_
    refine wl_ev (wn rfl) (ev_assign rfl) F S rfl rfl ?_; clear F a; intro a F
    refine wpList_nil ?_
    replace F := F.sub (e' := [(7, .int .i64 0), (5, .pointer (some ⟨b1, 0, Option.none⟩)), (0, va_1), (1, vb_1)]) ⟨rfl, rfl, rfl, rfl, trivial⟩
    refine then_n ?_
    refine wp_cut (fun a w => ∃ (x1 : Int) (g2 : Gh), Fr 32 a [(7, .int .i64 x1), (5, .pointer (some ⟨b1, 0, Option.none⟩))] ∧ Le g1 g2 ∧ St g2 [[(b1, .cells #[.int .i64 0, .int .i64 0] 25 (0, 0))]] fr w ∧ diff_Distance.j1 x1 = some r) ?_ ?_
    · refine wp_seq ?_
      refine wp_region_lit ?_
      refine wl_ev (wn rfl) (ev_move rfl) F S rfl rfl ?_; clear F a; intro a F
      refine wl_ev (wn rfl) (ev_move rfl) F S rfl rfl ?_; clear F a; intro a F
      obtain ⟨y2, hy2, hm⟩ := bind_some hm
      refine wl_call (wn rfl) rfl (xs := [.tmp 17, .tmp 18]) (vs := [va_1, vb_1]) (cap := []) F rfl rfl tc24 (diff_Align_ok (g := g1) (fr := (fl [[(b2, .cells #[.int .i64 y1.Code, .int .i64 y1.Index] 25 (0, 0))], [(b1, .cells #[.int .i64 0, .int .i64 0] 25 (0, 0))]] fr)) (w := w) a_ va_1 (ha_1.mono l1) b_ vb_1 (hb_1.mono l1) S hy2) rfl rfl ?_; clear F a S
      rintro _ a w ⟨g3, v1, l3, S, h1, rfl⟩ F; replace S : St g3 [[(b2, .cells #[.int .i64 y1.Code, .int .i64 y1.Index] 25 (0, 0))], [(b1, .cells #[.int .i64 0, .int .i64 0] 25 (0, 0))]] fr w := S
      refine wl_ev (wn rfl) (ev_lenSh h1 rfl tu23) F S rfl rfl ?_; clear F a; intro a F
      refine wl_ev (wn rfl) (ev_move rfl) F S rfl rfl ?_; clear F a; intro a F
      refine wpList_nil ?_
      replace F := F.sub (e' := [(21, .int .i64 0), (20, .int .i64 (y2.length : Int)), (19, v1), (7, .int .i64 0), (5, .pointer (some ⟨b1, 0, Option.none⟩))]) ⟨rfl, rfl, rfl, rfl, rfl, trivial⟩
      refine then_n ?_
      refine wp_block ?_
      obtain ⟨r1, hr1, hm⟩ := bind_some hm
      have hmo1 := hm; clear hm
      refine wp_iter (σ := Int × Int) (ρ := Int) (m := fun s => diff_Distance.l1 y2 s.1 s.2) (I := fun s a w => match s with | (x2, x3) => ∃ (g4 : Gh), Fr 32 a [(21, .int .i64 x2), (20, .int .i64 (y2.length : Int)), (19, v1), (7, .int .i64 x3), (5, .pointer (some ⟨b1, 0, Option.none⟩))] ∧ Le g3 g4 ∧ St g4 [[(b1, .cells #[.int .i64 0, .int .i64 0] 25 (0, 0))]] fr w) hr1 ?_ ?_
      · dsimp only
        replace S : St g3 [[(b1, .cells #[.int .i64 0, .int .i64 0] 25 (0, 0))]] fr w := St.tail [[(b1, .cells #[.int .i64 0, .int .i64 0] 25 (0, 0))]] _ (S.frontC 1 rfl)
        exact ⟨g3, F.sub ⟨rfl, rfl, rfl, rfl, rfl, trivial⟩, (Le.refl _), S⟩
      · clear F S; rintro ⟨x2, x3⟩ a w x4 ⟨g4, F, l4, S⟩ hx1 hfin1
        have hm : diff_Distance.l1 y2 x2 x3 = some x4 := hx1; clear hx1
        unfold diff_Distance.l1 at hm
        refine wp_seq ?_
        refine wp_region_lit ?_
        refine wl_ev (wn rfl) (ev_int rfl rfl (bo_lss _ _ _ _)) F S rfl rfl ?_; clear F a; intro a F
        refine wpList_nil ?_
        refine then_n ?_
        refine wp_seq ?_
        obtain ⟨hc2, hm⟩ | ⟨hc2, hm⟩ := ite_or hm
        · refine wp_condT F rfl hc2 ?_
          refine wp_skip ?_
          refine then_n ?_
          refine wp_cut (fun a w => ∃ (x5 : Int) (g5 : Gh), Fr 32 a [(7, .int .i64 x5), (21, .int .i64 x2), (20, .int .i64 (y2.length : Int)), (19, v1), (5, .pointer (some ⟨b1, 0, Option.none⟩))] ∧ Le g4 g5 ∧ St g5 [[(b1, .cells #[.int .i64 0, .int .i64 0] 25 (0, 0))]] fr w ∧ diff_Distance.j2 x2 x5 = some x4) ?_ ?_
          · refine wp_block ?_
            refine wp_seq ?_
            refine wp_region_lit ?_
            obtain ⟨y3, hy3, hm⟩ := bind_some hm
            obtain ⟨cs1, hr2, hp1⟩ := elemS (h1.mono l4) hy3
            obtain rfl := rep_int hr2
            refine wl_ev (wn rfl) (ev_idxS (h1.mono l4) hy3 tu23 ts3 rfl rfl) F S rfl rfl ?_; clear F a; intro a F
            refine wl_ev (wn rfl) (ev_load1 tu3 rfl rfl (ptr_mono (cks := [[(b1, .cells #[.int .i64 0, .int .i64 0] 25 (0, 0))]]) (fr := fr) hp1 (Le.refl _))) F S rfl rfl ?_; clear F a; intro a F
            refine wl_ev (wn rfl) (ev_assign rfl) F S rfl rfl ?_; clear F a; intro a F
            refine wpList_nil ?_
            replace F := F.sub (e' := [(9, .int .i64 y3), (21, .int .i64 x2), (20, .int .i64 (y2.length : Int)), (19, v1), (7, .int .i64 x3), (5, .pointer (some ⟨b1, 0, Option.none⟩))]) ⟨rfl, rfl, rfl, rfl, rfl, rfl, trivial⟩
            refine then_n ?_
            refine wp_seq ?_
            refine wp_region_lit ?_
            refine wl_ev (wn rfl) (ev_move rfl) F S rfl rfl ?_; clear F a; intro a F
            refine wl_ev (wn rfl) (ev_int rfl rfl (bo_neq _ _ _ _)) F S rfl rfl ?_; clear F a; intro a F
            refine wpList_nil ?_
            replace F := F.sub (e' := [(26, .bool (!decide (y3 = 0))), (21, .int .i64 x2), (20, .int .i64 (y2.length : Int)), (19, v1), (7, .int .i64 x3), (5, .pointer (some ⟨b1, 0, Option.none⟩))]) ⟨rfl, rfl, rfl, rfl, rfl, rfl, trivial⟩
            refine then_n ?_
            obtain ⟨hc3, hm⟩ | ⟨hc3, hm⟩ := ite_or hm
            · refine wp_condT F rfl hc3 ?_
              refine wp_region_lit ?_
              refine wl_ev (wn rfl) (ev_move rfl) F S rfl rfl ?_; clear F a; intro a F
              obtain ⟨z2, hz2, hm⟩ := bind_some hm
              refine wl_ev (wn rfl) (ev_int rfl rfl (bo_add hz2)) F S rfl rfl ?_; clear F a; intro a F
              refine wl_ev (wn rfl) (ev_assign rfl) F S rfl rfl ?_; clear F a; intro a F
              refine wpList_nil ?_
              replace F := F.sub (e' := [(7, .int .i64 z2), (21, .int .i64 x2), (20, .int .i64 (y2.length : Int)), (19, v1), (5, .pointer (some ⟨b1, 0, Option.none⟩))]) ⟨rfl, rfl, rfl, rfl, rfl, trivial⟩
              refine inb_n ?_
              refine then_n ?_
              exact ⟨z2, g4, F.sub ⟨rfl, rfl, rfl, rfl, rfl, trivial⟩, (Le.refl _), S, hm⟩
            · refine wp_condF F rfl hc3 ?_
              refine wp_skip ?_
              refine inb_n ?_
              refine then_n ?_
              exact ⟨x3, g4, F.sub ⟨rfl, rfl, rfl, rfl, rfl, trivial⟩, (Le.refl _), S, hm⟩
          · clear F S hm; rintro a w ⟨x5, g5, F, l5, S, hm⟩
            refine wp_region_lit ?_
            obtain ⟨z1, hz1, hm⟩ := bind_some hm
            refine wl_ev (wn rfl) (ev_int rfl rfl (bo_add hz1)) F S rfl rfl ?_; clear F a; intro a F
            refine wl_ev (wn rfl) (ev_move rfl) F S rfl rfl ?_; clear F a; intro a F
            refine wpList_nil ?_
            replace F := F.sub (e' := [(21, .int .i64 z1), (7, .int .i64 x5), (20, .int .i64 (y2.length : Int)), (19, v1), (5, .pointer (some ⟨b1, 0, Option.none⟩))]) ⟨rfl, rfl, rfl, rfl, rfl, trivial⟩
            refine then_n ?_
            obtain rfl := Option.some.inj hm
            refine ⟨_, rfl, ?_⟩
            dsimp only
            exact ⟨g5, F.sub ⟨rfl, rfl, rfl, rfl, rfl, trivial⟩, (l4.trans l5), S⟩
        · refine wp_condF F rfl hc2 ?_
          refine wp_exit ?_
          refine then_e ?_
          refine then_e ?_
          refine inb_x ?_
          refine then_n ?_
          obtain rfl := Option.some.inj hm
          obtain rfl := hfin1 _ rfl
          clear hm
          have hm : (diff_Distance.j1 x3 : Option (Int × Fault)) = some _ := hmo1
          exact ⟨x3, g4, F.sub ⟨rfl, rfl, trivial⟩, (l3.trans l4), S, hm⟩
    · clear F S hm; rintro a w ⟨x1, g2, F, l2, S, hm⟩
      refine wp_seq ?_
      refine wp_region_lit ?_
      refine wl_ev (wn rfl) (ev_move rfl) F S rfl rfl ?_; clear F a; intro a F
      refine wl_ev (wn rfl) (ev_build (parts := []) (vs := []) rfl (fun w => tb25_  w)) F S rfl rfl ?_; clear F a; intro a F
      refine wl_ev (wn rfl) (ev_assign rfl) F S rfl rfl ?_; clear F a; intro a F
      refine wl_storeC (wn rfl) rfl F S rfl rfl (vs := [.int .i64 0, .int .i64 0]) rfl ts25 (one_cons rfl (one_cons rfl one_nil)) (k := 0) rfl (Nat.le_of_ble_eq_true rfl) (c' := #[.int .i64 0, .int .i64 0]) rfl rfl ?_; clear S; intro w S
      replace S : St g2 [[(b1, .cells #[.int .i64 0, .int .i64 0] 25 (0, 0))]] fr w := S
      refine wpList_nil ?_
      replace F := F.sub (e' := [(4, .int .i64 x1), (5, .pointer (some ⟨b1, 0, Option.none⟩))]) ⟨rfl, rfl, trivial⟩
      refine then_n ?_
      refine wp_ret ?_
      obtain rfl := Option.some.inj hm
      refine post_r (fn := Try.f27) (rs := [.tmp 4, .cell 5 25]) [.int .i64 x1, .agg #[.int .i64 0, .int .i64 0]] F rfl (ar_cons (resT rfl) (ar_cons (resA rfl tu25 rfl ts25 (box_ptr (cells := [.int .i64 0, .int .i64 0]) 0 rfl 0 rfl (Nat.le_of_ble_eq_true rfl) w S)) ar_nil)) ?_
      replace S : St g2 [] fr w := St.tail [] _ S
      exact ⟨_, rfl, g2, (l1.trans l2), S, rfl⟩

theorem rename_Similarity_ok {g : Gh} {fr : Hl} {w : World} {r : Int × Fault} (a_ : (List ByteArray)) (va_1 : Value) (ha_1 : RepSl g a_ va_1) (b_ : (List ByteArray)) (vb_1 : Value) (hb_1 : RepSl g b_ vb_1) (S : St g [] fr w) (hm : rename_Similarity a_ b_ = some r) :
    Calls Try.prog 17 [va_1, vb_1].toArray w (fun en w' => ∃ v, en = .returned v ∧ ∃ (g' : Gh), Le g g' ∧ St g' [] fr w' ∧ .tuple #[.int .i64 r.1, .agg #[.int .i64 r.2.Code, .int .i64 r.2.Index]] = v) := by
  unfold rename_Similarity at hm
  refine calls_enter (fn := Try.f17) Try.func17 rfl Try.ntmps17 (Nat.le_of_ble_eq_true rfl) ?_
  intro a F
  replace F : Fr 34 a [(0, va_1), (1, vb_1)] := F
  refine wp_seq ?_
  refine wp_region_lit ?_
  refine wl_ev (wn rfl) (ev_assign rfl) F S rfl rfl ?_; clear F a; intro a F
  refine wl_alloc (wn rfl) rfl tz25 (cs := [.int .i64 0, .int .i64 0]) rfl F S rfl rfl ?_; clear F a S; rintro b1 a w F S
  refine wpList_nil ?_
  replace F := F.sub (e' := [(5, .pointer (some ⟨b1, 0, Option.none⟩)), (0, va_1), (1, vb_1)]) ⟨rfl, rfl, rfl, trivial⟩
  refine then_n ?_
  refine wp_seq ?_
  refine wp_region_lit ?_
  refine wl_ev (wn rfl) (ev_move rfl) F S rfl rfl ?_; clear F a; intro a F
  refine wl_ev (wn rfl) (ev_move rfl) F S rfl rfl ?_; clear F a; intro a F
  obtain ⟨y1, hy1, hm⟩ := bind_some hm
  refine wl_call (wn rfl) rfl (xs := [.tmp 10, .tmp 11]) (vs := [va_1, vb_1]) (cap := []) F rfl rfl tc27 (diff_Distance_ok (g := g) (fr := (fl [[(b1, .cells #[.int .i64 0, .int .i64 0] 25 (0, 0))]] fr)) (w := w) a_ va_1 ha_1 b_ vb_1 hb_1 S hy1) rfl rfl ?_; clear F a S
  rintro _ a w ⟨g1, l1, S, rfl⟩ F; replace S : St g1 [[(b1, .cells #[.int .i64 0, .int .i64 0] 25 (0, 0))]] fr w := S
  refine wl_ev (wn rfl) (ev_move rfl) F S rfl rfl ?_; clear F a; intro a F
  refine wl_ev (wn rfl) (ev_extract (vs := [.int .i64 y1.1, .agg #[.int .i64 y1.2.Code, .int .i64 y1.2.Index]]) rfl rfl) F S rfl rfl ?_; clear F a; intro a F
  refine wl_ev (wn rfl) (ev_extract (vs := [.int .i64 y1.1, .agg #[.int .i64 y1.2.Code, .int .i64 y1.2.Index]]) rfl rfl) F S rfl rfl ?_; clear F a; intro a F
  refine wl_alloc (wn rfl) rfl tz25 (cs := [.int .i64 0, .int .i64 0]) rfl F S rfl rfl ?_; clear F a S; rintro b2 a w F S
  refine wl_ev (wn rfl) (ev_assign rfl) F S rfl rfl ?_; clear F a; intro a F
  refine wl_storeC (wn rfl) rfl F S rfl rfl (vs := [.int .i64 y1.2.Code, .int .i64 y1.2.Index]) rfl ts25 (one_cons rfl (one_cons rfl one_nil)) (k := 0) rfl (Nat.le_of_ble_eq_true rfl) (c' := #[.int .i64 y1.2.Code, .int .i64 y1.2.Index]) rfl rfl ?_; clear S; intro w S
  replace S : St g1 [[(b2, .cells #[.int .i64 y1.2.Code, .int .i64 y1.2.Index] 25 (0, 0))], [(b1, .cells #[.int .i64 0, .int .i64 0] 25 (0, 0))]] fr w := S
  refine wpList_nil ?_
  replace F := F.sub (e' := [(6, .int .i64 y1.1), (7, .pointer (some ⟨b2, 0, Option.none⟩)), (5, .pointer (some ⟨b1, 0, Option.none⟩)), (0, va_1), (1, vb_1)]) ⟨rfl, rfl, rfl, rfl, rfl, trivial⟩
  refine then_n ?_
  refine wp_seq ?_
  refine wp_seq ?_
  refine wp_region_lit ?_
  refine wl_ev (wn rfl) (ev_loadA tu25 rfl (cs := [.int .i64 y1.2.Code, .int .i64 y1.2.Index]) ts25 rfl (box_ptr (cells := [.int .i64 y1.2.Code, .int .i64 y1.2.Index]) 0 rfl 0 rfl (Nat.le_of_ble_eq_true rfl))) F S rfl rfl ?_; clear F a; intro a F
  refine wl_ev (wn rfl) (ev_build (parts := []) (vs := []) rfl (fun w => tb25_  w)) F S rfl rfl ?_; clear F a; intro a F
  refine wl_ev (wn rfl) (ev_neS tu25 tqa25 tqb25 tqc25 (xs := [.int .i64 y1.2.Code, .int .i64 y1.2.Index]) (ys := [.int .i64 0, .int .i64 0]) rfl rfl ⟨_, _, rfl, by decide, ⟨_, _, rfl, rfl, leaf_int tu3⟩, ⟨_, _, rfl, by decide, ⟨_, _, rfl, rfl, leaf_int tu3⟩, rfl⟩⟩) F S rfl rfl ?_; clear F a; intro a F
  refine wpList_nil ?_
  replace F := F.sub (e' := [(17, .bool (!(decide (y1.2.Code = 0) && decide (y1.2.Index = 0)))), (6, .int .i64 y1.1), (7, .pointer (some ⟨b2, 0, Option.none⟩)), (5, .pointer (some ⟨b1, 0, Option.none⟩)), (0, va_1), (1, vb_1)]) ⟨rfl, rfl, rfl, rfl, rfl, rfl, trivial⟩
  refine then_n ?_
  obtain ⟨hc1, hm⟩ | ⟨hc1, hm⟩ := ite_or hm
  · refine wp_condT F rfl hc1 ?_
    refine wp_seq ?_
    refine wp_drawL ⟨2, [[18], [4], []], [[], [], [4]], [[3], [], []], [[7], [], [5]], [[], [], [0]], [5], [0, 1, 2, 3]⟩
      [([18], fun us g c => us = [.agg #[.int .i64 y1.2.Code, .int .i64 y1.2.Index]]),
       ([4], fun us g c => us = [.int .i64 0]),
       ([], fun us g c => us = [] ∧ c = [(b1, .cells #[.int .i64 y1.2.Code, .int .i64 y1.2.Index] 25 (0, 0))])]
      mo (by kernel_rfl) rfl rfl ⟨fun _ _ _ _ _ h => h, fun _ _ _ _ _ h => h, fun _ _ _ _ _ h => h, trivial⟩ F S ⟨?_, ?_, ?_, trivial⟩ ?_
    · intro a w gd1 c fr hsz hdf hK ld1 hN hI S
      have F : Fr 34 a [(7, .pointer (some ⟨b2, 0, Option.none⟩))] := Fr.of hsz hdf ⟨hK 7 (by decide) _ rfl, trivial⟩
      replace S : St gd1 [c 3] fr w := S.of_eq (flat2 _ _ _ _)
      have q3 : c 3 = [(b2, .cells #[.int .i64 y1.2.Code, .int .i64 y1.2.Index] 25 (0, 0))] := hI 0 _ rfl
      rw [q3] at S
      refine wl_ev (wn rfl) (ev_loadA tu25 rfl (cs := [.int .i64 y1.2.Code, .int .i64 y1.2.Index]) ts25 rfl (box_ptr (cells := [.int .i64 y1.2.Code, .int .i64 y1.2.Index]) 0 rfl 0 rfl (Nat.le_of_ble_eq_true rfl))) F S rfl rfl ?_; clear F; intro a F
      refine wpList_nil ⟨rfl, F.sz, F.df, _, [], (Le.refl _), ?_, (lst1 (F.get 18 _ rfl))⟩
      refine St0.of_eq ?_ (flat3 c [] [3] fr).symm
      show St0 _ (fl ([] ++ [c 3]) fr) _
      rw [q3]
      exact S
    · intro a w gd1 c fr hsz hdf hK ld1 hN hI S
      have F : Fr 34 a [] := Fr.of hsz hdf trivial
      replace S : St gd1 [] fr w := S.of_eq (flat2 _ _ _ _)
      refine wl_ev (wn rfl) (ev_assign rfl) F S rfl rfl ?_; clear F; intro a F
      refine wpList_nil ⟨rfl, F.sz, F.df, _, [], (Le.refl _), ?_, (lst1 (F.get 4 _ rfl))⟩
      refine St0.of_eq ?_ (flat3 c [] [] fr).symm
      show St0 _ (fl ([] ++ []) fr) _
      exact S
    · intro a w gd1 c fr hsz hdf hK ld1 hN hI S
      have e0 := hN 0 (by decide)
      have e18x : val a 18 = .agg #[.int .i64 y1.2.Code, .int .i64 y1.2.Index] := nth e0 0
      have F : Fr 34 a [(5, .pointer (some ⟨b1, 0, Option.none⟩)), (18, .agg #[.int .i64 y1.2.Code, .int .i64 y1.2.Index])] := Fr.of hsz hdf ⟨hK 5 (by decide) _ rfl, e18x, trivial⟩
      replace S : St gd1 [c 4] fr w := S.of_eq (flat2 _ _ _ _)
      have q4 : c 4 = [(b1, .cells #[.int .i64 0, .int .i64 0] 25 (0, 0))] := hI 1 _ rfl
      rw [q4] at S
      refine wl_storeC (wn rfl) rfl F S rfl rfl (vs := [.int .i64 y1.2.Code, .int .i64 y1.2.Index]) rfl ts25 (one_cons rfl (one_cons rfl one_nil)) (k := 0) rfl (Nat.le_of_ble_eq_true rfl) (c' := #[.int .i64 y1.2.Code, .int .i64 y1.2.Index]) rfl rfl ?_; clear S; intro w S
      replace S : St gd1 [[(b1, .cells #[.int .i64 y1.2.Code, .int .i64 y1.2.Index] 25 (0, 0))]] fr w := S
      refine wpList_nil ⟨rfl, F.sz, F.df, _, [(b1, .cells #[.int .i64 y1.2.Code, .int .i64 y1.2.Index] 25 (0, 0))], (Le.refl _), ?_, ⟨rfl, rfl⟩⟩
      refine St0.of_eq ?_ (flat3s c ([(b1, .cells #[.int .i64 y1.2.Code, .int .i64 y1.2.Index] 25 (0, 0))]) [] fr).symm
      show St0 _ (fl ([[(b1, .cells #[.int .i64 y1.2.Code, .int .i64 y1.2.Index] 25 (0, 0))]] ++ []) fr) _
      exact S
    clear F S; intro a w gd1 c hsz hdf hK ld1 hI S hN
    have e1 := hN 1 (by decide)
    have e4x : val a 4 = .int .i64 0 := nth e1 0
    obtain ⟨e2, q2⟩ := hN 2 (by decide)
    have F : Fr 34 a [(5, .pointer (some ⟨b1, 0, Option.none⟩)), (4, .int .i64 0)] := Fr.of hsz hdf ⟨hK 5 (by decide) _ rfl, e4x, trivial⟩
    replace S : St gd1 [c 0, c 1, c 2, c 3] fr w := S.of_eq (flat_fl _ _ _)
    rw [q2] at S
    have q3 : c 3 = [(b2, .cells #[.int .i64 y1.2.Code, .int .i64 y1.2.Index] 25 (0, 0))] := hI 0 _ rfl
    rw [q3] at S
    replace S : St gd1 [[(b1, .cells #[.int .i64 y1.2.Code, .int .i64 y1.2.Index] 25 (0, 0))]] fr w := St.tail [[(b1, .cells #[.int .i64 y1.2.Code, .int .i64 y1.2.Index] 25 (0, 0))]] _ (S.frontC 2 rfl)
    clear hK hI hN hsz hdf e1 e2 e4x
    refine then_n ?_
    refine wp_ret ?_
    refine then_r ?_
    obtain rfl := Option.some.inj hm
    refine post_r (fn := Try.f17) (rs := [.tmp 4, .cell 5 25]) [.int .i64 0, .agg #[.int .i64 y1.2.Code, .int .i64 y1.2.Index]] F rfl (ar_cons (resT rfl) (ar_cons (resA rfl tu25 rfl ts25 (box_ptr (cells := [.int .i64 y1.2.Code, .int .i64 y1.2.Index]) 0 rfl 0 rfl (Nat.le_of_ble_eq_true rfl) w S)) ar_nil)) ?_
    replace S : St gd1 [] fr w := St.tail [] _ S
    exact ⟨_, rfl, gd1, (l1.trans ld1), S, rfl⟩
  · refine wp_condF F rfl hc1 ?_
    refine wp_skip ?_
    refine then_n ?_
    refine wp_seq ?_
    refine wp_region_lit ?_
    refine wl_ev (wn rfl) (ev_move rfl) F S rfl rfl ?_; clear F a; intro a F
    refine wl_ev (wn rfl) (ev_lenSh ha_1 rfl tu31) F S rfl rfl ?_; clear F a; intro a F
    refine wl_ev (wn rfl) (ev_move rfl) F S rfl rfl ?_; clear F a; intro a F
    refine wl_ev (wn rfl) (ev_lenSh hb_1 rfl tu31) F S rfl rfl ?_; clear F a; intro a F
    obtain ⟨z1, hz1, hm⟩ := bind_some hm
    refine wl_ev (wn rfl) (ev_int rfl rfl (bo_add hz1)) F S rfl rfl ?_; clear F a; intro a F
    refine wl_ev (wn rfl) (ev_assign rfl) F S rfl rfl ?_; clear F a; intro a F
    refine wpList_nil ?_
    replace F := F.sub (e' := [(8, .int .i64 z1), (6, .int .i64 y1.1), (5, .pointer (some ⟨b1, 0, Option.none⟩))]) ⟨rfl, rfl, rfl, trivial⟩
    refine then_n ?_
    refine wp_seq ?_
    refine wp_seq ?_
    refine wp_region_lit ?_
    refine wl_ev (wn rfl) (ev_move rfl) F S rfl rfl ?_; clear F a; intro a F
    refine wl_ev (wn rfl) (ev_int rfl rfl (bo_eql _ _ _ _)) F S rfl rfl ?_; clear F a; intro a F
    refine wpList_nil ?_
    replace F := F.sub (e' := [(25, .bool (decide (z1 = 0))), (8, .int .i64 z1), (6, .int .i64 y1.1), (5, .pointer (some ⟨b1, 0, Option.none⟩))]) ⟨rfl, rfl, rfl, rfl, trivial⟩
    refine then_n ?_
    obtain ⟨hc2, hm⟩ | ⟨hc2, hm⟩ := ite_or hm
    · refine wp_condT F rfl hc2 ?_
      refine wp_seq ?_
      refine wp_region_lit ?_
      refine wl_ev (wn rfl) (ev_build (parts := []) (vs := []) rfl (fun w => tb25_  w)) F S rfl rfl ?_; clear F a; intro a F
      refine wl_ev (wn rfl) (ev_assign rfl) F S rfl rfl ?_; clear F a; intro a F
      refine wl_storeC (wn rfl) rfl F S rfl rfl (vs := [.int .i64 0, .int .i64 0]) rfl ts25 (one_cons rfl (one_cons rfl one_nil)) (k := 1) rfl (Nat.le_of_ble_eq_true rfl) (c' := #[.int .i64 0, .int .i64 0]) rfl rfl ?_; clear S; intro w S
      replace S : St g1 [[(b2, .cells #[.int .i64 y1.2.Code, .int .i64 y1.2.Index] 25 (0, 0))], [(b1, .cells #[.int .i64 0, .int .i64 0] 25 (0, 0))]] fr w := S
      refine wpList_nil ?_
      replace F := F.sub (e' := [(4, .int .i64 100), (5, .pointer (some ⟨b1, 0, Option.none⟩))]) ⟨rfl, rfl, trivial⟩
      refine then_n ?_
      refine wp_ret ?_
      refine then_r ?_
      obtain rfl := Option.some.inj hm
      refine post_r (fn := Try.f17) (rs := [.tmp 4, .cell 5 25]) [.int .i64 100, .agg #[.int .i64 0, .int .i64 0]] F rfl (ar_cons (resT rfl) (ar_cons (resA rfl tu25 rfl ts25 (box_ptr (cells := [.int .i64 0, .int .i64 0]) 1 rfl 0 rfl (Nat.le_of_ble_eq_true rfl) w S)) ar_nil)) ?_
      replace S : St g1 [] fr w := St.tail [] _ S
      exact ⟨_, rfl, g1, l1, S, rfl⟩
    · refine wp_condF F rfl hc2 ?_
      refine wp_skip ?_
      refine then_n ?_
      refine wp_seq ?_
      refine wp_region_lit ?_
      refine wl_ev (wn rfl) (ev_move rfl) F S rfl rfl ?_; clear F a; intro a F
      refine wl_ev (wn rfl) (ev_move rfl) F S rfl rfl ?_; clear F a; intro a F
      obtain ⟨z2, hz2, hm⟩ := bind_some hm
      refine wl_ev (wn rfl) (ev_int rfl rfl (bo_sub hz2)) F S rfl rfl ?_; clear F a; intro a F
      obtain ⟨z3, hz3, hm⟩ := bind_some hm
      refine wl_ev (wn rfl) (ev_int rfl rfl (bo_mul hz3)) F S rfl rfl ?_; clear F a; intro a F
      refine wl_ev (wn rfl) (ev_move rfl) F S rfl rfl ?_; clear F a; intro a F
      obtain ⟨z4, hz4, hm⟩ := bind_some hm
      refine wl_ev (wn rfl) (ev_int rfl rfl (bo_quo hz4)) F S rfl rfl ?_; clear F a; intro a F
      refine wl_ev (wn rfl) (ev_build (parts := []) (vs := []) rfl (fun w => tb25_  w)) F S rfl rfl ?_; clear F a; intro a F
      refine wl_ev (wn rfl) (ev_assign rfl) F S rfl rfl ?_; clear F a; intro a F
      refine wl_storeC (wn rfl) rfl F S rfl rfl (vs := [.int .i64 0, .int .i64 0]) rfl ts25 (one_cons rfl (one_cons rfl one_nil)) (k := 1) rfl (Nat.le_of_ble_eq_true rfl) (c' := #[.int .i64 0, .int .i64 0]) rfl rfl ?_; clear S; intro w S
      replace S : St g1 [[(b2, .cells #[.int .i64 y1.2.Code, .int .i64 y1.2.Index] 25 (0, 0))], [(b1, .cells #[.int .i64 0, .int .i64 0] 25 (0, 0))]] fr w := S
      refine wpList_nil ?_
      replace F := F.sub (e' := [(4, .int .i64 z4), (5, .pointer (some ⟨b1, 0, Option.none⟩))]) ⟨rfl, rfl, trivial⟩
      refine then_n ?_
      refine wp_ret ?_
      obtain rfl := Option.some.inj hm
      refine post_r (fn := Try.f17) (rs := [.tmp 4, .cell 5 25]) [.int .i64 z4, .agg #[.int .i64 0, .int .i64 0]] F rfl (ar_cons (resT rfl) (ar_cons (resA rfl tu25 rfl ts25 (box_ptr (cells := [.int .i64 0, .int .i64 0]) 1 rfl 0 rfl (Nat.le_of_ble_eq_true rfl) w S)) ar_nil)) ?_
      replace S : St g1 [] fr w := St.tail [] _ S
      exact ⟨_, rfl, g1, l1, S, rfl⟩

theorem changeforgelaw2_half_ok {g : Gh} {fr : Hl} {w : World} {r : Bool}  (S : St g [] fr w) (hm : changeforgelaw2_half = some r) :
    Calls Try.prog 18 [].toArray w (fun en w' => ∃ v, en = .returned v ∧ ∃ (g' : Gh), Le g g' ∧ St g' [] fr w' ∧ .bool r = v) := by
  unfold changeforgelaw2_half at hm
  refine calls_enter (fn := Try.f18) Try.func18 rfl Try.ntmps18 (Nat.le_of_ble_eq_true rfl) ?_
  intro a F
  replace F : Fr 16 a [] := F
  refine wp_seq ?_
  refine wp_region_lit ?_
  refine wl_ev (wn rfl) (ev_assign rfl) F S rfl rfl ?_; clear F a; intro a F
  refine wpList_nil ?_
  replace F := F.sub (e' := []) trivial
  refine then_n ?_
  refine wp_seq ?_
  refine wp_region_lit ?_
  refine wl_lit (l := ([(⟨#[120]⟩ : ByteArray), (⟨#[121]⟩ : ByteArray)] : List ByteArray)) (vs := [.string (⟨#[120]⟩ : ByteArray), .string (⟨#[121]⟩ : ByteArray)]) (parts := [(0, .const (.string (⟨#[120]⟩ : ByteArray))), (1, .const (.string (⟨#[121]⟩ : ByteArray)))]) (wn rfl) rfl rfl rfl tu31 te9 (sz_cons rfl (sz_cons rfl sz_nil)) rfl (Cat.cons (show Rep.rep _ (⟨#[120]⟩ : ByteArray) _ from rfl) (Cat.cons (show Rep.rep _ (⟨#[121]⟩ : ByteArray) _ from rfl) (Cat.nil _))) (coa_cons rfl (coa_cons rfl coa_nil)) rfl F S rfl rfl ?_; clear F a S
  rintro v1 c1 a w h1 F S
  refine wl_lit (l := ([(⟨#[121]⟩ : ByteArray), (⟨#[122]⟩ : ByteArray)] : List ByteArray)) (vs := [.string (⟨#[121]⟩ : ByteArray), .string (⟨#[122]⟩ : ByteArray)]) (parts := [(0, .const (.string (⟨#[121]⟩ : ByteArray))), (1, .const (.string (⟨#[122]⟩ : ByteArray)))]) (wn rfl) rfl rfl rfl tu31 te9 (sz_cons rfl (sz_cons rfl sz_nil)) rfl (Cat.cons (show Rep.rep _ (⟨#[121]⟩ : ByteArray) _ from rfl) (Cat.cons (show Rep.rep _ (⟨#[122]⟩ : ByteArray) _ from rfl) (Cat.nil _))) (coa_cons rfl (coa_cons rfl coa_nil)) rfl F S rfl rfl ?_; clear F a S
  rintro v2 c2 a w h2 F S
  obtain ⟨g1, l1, S, h3⟩ : ∃ gz, Le g gz ∧ St gz [c2] fr w ∧ RepSl gz ([(⟨#[120]⟩ : ByteArray), (⟨#[121]⟩ : ByteArray)] : List ByteArray) v1 := ⟨_, Le.add _ _, S.freeze 1 rfl, OwnS.freeze (S.front 1 rfl) h1⟩
  obtain ⟨g2, l2, S, h4⟩ : ∃ gz, Le g1 gz ∧ St gz [] fr w ∧ RepSl gz ([(⟨#[121]⟩ : ByteArray), (⟨#[122]⟩ : ByteArray)] : List ByteArray) v2 := ⟨_, Le.add _ _, S.freeze 0 rfl, OwnS.freeze (S.front 0 rfl) (h2.mono l1)⟩
  obtain ⟨y1, hy1, hm⟩ := bind_some hm
  refine wl_call (wn rfl) rfl (xs := [.tmp 4, .tmp 5]) (vs := [v1, v2]) (cap := []) F rfl rfl tc17 (rename_Similarity_ok (g := g2) (fr := fr) (w := w) ([(⟨#[120]⟩ : ByteArray), (⟨#[121]⟩ : ByteArray)] : List ByteArray) v1 (h3.mono l2) ([(⟨#[121]⟩ : ByteArray), (⟨#[122]⟩ : ByteArray)] : List ByteArray) v2 h4 S hy1) rfl rfl ?_; clear F a S
  rintro _ a w ⟨g3, l3, S, rfl⟩ F; replace S : St g3 [] fr w := S
  refine wl_ev (wn rfl) (ev_move rfl) F S rfl rfl ?_; clear F a; intro a F
  refine wl_ev (wn rfl) (ev_extract (vs := [.int .i64 y1.1, .agg #[.int .i64 y1.2.Code, .int .i64 y1.2.Index]]) rfl rfl) F S rfl rfl ?_; clear F a; intro a F
  refine wl_ev (wn rfl) (ev_extract (vs := [.int .i64 y1.1, .agg #[.int .i64 y1.2.Code, .int .i64 y1.2.Index]]) rfl rfl) F S rfl rfl ?_; clear F a; intro a F
  refine wl_alloc (wn rfl) rfl tz25 (cs := [.int .i64 0, .int .i64 0]) rfl F S rfl rfl ?_; clear F a S; rintro b1 a w F S
  refine wl_ev (wn rfl) (ev_assign rfl) F S rfl rfl ?_; clear F a; intro a F
  refine wl_storeC (wn rfl) rfl F S rfl rfl (vs := [.int .i64 y1.2.Code, .int .i64 y1.2.Index]) rfl ts25 (one_cons rfl (one_cons rfl one_nil)) (k := 0) rfl (Nat.le_of_ble_eq_true rfl) (c' := #[.int .i64 y1.2.Code, .int .i64 y1.2.Index]) rfl rfl ?_; clear S; intro w S
  replace S : St g3 [[(b1, .cells #[.int .i64 y1.2.Code, .int .i64 y1.2.Index] 25 (0, 0))]] fr w := S
  refine wpList_nil ?_
  replace F := F.sub (e' := [(1, .int .i64 y1.1), (2, .pointer (some ⟨b1, 0, Option.none⟩))]) ⟨rfl, rfl, trivial⟩
  refine then_n ?_
  refine wp_seq ?_
  refine wp_region_lit ?_
  refine wl_ev (wn rfl) (ev_fieldAddr' tu25 tf25_0 (z := 0) ts3 rfl ⟨_, rfl⟩ rfl) F S rfl rfl ?_; clear F a; intro a F
  refine wl_ev (wn rfl) (ev_load1 tu3 rfl rfl (box_ptr (cells := [.int .i64 y1.2.Code]) 0 rfl 0 rfl (Nat.le_of_ble_eq_true rfl))) F S rfl rfl ?_; clear F a; intro a F
  refine wl_ev (wn rfl) (ev_int rfl rfl (bo_eql _ _ _ _)) F S rfl rfl ?_; clear F a; intro a F
  refine wl_ev (wn rfl) (ev_move rfl) F S rfl rfl ?_; clear F a; intro a F
  obtain ⟨x1, hx1, hm⟩ := bind_some hm
  refine wl_cut 3 (fun a w' => w = w' ∧ Fr 16 a [(15, .bool x1)]) ?_ ?_
  · clear hm; obtain ⟨hc1, hm⟩ | ⟨hc1, hm⟩ := ite_or hx1
    · refine wl_ev (wg F rfl rfl rfl rfl hc1) (ev_move rfl) F S rfl rfl ?_; clear F a; intro a F
      refine wl_ev (wg F rfl rfl rfl rfl hc1) (ev_int rfl rfl (bo_eql _ _ _ _)) F S rfl rfl ?_; clear F a; intro a F
      refine wl_ev (wn rfl) (ev_pickT rfl hc1 rfl) F S rfl rfl ?_; clear F a; intro a F
      obtain rfl := Option.some.inj hm
      refine wpList_nil (then_n ?_); exact ⟨rfl, F.sub ⟨rfl, trivial⟩⟩
    · refine wl_skip rfl rfl rfl rfl (ne_tf hc1) F rfl rfl ?_; clear F a; intro a F
      refine wl_skip rfl rfl rfl rfl (ne_tf hc1) F rfl rfl ?_; clear F a; intro a F
      refine wl_ev (wn rfl) (ev_pickF rfl hc1 rfl) F S rfl rfl ?_; clear F a; intro a F
      obtain rfl := Option.some.inj hm
      refine wpList_nil (then_n ?_); exact ⟨rfl, F.sub ⟨rfl, trivial⟩⟩
  clear F; rintro a w' ⟨rfl, F⟩
  refine wl_ev (wn rfl) (ev_assign rfl) F S rfl rfl ?_; clear F a; intro a F
  refine wpList_nil ?_
  replace F := F.sub (e' := [(0, .bool x1)]) ⟨rfl, trivial⟩
  refine then_n ?_
  refine wp_ret ?_
  obtain rfl := Option.some.inj hm
  refine post_r (fn := Try.f18) (rs := [.tmp 0]) [.bool x1] F rfl (ar_cons (resT rfl) ar_nil) ?_
  replace S : St g3 [] fr w := St.tail [] _ S
  exact ⟨_, rfl, g3, ((l1.trans l2).trans l3), S, rfl⟩

theorem changeforgeequal_Strings_ok {g : Gh} {fr : Hl} {w : World} {r : Bool} (a_ : (List ByteArray)) (va_1 : Value) (ha_1 : RepSl g a_ va_1) (b_ : (List ByteArray)) (vb_1 : Value) (hb_1 : RepSl g b_ vb_1) (S : St g [] fr w) (hm : changeforgeequal_Strings a_ b_ = some r) :
    Calls Try.prog 19 [va_1, vb_1].toArray w (fun en w' => ∃ v, en = .returned v ∧ ∃ (g' : Gh), Le g g' ∧ St g' [] fr w' ∧ .bool r = v) := by
  unfold changeforgeequal_Strings at hm
  refine calls_enter (fn := Try.f19) Try.func19 rfl Try.ntmps19 (Nat.le_of_ble_eq_true rfl) ?_
  intro a F
  replace F : Fr 26 a [(0, va_1), (1, vb_1)] := F
  refine wp_seq ?_
  refine wp_region_lit ?_
  refine wl_ev (wn rfl) (ev_assign rfl) F S rfl rfl ?_; clear F a; intro a F
  refine wpList_nil ?_
  replace F := F.sub (e' := [(0, va_1), (1, vb_1)]) ⟨rfl, rfl, trivial⟩
  refine then_n ?_
  refine wp_seq ?_
  refine wp_seq ?_
  refine wp_region_lit ?_
  refine wl_ev (wn rfl) (ev_move rfl) F S rfl rfl ?_; clear F a; intro a F
  refine wl_ev (wn rfl) (ev_lenSh ha_1 rfl tu31) F S rfl rfl ?_; clear F a; intro a F
  refine wl_ev (wn rfl) (ev_move rfl) F S rfl rfl ?_; clear F a; intro a F
  refine wl_ev (wn rfl) (ev_lenSh hb_1 rfl tu31) F S rfl rfl ?_; clear F a; intro a F
  refine wl_ev (wn rfl) (ev_int rfl rfl (bo_neq _ _ _ _)) F S rfl rfl ?_; clear F a; intro a F
  refine wpList_nil ?_
  replace F := F.sub (e' := [(10, .bool (!decide ((a_.length : Int) = (b_.length : Int)))), (0, va_1), (1, vb_1)]) ⟨rfl, rfl, rfl, trivial⟩
  refine then_n ?_
  obtain ⟨hc1, hm⟩ | ⟨hc1, hm⟩ := ite_or hm
  · refine wp_condT F rfl hc1 ?_
    refine wp_seq ?_
    refine wp_region_lit ?_
    refine wl_ev (wn rfl) (ev_assign rfl) F S rfl rfl ?_; clear F a; intro a F
    refine wpList_nil ?_
    replace F := F.sub (e' := [(4, .bool false)]) ⟨rfl, trivial⟩
    refine then_n ?_
    refine wp_ret ?_
    refine then_r ?_
    obtain rfl := Option.some.inj hm
    refine post_r (fn := Try.f19) (rs := [.tmp 4]) [.bool false] F rfl (ar_cons (resT rfl) ar_nil) ?_
    exact ⟨_, rfl, g, (Le.refl _), S, rfl⟩
  · refine wp_condF F rfl hc1 ?_
    refine wp_skip ?_
    refine then_n ?_
    refine wp_cut (fun a w => ∃ (g1 : Gh), Fr 26 a [] ∧ Le g g1 ∧ St g1 [] fr w ∧ changeforgeequal_Strings.j1 = some r) ?_ ?_
    · refine wp_seq ?_
      refine wp_region_lit ?_
      refine wl_ev (wn rfl) (ev_assign rfl) F S rfl rfl ?_; clear F a; intro a F
      refine wpList_nil ?_
      replace F := F.sub (e' := [(5, .int .i64 0), (0, va_1), (1, vb_1)]) ⟨rfl, rfl, rfl, trivial⟩
      refine then_n ?_
      refine wp_block ?_
      obtain ⟨r1, hr1, hm⟩ := bind_some hm
      have hmo1 := hm; clear hm
      refine wp_iter (σ := Int) (ρ := Bool ⊕ Unit) (m := fun s => changeforgeequal_Strings.l1 a_ b_ s) (I := fun x1 a w => ∃ (g2 : Gh), Fr 26 a [(5, .int .i64 x1), (0, va_1), (1, vb_1)] ∧ Le g g2 ∧ St g2 [] fr w) hr1 ?_ ?_
      · exact ⟨g, F.sub ⟨rfl, rfl, rfl, trivial⟩, (Le.refl _), S⟩
      · clear F S; rintro x1 a w x2 ⟨g2, F, l2, S⟩ hx1 hfin1
        have hm : changeforgeequal_Strings.l1 a_ b_ x1 = some x2 := hx1; clear hx1
        unfold changeforgeequal_Strings.l1 at hm
        refine wp_seq ?_
        refine wp_seq ?_
        refine wp_region_lit ?_
        refine wl_ev (wn rfl) (ev_move rfl) F S rfl rfl ?_; clear F a; intro a F
        refine wl_ev (wn rfl) (ev_move rfl) F S rfl rfl ?_; clear F a; intro a F
        refine wl_ev (wn rfl) (ev_lenSh ha_1 rfl tu31) F S rfl rfl ?_; clear F a; intro a F
        refine wl_ev (wn rfl) (ev_int rfl rfl (bo_lss _ _ _ _)) F S rfl rfl ?_; clear F a; intro a F
        refine wpList_nil ?_
        replace F := F.sub (e' := [(14, .bool (decide (x1 < (a_.length : Int)))), (5, .int .i64 x1), (0, va_1), (1, vb_1)]) ⟨rfl, rfl, rfl, rfl, trivial⟩
        refine then_n ?_
        obtain ⟨hc2, hm⟩ | ⟨hc2, hm⟩ := ite_or hm
        · refine wp_condT F rfl hc2 ?_
          refine wp_skip ?_
          refine then_n ?_
          refine wp_seq ?_
          refine wp_block ?_
          refine wp_seq ?_
          refine wp_quiet mo (by kernel_rfl) S ?_
          refine wq_ev (wn rfl) (ev_move rfl) F rfl rfl ?_; clear F a; intro a F
          refine wq_ev (wn rfl) (ev_move rfl) F rfl rfl ?_; clear F a; intro a F
          obtain ⟨y1, hy1, hm⟩ := bind_some hm
          obtain ⟨cs1, hr2, hp1⟩ := elemS (ha_1.mono l2) hy1
          obtain rfl := rep_str hr2
          refine wq_ev (wn rfl) (ev_idxS (ha_1.mono l2) hy1 tu31 ts9 rfl rfl) F rfl rfl ?_; clear F a; intro a F
          refine wq_ev (wn rfl) (ev_load1 tu9 rfl rfl (ptr_mono (cks := []) (fr := fr) hp1 (Le.refl _))) F rfl rfl ?_; clear F a; intro a F
          refine wq_ev (wn rfl) (ev_move rfl) F rfl rfl ?_; clear F a; intro a F
          refine wq_ev (wn rfl) (ev_move rfl) F rfl rfl ?_; clear F a; intro a F
          obtain ⟨y2, hy2, hm⟩ := bind_some hm
          obtain ⟨cs2, hr3, hp2⟩ := elemS (hb_1.mono l2) hy2
          obtain rfl := rep_str hr3
          refine wq_ev (wn rfl) (ev_idxS (hb_1.mono l2) hy2 tu31 ts9 rfl rfl) F rfl rfl ?_; clear F a; intro a F
          refine wq_ev (wn rfl) (ev_load1 tu9 rfl rfl (ptr_mono (cks := []) (fr := fr) hp2 (Le.refl _))) F rfl rfl ?_; clear F a; intro a F
          refine wq_ev (wn rfl) (ev_str rfl rfl (bs_neq _ _ _)) F rfl rfl ?_; clear F a; intro a F
          refine wq_nil ?_; clear S; intro w S
          replace F := F.sub (e' := [(25, .bool (!decide (y1 = y2))), (5, .int .i64 x1), (0, va_1), (1, vb_1)]) ⟨rfl, rfl, rfl, rfl, trivial⟩
          refine then_n ?_
          obtain ⟨hc3, hm⟩ | ⟨hc3, hm⟩ := ite_or hm
          · refine wp_condT F rfl hc3 ?_
            refine wp_seq ?_
            refine wp_region_lit ?_
            refine wl_ev (wn rfl) (ev_assign rfl) F S rfl rfl ?_; clear F a; intro a F
            refine wpList_nil ?_
            replace F := F.sub (e' := [(4, .bool false)]) ⟨rfl, trivial⟩
            refine then_n ?_
            refine wp_ret ?_
            refine inb_r ?_
            refine then_r ?_
            refine then_r ?_
            refine inb_r ?_
            refine then_r ?_
            obtain rfl := Option.some.inj hm
            obtain rfl := hfin1 _ rfl
            clear hm
            have hm : (some false : Option Bool) = some _ := hmo1
            obtain rfl := Option.some.inj hm
            refine post_r (fn := Try.f19) (rs := [.tmp 4]) [.bool false] F rfl (ar_cons (resT rfl) ar_nil) ?_
            exact ⟨_, rfl, g2, l2, S, rfl⟩
          · refine wp_condF F rfl hc3 ?_
            refine wp_skip ?_
            refine inb_n ?_
            refine then_n ?_
            refine wp_region_lit ?_
            refine wl_ev (wn rfl) (ev_move rfl) F S rfl rfl ?_; clear F a; intro a F
            obtain ⟨z1, hz1, hm⟩ := bind_some hm
            refine wl_ev (wn rfl) (ev_int rfl rfl (bo_add hz1)) F S rfl rfl ?_; clear F a; intro a F
            refine wl_ev (wn rfl) (ev_assign rfl) F S rfl rfl ?_; clear F a; intro a F
            refine wpList_nil ?_
            replace F := F.sub (e' := [(5, .int .i64 z1), (0, va_1), (1, vb_1)]) ⟨rfl, rfl, rfl, trivial⟩
            refine then_n ?_
            obtain rfl := Option.some.inj hm
            refine ⟨_, rfl, ?_⟩
            exact ⟨g2, F.sub ⟨rfl, rfl, rfl, trivial⟩, l2, S⟩
        · refine wp_condF F rfl hc2 ?_
          refine wp_exit ?_
          refine then_e ?_
          refine then_e ?_
          refine inb_x ?_
          refine then_n ?_
          obtain rfl := Option.some.inj hm
          obtain rfl := hfin1 _ rfl
          clear hm
          have hm : (changeforgeequal_Strings.j1 : Option Bool) = some _ := hmo1
          exact ⟨g2, F.sub trivial, l2, S, hm⟩
    · clear F S hm; rintro a w ⟨g1, F, l1, S, hm⟩
      refine wp_seq ?_
      refine wp_region_lit ?_
      refine wl_ev (wn rfl) (ev_assign rfl) F S rfl rfl ?_; clear F a; intro a F
      refine wpList_nil ?_
      refine then_n ?_
      refine wp_ret ?_
      obtain rfl := Option.some.inj hm
      refine post_r (fn := Try.f19) (rs := [.tmp 4]) [.bool true] F rfl (ar_cons (resT rfl) ar_nil) ?_
      exact ⟨_, rfl, g1, l1, S, rfl⟩
end Go.Dc
