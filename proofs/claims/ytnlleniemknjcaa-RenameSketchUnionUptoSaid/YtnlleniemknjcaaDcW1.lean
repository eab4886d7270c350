/- Walks: each function comes to what its model says. -/
import Derived.Test.YtnlleniemknjcaaDcTab
import Derived.Test.YtnlleniemknjcaaDcM
namespace Go.Dc
open Go Go.Proofs
set_option maxRecDepth 100000
set_option linter.unusedVariables false
theorem stringslite_IndexByte_ok {g : Gh} {fr : Hl} {w : World} {r : Int} (s_ : ByteArray) (c_ : Int) (S : St g [] fr w) (hm : stringslite_IndexByte s_ c_ = some r) :
    Calls Try.prog 49 [.string s_, .int .u8 c_].toArray w (fun en w' => ∃ v, en = .returned v ∧ ∃ (g' : Gh), Le g g' ∧ St g' [] fr w' ∧ .int .i64 r = v) := by
  unfold stringslite_IndexByte at hm
  refine calls_enter (fn := Try.f49) Try.func49 rfl Try.ntmps49 (Nat.le_of_ble_eq_true rfl) ?_
  intro a F
  replace F : Fr 8 a [(0, .string s_), (1, .int .u8 c_)] := F
  refine wp_seq ?_
  refine wp_region_lit ?_
  refine wl_ev (wn rfl) (ev_assign rfl) F S rfl rfl ?_; clear F a; intro a F
  refine wpList_nil ?_
  replace F := F.sub (e' := [(0, .string s_), (1, .int .u8 c_)]) ⟨rfl, rfl, trivial⟩
  refine then_n ?_
  refine wp_seq ?_
  refine wp_region_lit ?_
  refine wl_ev (wn rfl) (ev_move rfl) F S rfl rfl ?_; clear F a; intro a F
  refine wl_ev (wn rfl) (ev_move rfl) F S rfl rfl ?_; clear F a; intro a F
  refine wl_ev (wn rfl) (ev_callx (xs := [.tmp 5, .tmp 6]) (vs := [.string s_, .int .u8 c_]) rfl rfl (fun w => tx51 s_ c_ w)) F S rfl rfl ?_; clear F a; intro a F
  refine wl_ev (wn rfl) (ev_assign rfl) F S rfl rfl ?_; clear F a; intro a F
  refine wpList_nil ?_
  replace F := F.sub (e' := [(4, .int .i64 (idxB s_ c_))]) ⟨rfl, trivial⟩
  refine then_n ?_
  refine wp_ret ?_
  obtain rfl := Option.some.inj hm
  refine post_r (fn := Try.f49) (rs := [.tmp 4]) [.int .i64 (idxB s_ c_)] F rfl (ar_cons (resT rfl) ar_nil) ?_
  exact ⟨_, rfl, g, (Le.refl _), S, rfl⟩

theorem strings_IndexByte_ok {g : Gh} {fr : Hl} {w : World} {r : Int} (s_ : ByteArray) (c_ : Int) (S : St g [] fr w) (hm : strings_IndexByte s_ c_ = some r) :
    Calls Try.prog 42 [.string s_, .int .u8 c_].toArray w (fun en w' => ∃ v, en = .returned v ∧ ∃ (g' : Gh), Le g g' ∧ St g' [] fr w' ∧ .int .i64 r = v) := by
  unfold strings_IndexByte at hm
  refine calls_enter (fn := Try.f42) Try.func42 rfl Try.ntmps42 (Nat.le_of_ble_eq_true rfl) ?_
  intro a F
  replace F : Fr 8 a [(0, .string s_), (1, .int .u8 c_)] := F
  refine wp_seq ?_
  refine wp_region_lit ?_
  refine wl_ev (wn rfl) (ev_assign rfl) F S rfl rfl ?_; clear F a; intro a F
  refine wpList_nil ?_
  replace F := F.sub (e' := [(0, .string s_), (1, .int .u8 c_)]) ⟨rfl, rfl, trivial⟩
  refine then_n ?_
  refine wp_seq ?_
  refine wp_region_lit ?_
  refine wl_ev (wn rfl) (ev_move rfl) F S rfl rfl ?_; clear F a; intro a F
  refine wl_ev (wn rfl) (ev_move rfl) F S rfl rfl ?_; clear F a; intro a F
  obtain ⟨y1, hy1, hm⟩ := bind_some hm
  refine wl_call (wn rfl) rfl (xs := [.tmp 5, .tmp 6]) (vs := [.string s_, .int .u8 c_]) (cap := []) F rfl rfl tc49 (stringslite_IndexByte_ok (g := g) (fr := fr) (w := w) s_ c_ S hy1) rfl rfl ?_; clear F a S
  rintro _ a w ⟨g1, l1, S, rfl⟩ F; replace S : St g1 [] fr w := S
  refine wl_ev (wn rfl) (ev_assign rfl) F S rfl rfl ?_; clear F a; intro a F
  refine wpList_nil ?_
  replace F := F.sub (e' := [(4, .int .i64 y1)]) ⟨rfl, trivial⟩
  refine then_n ?_
  refine wp_ret ?_
  obtain rfl := Option.some.inj hm
  refine post_r (fn := Try.f42) (rs := [.tmp 4]) [.int .i64 y1] F rfl (ar_cons (resT rfl) ar_nil) ?_
  exact ⟨_, rfl, g1, l1, S, rfl⟩

theorem lines_Validate_ok {g : Gh} {fr : Hl} {w : World} {r : Fault} (lines : (List ByteArray)) (vlines1 : Value) (hlines1 : RepSl g lines vlines1) (S : St g [] fr w) (hm : lines_Validate lines = some r) :
    Calls Try.prog 33 [vlines1].toArray w (fun en w' => ∃ v, en = .returned v ∧ ∃ (g' : Gh), Le g g' ∧ St g' [] fr w' ∧ .agg #[.int .i64 r.Code, .int .i64 r.Index] = v) := by
  unfold lines_Validate at hm
  refine calls_enter (fn := Try.f33) Try.func33 rfl Try.ntmps33 (Nat.le_of_ble_eq_true rfl) ?_
  intro a F
  replace F : Fr 28 a [(0, vlines1)] := F
  refine wp_seq ?_
  refine wp_region_lit ?_
  refine wl_alloc (wn rfl) rfl tz25 (cs := [.int .i64 0, .int .i64 0]) rfl F S rfl rfl ?_; clear F a S; rintro b1 a w F S
  refine wpList_nil ?_
  refine then_n ?_
  refine wp_seq ?_
  refine wp_seq ?_
  refine wp_region_lit ?_
  refine wl_ev (wn rfl) (ev_move rfl) F S rfl rfl ?_; clear F a; intro a F
  refine wl_ev (wn rfl) (ev_lenSh hlines1 rfl tu31) F S rfl rfl ?_; clear F a; intro a F
  refine wl_ev (wn rfl) (ev_int rfl rfl (bo_gtr _ _ _ _)) F S rfl rfl ?_; clear F a; intro a F
  refine wpList_nil ?_
  replace F := F.sub (e' := [(7, .bool (decide ((lines.length : Int) > 120))), (2, .pointer (some ⟨b1, 0, Option.none⟩)), (0, vlines1)]) ⟨rfl, rfl, rfl, trivial⟩
  refine then_n ?_
  obtain ⟨hc1, hm⟩ | ⟨hc1, hm⟩ := ite_or hm
  · refine wp_condT F rfl hc1 ?_
    refine wp_seq ?_
    refine wp_region_lit ?_
    refine wl_ev (wn rfl) (ev_build (parts := [(0, .const (.int .i64 2)), (1, .const (.int .i64 (-1)))]) (vs := [(0, .int .i64 2), (1, .int .i64 (-1))]) rfl (fun w => tb25_0_1 2 (-1) w)) F S rfl rfl ?_; clear F a; intro a F
    refine wl_storeC (wn rfl) rfl F S rfl rfl (vs := [.int .i64 2, .int .i64 (-1)]) rfl ts25 (one_cons rfl (one_cons rfl one_nil)) (k := 0) rfl (Nat.le_of_ble_eq_true rfl) (c' := #[.int .i64 2, .int .i64 (-1)]) rfl rfl ?_; clear S; intro w S
    replace S : St g [[(b1, .cells #[.int .i64 2, .int .i64 (-1)] 25 (0, 0))]] fr w := S
    refine wpList_nil ?_
    replace F := F.sub (e' := [(2, .pointer (some ⟨b1, 0, Option.none⟩))]) ⟨rfl, trivial⟩
    refine then_n ?_
    refine wp_ret ?_
    refine then_r ?_
    obtain rfl := Option.some.inj hm
    refine post_r (fn := Try.f33) (rs := [.cell 2 25]) [.agg #[.int .i64 2, .int .i64 (-1)]] F rfl (ar_cons (resA rfl tu25 rfl ts25 (box_ptr (cells := [.int .i64 2, .int .i64 (-1)]) 0 rfl 0 rfl (Nat.le_of_ble_eq_true rfl) w S)) ar_nil) ?_
    replace S : St g [] fr w := St.tail [] _ S
    exact ⟨_, rfl, g, (Le.refl _), S, rfl⟩
  · refine wp_condF F rfl hc1 ?_
    refine wp_skip ?_
    refine then_n ?_
    refine wp_cut (fun a w => ∃ (g1 : Gh), Fr 28 a [(2, .pointer (some ⟨b1, 0, Option.none⟩))] ∧ Le g g1 ∧ St g1 [[(b1, .cells #[.int .i64 0, .int .i64 0] 25 (0, 0))]] fr w ∧ lines_Validate.j1 = some r) ?_ ?_
    · refine wp_seq ?_
      refine wp_region_lit ?_
      refine wl_ev (wn rfl) (ev_move rfl) F S rfl rfl ?_; clear F a; intro a F
      refine wl_ev (wn rfl) (ev_lenSh hlines1 rfl tu31) F S rfl rfl ?_; clear F a; intro a F
      refine wl_ev (wn rfl) (ev_move rfl) F S rfl rfl ?_; clear F a; intro a F
      refine wpList_nil ?_
      replace F := F.sub (e' := [(11, .int .i64 0), (10, .int .i64 (lines.length : Int)), (9, vlines1), (2, .pointer (some ⟨b1, 0, Option.none⟩))]) ⟨rfl, rfl, rfl, rfl, trivial⟩
      refine then_n ?_
      refine wp_block ?_
      obtain ⟨r1, hr1, hm⟩ := bind_some hm
      have hmo1 := hm; clear hm
      refine wp_iter (σ := Int) (ρ := Fault ⊕ Unit) (m := fun s => lines_Validate.l1 lines s) (I := fun x1 a w => ∃ (g2 : Gh), Fr 28 a [(11, .int .i64 x1), (10, .int .i64 (lines.length : Int)), (9, vlines1), (2, .pointer (some ⟨b1, 0, Option.none⟩))] ∧ Le g g2 ∧ St g2 [[(b1, .cells #[.int .i64 0, .int .i64 0] 25 (0, 0))]] fr w) hr1 ?_ ?_
      · exact ⟨g, F.sub ⟨rfl, rfl, rfl, rfl, trivial⟩, (Le.refl _), S⟩
      · clear F S; rintro x1 a w x2 ⟨g2, F, l2, S⟩ hx1 hfin1
        have hm : lines_Validate.l1 lines x1 = some x2 := hx1; clear hx1
        unfold lines_Validate.l1 at hm
        refine wp_seq ?_
        refine wp_region_lit ?_
        refine wl_ev (wn rfl) (ev_int rfl rfl (bo_lss _ _ _ _)) F S rfl rfl ?_; clear F a; intro a F
        refine wpList_nil ?_
        refine then_n ?_
        refine wp_seq ?_
        obtain ⟨hc2, hm⟩ | ⟨hc2, hm⟩ := ite_or hm
        · refine wp_condT F rfl hc2 ?_
          refine wp_skip ?_
          refine then_n ?_
          refine wp_seq ?_
          refine wp_block ?_
          refine wp_seq ?_
          refine wp_region_lit ?_
          refine wl_ev (wn rfl) (ev_move rfl) F S rfl rfl ?_; clear F a; intro a F
          obtain ⟨y1, hy1, hm⟩ := bind_some hm
          obtain ⟨cs1, hr2, hp1⟩ := elemS (hlines1.mono l2) hy1
          obtain rfl := rep_str hr2
          refine wl_ev (wn rfl) (ev_idxS (hlines1.mono l2) hy1 tu31 ts9 rfl rfl) F S rfl rfl ?_; clear F a; intro a F
          refine wl_ev (wn rfl) (ev_load1 tu9 rfl rfl (ptr_mono (cks := [[(b1, .cells #[.int .i64 0, .int .i64 0] 25 (0, 0))]]) (fr := fr) hp1 (Le.refl _))) F S rfl rfl ?_; clear F a; intro a F
          refine wl_ev (wn rfl) (ev_assign rfl) F S rfl rfl ?_; clear F a; intro a F
          refine wl_ev (wn rfl) (ev_assign rfl) F S rfl rfl ?_; clear F a; intro a F
          refine wpList_nil ?_
          replace F := F.sub (e' := [(4, .string y1), (3, .int .i64 x1), (11, .int .i64 x1), (10, .int .i64 (lines.length : Int)), (9, vlines1), (2, .pointer (some ⟨b1, 0, Option.none⟩))]) ⟨rfl, rfl, rfl, rfl, rfl, rfl, trivial⟩
          refine then_n ?_
          refine wp_seq ?_
          refine wp_seq ?_
          refine wp_region_lit ?_
          refine wl_ev (wn rfl) (ev_move rfl) F S rfl rfl ?_; clear F a; intro a F
          refine wl_ev (wn rfl) (ev_lenS rfl tu9) F S rfl rfl ?_; clear F a; intro a F
          refine wl_ev (wn rfl) (ev_int rfl rfl (bo_gtr _ _ _ _)) F S rfl rfl ?_; clear F a; intro a F
          refine wpList_nil ?_
          replace F := F.sub (e' := [(18, .bool (decide ((y1.size : Int) > 80))), (4, .string y1), (3, .int .i64 x1), (11, .int .i64 x1), (10, .int .i64 (lines.length : Int)), (9, vlines1), (2, .pointer (some ⟨b1, 0, Option.none⟩))]) ⟨rfl, rfl, rfl, rfl, rfl, rfl, rfl, trivial⟩
          refine then_n ?_
          obtain ⟨hc3, hm⟩ | ⟨hc3, hm⟩ := ite_or hm
          · refine wp_condT F rfl hc3 ?_
            refine wp_seq ?_
            refine wp_region_lit ?_
            refine wl_ev (wn rfl) (ev_move rfl) F S rfl rfl ?_; clear F a; intro a F
            refine wl_ev (wn rfl) (ev_build (parts := [(0, .const (.int .i64 2)), (1, .tmp 19)]) (vs := [(0, .int .i64 2), (1, .int .i64 x1)]) rfl (fun w => tb25_0_1 2 x1 w)) F S rfl rfl ?_; clear F a; intro a F
            refine wl_storeC (wn rfl) rfl F S rfl rfl (vs := [.int .i64 2, .int .i64 x1]) rfl ts25 (one_cons rfl (one_cons rfl one_nil)) (k := 0) rfl (Nat.le_of_ble_eq_true rfl) (c' := #[.int .i64 2, .int .i64 x1]) rfl rfl ?_; clear S; intro w S
            replace S : St g2 [[(b1, .cells #[.int .i64 2, .int .i64 x1] 25 (0, 0))]] fr w := S
            refine wpList_nil ?_
            replace F := F.sub (e' := [(2, .pointer (some ⟨b1, 0, Option.none⟩))]) ⟨rfl, trivial⟩
            refine then_n ?_
            refine wp_ret ?_
            refine then_r ?_
            refine inb_r ?_
            refine then_r ?_
            refine then_r ?_
            refine inb_r ?_
            refine then_r ?_
            obtain rfl := Option.some.inj hm
            obtain rfl := hfin1 _ rfl
            clear hm
            have hm : (some ({ Code := 2, Index := x1 } : Fault) : Option Fault) = some _ := hmo1
            obtain rfl := Option.some.inj hm
            refine post_r (fn := Try.f33) (rs := [.cell 2 25]) [.agg #[.int .i64 2, .int .i64 x1]] F rfl (ar_cons (resA rfl tu25 rfl ts25 (box_ptr (cells := [.int .i64 2, .int .i64 x1]) 0 rfl 0 rfl (Nat.le_of_ble_eq_true rfl) w S)) ar_nil) ?_
            replace S : St g2 [] fr w := St.tail [] _ S
            exact ⟨_, rfl, g2, l2, S, rfl⟩
          · refine wp_condF F rfl hc3 ?_
            refine wp_skip ?_
            refine then_n ?_
            refine wp_seq ?_
            refine wp_region_lit ?_
            refine wl_ev (wn rfl) (ev_move rfl) F S rfl rfl ?_; clear F a; intro a F
            obtain ⟨y2, hy2, hm⟩ := bind_some hm
            refine wl_call (wn rfl) rfl (xs := [.tmp 21, .const (.int .u8 10)]) (vs := [.string y1, .int .u8 10]) (cap := []) F rfl rfl tc42 (strings_IndexByte_ok (g := g2) (fr := (fl [[(b1, .cells #[.int .i64 0, .int .i64 0] 25 (0, 0))]] fr)) (w := w) y1 10 S hy2) rfl rfl ?_; clear F a S
            rintro _ a w ⟨g3, l3, S, rfl⟩ F; replace S : St g3 [[(b1, .cells #[.int .i64 0, .int .i64 0] 25 (0, 0))]] fr w := S
            refine wl_ev (wn rfl) (ev_int rfl rfl (bo_geq _ _ _ _)) F S rfl rfl ?_; clear F a; intro a F
            refine wpList_nil ?_
            replace F := F.sub (e' := [(23, .bool (decide (y2 ≥ 0))), (3, .int .i64 x1), (11, .int .i64 x1), (10, .int .i64 (lines.length : Int)), (9, vlines1), (2, .pointer (some ⟨b1, 0, Option.none⟩))]) ⟨rfl, rfl, rfl, rfl, rfl, rfl, trivial⟩
            refine then_n ?_
            obtain ⟨hc4, hm⟩ | ⟨hc4, hm⟩ := ite_or hm
            · refine wp_condT F rfl hc4 ?_
              refine wp_seq ?_
              refine wp_region_lit ?_
              refine wl_ev (wn rfl) (ev_move rfl) F S rfl rfl ?_; clear F a; intro a F
              refine wl_ev (wn rfl) (ev_build (parts := [(0, .const (.int .i64 5)), (1, .tmp 24)]) (vs := [(0, .int .i64 5), (1, .int .i64 x1)]) rfl (fun w => tb25_0_1 5 x1 w)) F S rfl rfl ?_; clear F a; intro a F
              refine wl_storeC (wn rfl) rfl F S rfl rfl (vs := [.int .i64 5, .int .i64 x1]) rfl ts25 (one_cons rfl (one_cons rfl one_nil)) (k := 0) rfl (Nat.le_of_ble_eq_true rfl) (c' := #[.int .i64 5, .int .i64 x1]) rfl rfl ?_; clear S; intro w S
              replace S : St g3 [[(b1, .cells #[.int .i64 5, .int .i64 x1] 25 (0, 0))]] fr w := S
              refine wpList_nil ?_
              replace F := F.sub (e' := [(2, .pointer (some ⟨b1, 0, Option.none⟩))]) ⟨rfl, trivial⟩
              refine then_n ?_
              refine wp_ret ?_
              refine inb_r ?_
              refine then_r ?_
              refine then_r ?_
              refine inb_r ?_
              refine then_r ?_
              obtain rfl := Option.some.inj hm
              obtain rfl := hfin1 _ rfl
              clear hm
              have hm : (some ({ Code := 5, Index := x1 } : Fault) : Option Fault) = some _ := hmo1
              obtain rfl := Option.some.inj hm
              refine post_r (fn := Try.f33) (rs := [.cell 2 25]) [.agg #[.int .i64 5, .int .i64 x1]] F rfl (ar_cons (resA rfl tu25 rfl ts25 (box_ptr (cells := [.int .i64 5, .int .i64 x1]) 0 rfl 0 rfl (Nat.le_of_ble_eq_true rfl) w S)) ar_nil) ?_
              replace S : St g3 [] fr w := St.tail [] _ S
              exact ⟨_, rfl, g3, (l2.trans l3), S, rfl⟩
            · refine wp_condF F rfl hc4 ?_
              refine wp_skip ?_
              refine inb_n ?_
              refine then_n ?_
              refine wp_region_lit ?_
              obtain ⟨z1, hz1, hm⟩ := bind_some hm
              refine wl_ev (wn rfl) (ev_int rfl rfl (bo_add hz1)) F S rfl rfl ?_; clear F a; intro a F
              refine wl_ev (wn rfl) (ev_move rfl) F S rfl rfl ?_; clear F a; intro a F
              refine wpList_nil ?_
              replace F := F.sub (e' := [(11, .int .i64 z1), (10, .int .i64 (lines.length : Int)), (9, vlines1), (2, .pointer (some ⟨b1, 0, Option.none⟩))]) ⟨rfl, rfl, rfl, rfl, trivial⟩
              refine then_n ?_
              obtain rfl := Option.some.inj hm
              refine ⟨_, rfl, ?_⟩
              exact ⟨g3, F.sub ⟨rfl, rfl, rfl, rfl, trivial⟩, (l2.trans l3), S⟩
        · refine wp_condF F rfl hc2 ?_
          refine wp_exit ?_
          refine then_e ?_
          refine then_e ?_
          refine inb_x ?_
          refine then_n ?_
          obtain rfl := Option.some.inj hm
          obtain rfl := hfin1 _ rfl
          clear hm
          have hm : (lines_Validate.j1 : Option Fault) = some _ := hmo1
          exact ⟨g2, F.sub ⟨rfl, trivial⟩, l2, S, hm⟩
    · clear F S hm; rintro a w ⟨g1, F, l1, S, hm⟩
      refine wp_seq ?_
      refine wp_region_lit ?_
      refine wl_ev (wn rfl) (ev_build (parts := []) (vs := []) rfl (fun w => tb25_  w)) F S rfl rfl ?_; clear F a; intro a F
      refine wl_storeC (wn rfl) rfl F S rfl rfl (vs := [.int .i64 0, .int .i64 0]) rfl ts25 (one_cons rfl (one_cons rfl one_nil)) (k := 0) rfl (Nat.le_of_ble_eq_true rfl) (c' := #[.int .i64 0, .int .i64 0]) rfl rfl ?_; clear S; intro w S
      replace S : St g1 [[(b1, .cells #[.int .i64 0, .int .i64 0] 25 (0, 0))]] fr w := S
      refine wpList_nil ?_
      replace F := F.sub (e' := [(2, .pointer (some ⟨b1, 0, Option.none⟩))]) ⟨rfl, trivial⟩
      refine then_n ?_
      refine wp_ret ?_
      obtain rfl := Option.some.inj hm
      refine post_r (fn := Try.f33) (rs := [.cell 2 25]) [.agg #[.int .i64 0, .int .i64 0]] F rfl (ar_cons (resA rfl tu25 rfl ts25 (box_ptr (cells := [.int .i64 0, .int .i64 0]) 0 rfl 0 rfl (Nat.le_of_ble_eq_true rfl) w S)) ar_nil) ?_
      replace S : St g1 [] fr w := St.tail [] _ S
      exact ⟨_, rfl, g1, l1, S, rfl⟩

theorem lines_Second_ok {g : Gh} {fr : Hl} {w : World} {r : Fault} (b_ : (List ByteArray)) (vb_1 : Value) (hb_1 : RepSl g b_ vb_1) (index : Int) (S : St g [] fr w) (hm : lines_Second b_ index = some r) :
    Calls Try.prog 23 [vb_1, .int .i64 index].toArray w (fun en w' => ∃ v, en = .returned v ∧ ∃ (g' : Gh), Le g g' ∧ St g' [] fr w' ∧ .agg #[.int .i64 r.Code, .int .i64 r.Index] = v) := by
  unfold lines_Second at hm
  refine calls_enter (fn := Try.f23) Try.func23 rfl Try.ntmps23 (Nat.le_of_ble_eq_true rfl) ?_
  intro a F
  replace F : Fr 16 a [(0, vb_1), (1, .int .i64 index)] := F
  refine wp_seq ?_
  refine wp_region_lit ?_
  refine wl_alloc (wn rfl) rfl tz25 (cs := [.int .i64 0, .int .i64 0]) rfl F S rfl rfl ?_; clear F a S; rintro b1 a w F S
  refine wpList_nil ?_
  refine then_n ?_
  refine wp_seq ?_
  refine wp_seq ?_
  refine wp_region_lit ?_
  refine wl_ev (wn rfl) (ev_move rfl) F S rfl rfl ?_; clear F a; intro a F
  obtain ⟨y1, hy1, hm⟩ := bind_some hm
  refine wl_call (wn rfl) rfl (xs := [.tmp 6]) (vs := [vb_1]) (cap := []) F rfl rfl tc33 (lines_Validate_ok (g := g) (fr := (fl [[(b1, .cells #[.int .i64 0, .int .i64 0] 25 (0, 0))]] fr)) (w := w) b_ vb_1 hb_1 S hy1) rfl rfl ?_; clear F a S
  rintro _ a w ⟨g1, l1, S, rfl⟩ F; replace S : St g1 [[(b1, .cells #[.int .i64 0, .int .i64 0] 25 (0, 0))]] fr w := S
  refine wl_alloc (wn rfl) rfl tz25 (cs := [.int .i64 0, .int .i64 0]) rfl F S rfl rfl ?_; clear F a S; rintro b2 a w F S
  refine wl_storeC (wn rfl) rfl F S rfl rfl (vs := [.int .i64 y1.Code, .int .i64 y1.Index]) rfl ts25 (one_cons rfl (one_cons rfl one_nil)) (k := 0) rfl (Nat.le_of_ble_eq_true rfl) (c' := #[.int .i64 y1.Code, .int .i64 y1.Index]) rfl rfl ?_; clear S; intro w S
  replace S : St g1 [[(b2, .cells #[.int .i64 y1.Code, .int .i64 y1.Index] 25 (0, 0))], [(b1, .cells #[.int .i64 0, .int .i64 0] 25 (0, 0))]] fr w := S
  refine wpList_nil ?_
  replace F := F.sub (e' := [(5, .pointer (some ⟨b2, 0, Option.none⟩)), (4, .pointer (some ⟨b1, 0, Option.none⟩)), (1, .int .i64 index)]) ⟨rfl, rfl, rfl, trivial⟩
  refine then_n ?_
  refine wp_seq ?_
  refine wp_region_lit ?_
  refine wl_ev (wn rfl) (ev_loadA tu25 rfl (cs := [.int .i64 y1.Code, .int .i64 y1.Index]) ts25 rfl (box_ptr (cells := [.int .i64 y1.Code, .int .i64 y1.Index]) 0 rfl 0 rfl (Nat.le_of_ble_eq_true rfl))) F S rfl rfl ?_; clear F a; intro a F
  refine wl_ev (wn rfl) (ev_build (parts := []) (vs := []) rfl (fun w => tb25_  w)) F S rfl rfl ?_; clear F a; intro a F
  refine wl_ev (wn rfl) (ev_neS tu25 tqa25 tqb25 tqc25 (xs := [.int .i64 y1.Code, .int .i64 y1.Index]) (ys := [.int .i64 0, .int .i64 0]) rfl rfl ⟨_, _, rfl, by decide, ⟨_, _, rfl, rfl, leaf_int tu3⟩, ⟨_, _, rfl, by decide, ⟨_, _, rfl, rfl, leaf_int tu3⟩, rfl⟩⟩) F S rfl rfl ?_; clear F a; intro a F
  refine wpList_nil ?_
  replace F := F.sub (e' := [(10, .bool (!(decide (y1.Code = 0) && decide (y1.Index = 0)))), (5, .pointer (some ⟨b2, 0, Option.none⟩)), (4, .pointer (some ⟨b1, 0, Option.none⟩)), (1, .int .i64 index)]) ⟨rfl, rfl, rfl, rfl, trivial⟩
  refine then_n ?_
  obtain ⟨hc1, hm⟩ | ⟨hc1, hm⟩ := ite_or hm
  · refine wp_condT F rfl hc1 ?_
    refine wp_seq ?_
    refine wp_region_lit ?_
    refine wl_ev (wn rfl) (ev_fieldAddr' tu25 tf25_0 (z := 0) ts3 rfl ⟨_, rfl⟩ rfl) F S rfl rfl ?_; clear F a; intro a F
    refine wl_ev (wn rfl) (ev_load1 tu3 rfl rfl (box_ptr (cells := [.int .i64 y1.Code]) 0 rfl 0 rfl (Nat.le_of_ble_eq_true rfl))) F S rfl rfl ?_; clear F a; intro a F
    refine wl_ev (wn rfl) (ev_move rfl) F S rfl rfl ?_; clear F a; intro a F
    refine wl_ev (wn rfl) (ev_build (parts := [(0, .tmp 12), (1, .tmp 13)]) (vs := [(0, .int .i64 y1.Code), (1, .int .i64 index)]) rfl (fun w => tb25_0_1 y1.Code index w)) F S rfl rfl ?_; clear F a; intro a F
    refine wl_storeC (wn rfl) rfl F S rfl rfl (vs := [.int .i64 y1.Code, .int .i64 index]) rfl ts25 (one_cons rfl (one_cons rfl one_nil)) (k := 1) rfl (Nat.le_of_ble_eq_true rfl) (c' := #[.int .i64 y1.Code, .int .i64 index]) rfl rfl ?_; clear S; intro w S
    replace S : St g1 [[(b2, .cells #[.int .i64 y1.Code, .int .i64 y1.Index] 25 (0, 0))], [(b1, .cells #[.int .i64 y1.Code, .int .i64 index] 25 (0, 0))]] fr w := S
    refine wpList_nil ?_
    replace F := F.sub (e' := [(4, .pointer (some ⟨b1, 0, Option.none⟩))]) ⟨rfl, trivial⟩
    refine then_n ?_
    refine wp_ret ?_
    refine then_r ?_
    obtain rfl := Option.some.inj hm
    refine post_r (fn := Try.f23) (rs := [.cell 4 25]) [.agg #[.int .i64 y1.Code, .int .i64 index]] F rfl (ar_cons (resA rfl tu25 rfl ts25 (box_ptr (cells := [.int .i64 y1.Code, .int .i64 index]) 1 rfl 0 rfl (Nat.le_of_ble_eq_true rfl) w S)) ar_nil) ?_
    replace S : St g1 [] fr w := St.tail [] _ S
    exact ⟨_, rfl, g1, l1, S, rfl⟩
  · refine wp_condF F rfl hc1 ?_
    refine wp_skip ?_
    refine then_n ?_
    refine wp_seq ?_
    refine wp_region_lit ?_
    refine wl_ev (wn rfl) (ev_build (parts := []) (vs := []) rfl (fun w => tb25_  w)) F S rfl rfl ?_; clear F a; intro a F
    refine wl_storeC (wn rfl) rfl F S rfl rfl (vs := [.int .i64 0, .int .i64 0]) rfl ts25 (one_cons rfl (one_cons rfl one_nil)) (k := 1) rfl (Nat.le_of_ble_eq_true rfl) (c' := #[.int .i64 0, .int .i64 0]) rfl rfl ?_; clear S; intro w S
    replace S : St g1 [[(b2, .cells #[.int .i64 y1.Code, .int .i64 y1.Index] 25 (0, 0))], [(b1, .cells #[.int .i64 0, .int .i64 0] 25 (0, 0))]] fr w := S
    refine wpList_nil ?_
    replace F := F.sub (e' := [(4, .pointer (some ⟨b1, 0, Option.none⟩))]) ⟨rfl, trivial⟩
    refine then_n ?_
    refine wp_ret ?_
    obtain rfl := Option.some.inj hm
    refine post_r (fn := Try.f23) (rs := [.cell 4 25]) [.agg #[.int .i64 0, .int .i64 0]] F rfl (ar_cons (resA rfl tu25 rfl ts25 (box_ptr (cells := [.int .i64 0, .int .i64 0]) 1 rfl 0 rfl (Nat.le_of_ble_eq_true rfl) w S)) ar_nil) ?_
    replace S : St g1 [] fr w := St.tail [] _ S
    exact ⟨_, rfl, g1, l1, S, rfl⟩

theorem diff_Align_s1_ok {g : Gh} {fr : Hl} {w : World} {r : Int} (i_ : Int) (j : Int) (bu2 : Nat) (u2 : (List Int)) (vu21 : Value) (cu21 : Hl) (hu21 : OwnS g u2 vu21 cu21) (bu3 : Nat) (u3 : Int) (S : St g [[(bu2, .cells #[vu21] 23 (0, 0))], cu21, [(bu3, .cells #[.int .i64 u3] 3 (0, 0))]] fr w) (hm : diff_Align_s1 i_ j u2 u3 = some r) :
    Calls Try.prog 39 [.int .i64 i_, .int .i64 j, .pointer (some ⟨bu2, 0, Option.none⟩), .pointer (some ⟨bu3, 0, Option.none⟩)].toArray w (fun en w' => ∃ v, en = .returned v ∧ ∃ (g' : Gh), Le g g' ∧ St g' [[(bu2, .cells #[vu21] 23 (0, 0))], cu21, [(bu3, .cells #[.int .i64 u3] 3 (0, 0))]] fr w' ∧ .int .i64 r = v) := by
  unfold diff_Align_s1 at hm
  refine calls_enter (fn := Try.f39) Try.func39 rfl Try.ntmps39 (Nat.le_of_ble_eq_true rfl) ?_
  intro a F
  replace F : Fr 15 a [(0, .int .i64 i_), (1, .int .i64 j), (2, .pointer (some ⟨bu2, 0, Option.none⟩)), (3, .pointer (some ⟨bu3, 0, Option.none⟩))] := F
  refine wp_seq ?_
  refine wp_region_lit ?_
  refine wl_ev (wn rfl) (ev_assign rfl) F S rfl rfl ?_; clear F a; intro a F
  refine wpList_nil ?_
  replace F := F.sub (e' := [(0, .int .i64 i_), (1, .int .i64 j), (2, .pointer (some ⟨bu2, 0, Option.none⟩)), (3, .pointer (some ⟨bu3, 0, Option.none⟩))]) ⟨rfl, rfl, rfl, rfl, trivial⟩
  refine then_n ?_
  refine wp_seq ?_
  refine wp_region_lit ?_
  refine wl_ev (wn rfl) (ev_load1 tu23 rfl rfl (box_ptr (cells := [vu21]) 0 rfl 0 rfl (Nat.le_of_ble_eq_true rfl))) F S rfl rfl ?_; clear F a; intro a F
  refine wl_ev (wn rfl) (ev_move rfl) F S rfl rfl ?_; clear F a; intro a F
  refine wl_ev (wn rfl) (ev_load1 tu3 rfl rfl (box_ptr (cells := [.int .i64 u3]) 2 rfl 0 rfl (Nat.le_of_ble_eq_true rfl))) F S rfl rfl ?_; clear F a; intro a F
  obtain ⟨z1, hz1, hm⟩ := bind_some hm
  refine wl_ev (wn rfl) (ev_int rfl rfl (bo_mul hz1)) F S rfl rfl ?_; clear F a; intro a F
  refine wl_ev (wn rfl) (ev_move rfl) F S rfl rfl ?_; clear F a; intro a F
  obtain ⟨z2, hz2, hm⟩ := bind_some hm
  refine wl_ev (wn rfl) (ev_int rfl rfl (bo_add hz2)) F S rfl rfl ?_; clear F a; intro a F
  obtain ⟨y1, hy1, hm⟩ := bind_some hm
  refine wl_ev (wn rfl) (ev_idxO hu21 hy1 tu23 ts3 rfl rfl) F S rfl rfl ?_; clear F a; intro a F
  obtain ⟨cs1, hr1, hq1⟩ := elemO hu21 hy1
  obtain rfl := rep_int hr1
  refine wl_ev (wn rfl) (ev_load1 tu3 rfl rfl (hq1 _ _ 1 rfl)) F S rfl rfl ?_; clear F a; intro a F
  refine wl_ev (wn rfl) (ev_assign rfl) F S rfl rfl ?_; clear F a; intro a F
  refine wpList_nil ?_
  replace F := F.sub (e' := [(6, .int .i64 y1), (2, .pointer (some ⟨bu2, 0, Option.none⟩)), (3, .pointer (some ⟨bu3, 0, Option.none⟩))]) ⟨rfl, rfl, rfl, trivial⟩
  refine then_n ?_
  refine wp_ret ?_
  obtain rfl := Option.some.inj hm
  refine post_r (fn := Try.f39) (rs := [.tmp 6]) [.int .i64 y1] F rfl (ar_cons (resT rfl) ar_nil) ?_
  exact ⟨_, rfl, g, (Le.refl _), S, rfl⟩

theorem diff_Align_ok {g : Gh} {fr : Hl} {w : World} {r : (List Int)} (a_ : (List ByteArray)) (va_1 : Value) (ha_1 : RepSl g a_ va_1) (b_ : (List ByteArray)) (vb_1 : Value) (hb_1 : RepSl g b_ vb_1) (S : St g [] fr w) (hm : diff_Align a_ b_ = some r) :
    Calls Try.prog 24 [va_1, vb_1].toArray w (fun en w' => ∃ v, en = .returned v ∧ ∃ (g' : Gh) (v1 : Value), Le g g' ∧ St g' [] fr w' ∧ RepSl g' r v1 ∧ v1 = v) := by
  unfold diff_Align at hm
  refine calls_enter (fn := Try.f24) Try.func24 rfl Try.ntmps24 (Nat.le_of_ble_eq_true rfl) ?_
  intro a F
  replace F : Fr 147 a [(0, va_1), (1, vb_1)] := F
  refine wp_seq ?_
  refine wp_region_lit ?_
  refine wl_ev (wn rfl) (ev_assign rfl) F S rfl rfl ?_; clear F a; intro a F
  refine wpList_nil ?_
  replace F := F.sub (e' := [(0, va_1), (1, vb_1)]) ⟨rfl, rfl, trivial⟩
  refine then_n ?_
  refine wp_seq ?_
  refine wp_region_lit ?_
  refine wl_ev (wn rfl) (ev_move rfl) F S rfl rfl ?_; clear F a; intro a F
  refine wl_ev (wn rfl) (ev_lenSh hb_1 rfl tu31) F S rfl rfl ?_; clear F a; intro a F
  obtain ⟨z1, hz1, hm⟩ := bind_some hm
  refine wl_ev (wn rfl) (ev_int rfl rfl (bo_add hz1)) F S rfl rfl ?_; clear F a; intro a F
  refine wl_alloc (wn rfl) rfl tz3 (cs := [.int .i64 0]) rfl F S rfl rfl ?_; clear F a S; rintro b1 a w F S
  refine wl_storeC (wn rfl) rfl F S rfl rfl (vs := [.int .i64 z1]) rfl ts3 (one_cons rfl one_nil) (k := 0) rfl (Nat.le_of_ble_eq_true rfl) (c' := #[.int .i64 z1]) rfl rfl ?_; clear S; intro w S
  replace S : St g [[(b1, .cells #[.int .i64 z1] 3 (0, 0))]] fr w := S
  refine wpList_nil ?_
  replace F := F.sub (e' := [(5, .pointer (some ⟨b1, 0, Option.none⟩)), (0, va_1), (1, vb_1)]) ⟨rfl, rfl, rfl, trivial⟩
  refine then_n ?_
  refine wp_seq ?_
  refine wp_region_lit ?_
  refine wl_ev (wn rfl) (ev_move rfl) F S rfl rfl ?_; clear F a; intro a F
  refine wl_ev (wn rfl) (ev_lenSh ha_1 rfl tu31) F S rfl rfl ?_; clear F a; intro a F
  obtain ⟨z2, hz2, hm⟩ := bind_some hm
  refine wl_ev (wn rfl) (ev_int rfl rfl (bo_add hz2)) F S rfl rfl ?_; clear F a; intro a F
  refine wl_ev (wn rfl) (ev_load1 tu3 rfl rfl (box_ptr (cells := [.int .i64 z1]) 0 rfl 0 rfl (Nat.le_of_ble_eq_true rfl))) F S rfl rfl ?_; clear F a; intro a F
  obtain ⟨z3, hz3, hm⟩ := bind_some hm
  refine wl_ev (wn rfl) (ev_int rfl rfl (bo_mul hz3)) F S rfl rfl ?_; clear F a; intro a F
  obtain ⟨y1, hy1, hm⟩ := bind_some hm
  refine wl_make (wn rfl) rfl tu23 te3 (fun g => (show Rep.rep g (0 : Int) _ from rfl)) rfl hy1 (by decide) F S rfl rfl ?_; clear F a S; rintro v1 c1 a w h1 F S
  refine wl_alloc (wn rfl) rfl tz23 (cs := [.slice Option.none 0 0]) rfl F S rfl rfl ?_; clear F a S; rintro b2 a w F S
  refine wl_storeC (wn rfl) rfl F S rfl rfl (vs := [v1]) (OwnS.cl h1) ts23 (one_cons (OwnS.one h1) one_nil) (k := 0) rfl (Nat.le_of_ble_eq_true rfl) (c' := #[v1]) rfl rfl ?_; clear S; intro w S
  replace S : St g [[(b2, .cells #[v1] 23 (0, 0))], c1, [(b1, .cells #[.int .i64 z1] 3 (0, 0))]] fr w := S
  refine wpList_nil ?_
  replace F := F.sub (e' := [(6, .pointer (some ⟨b2, 0, Option.none⟩)), (5, .pointer (some ⟨b1, 0, Option.none⟩)), (0, va_1), (1, vb_1)]) ⟨rfl, rfl, rfl, rfl, trivial⟩
  refine then_n ?_
  refine wp_seq ?_
  refine wp_region_lit ?_
  refine wl_ev (wn rfl) (ev_makeFunc (xs := [.tmp 6, .tmp 5]) (vs := [.pointer (some ⟨b2, 0, Option.none⟩), .pointer (some ⟨b1, 0, Option.none⟩)]) rfl) F S rfl rfl ?_; clear F a; intro a F
  refine wl_ev (wn rfl) (ev_assign rfl) F S rfl rfl ?_; clear F a; intro a F
  refine wpList_nil ?_
  replace F := F.sub (e' := [(7, .func (.func 39) #[] #[.pointer (some ⟨b2, 0, Option.none⟩), .pointer (some ⟨b1, 0, Option.none⟩)]), (6, .pointer (some ⟨b2, 0, Option.none⟩)), (5, .pointer (some ⟨b1, 0, Option.none⟩)), (0, va_1), (1, vb_1)]) ⟨rfl, rfl, rfl, rfl, rfl, trivial⟩
  refine then_n ?_
  refine wp_cut (fun a w => ∃ (x1 : List Int) (v2 : Value) (c2 : Hl) (g1 : Gh), Fr 147 a [(7, .func (.func 39) #[] #[.pointer (some ⟨b2, 0, Option.none⟩), .pointer (some ⟨b1, 0, Option.none⟩)]), (0, va_1), (1, vb_1)] ∧ Le g g1 ∧ St g1 [[(b2, .cells #[v2] 23 (0, 0))], [(b1, .cells #[.int .i64 z1] 3 (0, 0))], c2] fr w ∧ OwnS g1 x1 v2 c2 ∧ diff_Align.j1 a_ b_ z1 x1 = some r) ?_ ?_
  · refine wp_seq ?_
    refine wp_region_lit ?_
    refine wl_ev (wn rfl) (ev_move rfl) F S rfl rfl ?_; clear F a; intro a F
    refine wl_ev (wn rfl) (ev_lenSh ha_1 rfl tu31) F S rfl rfl ?_; clear F a; intro a F
    obtain ⟨z10, hz10, hm⟩ := bind_some hm
    refine wl_ev (wn rfl) (ev_int rfl rfl (bo_sub hz10)) F S rfl rfl ?_; clear F a; intro a F
    refine wl_ev (wn rfl) (ev_assign rfl) F S rfl rfl ?_; clear F a; intro a F
    refine wpList_nil ?_
    replace F := F.sub (e' := [(8, .int .i64 z10), (7, .func (.func 39) #[] #[.pointer (some ⟨b2, 0, Option.none⟩), .pointer (some ⟨b1, 0, Option.none⟩)]), (6, .pointer (some ⟨b2, 0, Option.none⟩)), (5, .pointer (some ⟨b1, 0, Option.none⟩)), (0, va_1), (1, vb_1)]) ⟨rfl, rfl, rfl, rfl, rfl, rfl, trivial⟩
    refine then_n ?_
    refine wp_block ?_
    obtain ⟨r2, hr7, hm⟩ := bind_some hm
    have hmo2 := hm; clear hm
    refine wp_iter (σ := Int × (List Int)) (ρ := (List Int)) (m := fun s => diff_Align.l2 a_ b_ z1 s.1 s.2) (I := fun s a w => match s with | (x12, x13) => ∃ (v11 : Value) (c11 : Hl) (g9 : Gh), Fr 147 a [(8, .int .i64 x12), (7, .func (.func 39) #[] #[.pointer (some ⟨b2, 0, Option.none⟩), .pointer (some ⟨b1, 0, Option.none⟩)]), (6, .pointer (some ⟨b2, 0, Option.none⟩)), (5, .pointer (some ⟨b1, 0, Option.none⟩)), (0, va_1), (1, vb_1)] ∧ Le g g9 ∧ St g9 [[(b2, .cells #[v11] 23 (0, 0))], [(b1, .cells #[.int .i64 z1] 3 (0, 0))], c11] fr w ∧ OwnS g9 x13 v11 c11) hr7 ?_ ?_
    · dsimp only
      replace S : St g [[(b2, .cells #[v1] 23 (0, 0))], [(b1, .cells #[.int .i64 z1] 3 (0, 0))], c1] fr w := St.tail [[(b2, .cells #[v1] 23 (0, 0))], [(b1, .cells #[.int .i64 z1] 3 (0, 0))], c1] _ (((S.frontC 1 rfl).frontC 3 rfl).frontC 2 rfl)
      exact ⟨v1, c1, g, F.sub ⟨rfl, rfl, rfl, rfl, rfl, rfl, trivial⟩, (Le.refl _), S, h1⟩
    · clear F S; rintro ⟨x12, x13⟩ a w x14 ⟨v11, c11, g9, F, l9, S, h12⟩ hx7 hfin2
      have hm : diff_Align.l2 a_ b_ z1 x12 x13 = some x14 := hx7; clear hx7
      unfold diff_Align.l2 at hm
      refine wp_seq ?_
      refine wp_seq ?_
      refine wp_region_lit ?_
      refine wl_ev (wn rfl) (ev_move rfl) F S rfl rfl ?_; clear F a; intro a F
      refine wl_ev (wn rfl) (ev_int rfl rfl (bo_geq _ _ _ _)) F S rfl rfl ?_; clear F a; intro a F
      refine wpList_nil ?_
      replace F := F.sub (e' := [(28, .bool (decide (x12 ≥ 0))), (8, .int .i64 x12), (7, .func (.func 39) #[] #[.pointer (some ⟨b2, 0, Option.none⟩), .pointer (some ⟨b1, 0, Option.none⟩)]), (6, .pointer (some ⟨b2, 0, Option.none⟩)), (5, .pointer (some ⟨b1, 0, Option.none⟩)), (0, va_1), (1, vb_1)]) ⟨rfl, rfl, rfl, rfl, rfl, rfl, rfl, trivial⟩
      refine then_n ?_
      obtain ⟨hc9, hm⟩ | ⟨hc9, hm⟩ := ite_or hm
      · refine wp_condT F rfl hc9 ?_
        refine wp_skip ?_
        refine then_n ?_
        refine wp_cut (fun a w => ∃ (x15 : List Int) (v12 : Value) (c12 : Hl) (g10 : Gh), Fr 147 a [(8, .int .i64 x12), (7, .func (.func 39) #[] #[.pointer (some ⟨b2, 0, Option.none⟩), .pointer (some ⟨b1, 0, Option.none⟩)]), (6, .pointer (some ⟨b2, 0, Option.none⟩)), (5, .pointer (some ⟨b1, 0, Option.none⟩)), (0, va_1), (1, vb_1)] ∧ Le g9 g10 ∧ St g10 [[(b2, .cells #[v12] 23 (0, 0))], [(b1, .cells #[.int .i64 z1] 3 (0, 0))], c12] fr w ∧ OwnS g10 x15 v12 c12 ∧ diff_Align.j3 x12 x15 = some x14) ?_ ?_
        · refine wp_block ?_
          refine wp_seq ?_
          refine wp_region_lit ?_
          refine wl_ev (wn rfl) (ev_move rfl) F S rfl rfl ?_; clear F a; intro a F
          refine wl_ev (wn rfl) (ev_lenSh hb_1 rfl tu31) F S rfl rfl ?_; clear F a; intro a F
          obtain ⟨z12, hz12, hm⟩ := bind_some hm
          refine wl_ev (wn rfl) (ev_int rfl rfl (bo_sub hz12)) F S rfl rfl ?_; clear F a; intro a F
          refine wl_ev (wn rfl) (ev_assign rfl) F S rfl rfl ?_; clear F a; intro a F
          refine wpList_nil ?_
          replace F := F.sub (e' := [(9, .int .i64 z12), (8, .int .i64 x12), (7, .func (.func 39) #[] #[.pointer (some ⟨b2, 0, Option.none⟩), .pointer (some ⟨b1, 0, Option.none⟩)]), (6, .pointer (some ⟨b2, 0, Option.none⟩)), (5, .pointer (some ⟨b1, 0, Option.none⟩)), (0, va_1), (1, vb_1)]) ⟨rfl, rfl, rfl, rfl, rfl, rfl, rfl, trivial⟩
          refine then_n ?_
          refine wp_cut1 (fun a w => ∃ (x16 : List Int) (v13 : Value) (c13 : Hl) (g11 : Gh), Fr 147 a [(8, .int .i64 x12), (7, .func (.func 39) #[] #[.pointer (some ⟨b2, 0, Option.none⟩), .pointer (some ⟨b1, 0, Option.none⟩)]), (6, .pointer (some ⟨b2, 0, Option.none⟩)), (5, .pointer (some ⟨b1, 0, Option.none⟩)), (0, va_1), (1, vb_1)] ∧ Le g9 g11 ∧ St g11 [[(b2, .cells #[v13] 23 (0, 0))], [(b1, .cells #[.int .i64 z1] 3 (0, 0))], c13] fr w ∧ OwnS g11 x16 v13 c13 ∧ diff_Align.j4 x12 x16 = some x14) ?_ ?_
          · refine wp_block ?_
            obtain ⟨r3, hr8, hm⟩ := bind_some hm
            have hmo3 := hm; clear hm
            refine wp_iter (σ := Int × (List Int)) (ρ := (List Int)) (m := fun s => diff_Align.l3 a_ b_ z1 x12 s.1 s.2) (I := fun s a w => match s with | (x17, x18) => ∃ (v14 : Value) (c14 : Hl) (g12 : Gh), Fr 147 a [(9, .int .i64 x17), (8, .int .i64 x12), (7, .func (.func 39) #[] #[.pointer (some ⟨b2, 0, Option.none⟩), .pointer (some ⟨b1, 0, Option.none⟩)]), (6, .pointer (some ⟨b2, 0, Option.none⟩)), (5, .pointer (some ⟨b1, 0, Option.none⟩)), (0, va_1), (1, vb_1)] ∧ Le g9 g12 ∧ St g12 [[(b2, .cells #[v14] 23 (0, 0))], [(b1, .cells #[.int .i64 z1] 3 (0, 0))], c14] fr w ∧ OwnS g12 x18 v14 c14) hr8 ?_ ?_
            · dsimp only
              exact ⟨v11, c11, g9, F.sub ⟨rfl, rfl, rfl, rfl, rfl, rfl, rfl, trivial⟩, (Le.refl _), S, h12⟩
            · clear F S; rintro ⟨x17, x18⟩ a w x19 ⟨v14, c14, g12, F, l12, S, h15⟩ hx8 hfin3
              have hm : diff_Align.l3 a_ b_ z1 x12 x17 x18 = some x19 := hx8; clear hx8
              unfold diff_Align.l3 at hm
              refine wp_seq ?_
              refine wp_seq ?_
              refine wp_region_lit ?_
              refine wl_ev (wn rfl) (ev_move rfl) F S rfl rfl ?_; clear F a; intro a F
              refine wl_ev (wn rfl) (ev_int rfl rfl (bo_geq _ _ _ _)) F S rfl rfl ?_; clear F a; intro a F
              refine wpList_nil ?_
              replace F := F.sub (e' := [(35, .bool (decide (x17 ≥ 0))), (9, .int .i64 x17), (8, .int .i64 x12), (7, .func (.func 39) #[] #[.pointer (some ⟨b2, 0, Option.none⟩), .pointer (some ⟨b1, 0, Option.none⟩)]), (6, .pointer (some ⟨b2, 0, Option.none⟩)), (5, .pointer (some ⟨b1, 0, Option.none⟩)), (0, va_1), (1, vb_1)]) ⟨rfl, rfl, rfl, rfl, rfl, rfl, rfl, rfl, trivial⟩
              refine then_n ?_
              obtain ⟨hc10, hm⟩ | ⟨hc10, hm⟩ := ite_or hm
              · refine wp_condT F rfl hc10 ?_
                refine wp_skip ?_
                refine then_n ?_
                refine wp_seq ?_
                refine wp_block ?_
                refine wp_seq ?_
                refine wp_region_lit ?_
                refine wl_ev (wn rfl) (ev_move rfl) F S rfl rfl ?_; clear F a; intro a F
                refine wl_ev (wn rfl) (ev_move rfl) F S rfl rfl ?_; clear F a; intro a F
                obtain ⟨z13, hz13, hm⟩ := bind_some hm
                refine wl_ev (wn rfl) (ev_int rfl rfl (bo_add hz13)) F S rfl rfl ?_; clear F a; intro a F
                refine wl_ev (wn rfl) (ev_move rfl) F S rfl rfl ?_; clear F a; intro a F
                replace S : St g12 [[(b2, .cells #[v14] 23 (0, 0))], c14, [(b1, .cells #[.int .i64 z1] 3 (0, 0))]] fr w := (((S.frontC 1 rfl).frontC 3 rfl).frontC 2 rfl)
                obtain ⟨y9, hy9, hm⟩ := bind_some hm
                refine wl_call (wn rfl) rfl (xs := [.tmp 40, .tmp 41]) (vs := [.int .i64 z13, .int .i64 x17]) (cap := [.pointer (some ⟨b2, 0, Option.none⟩), .pointer (some ⟨b1, 0, Option.none⟩)]) F rfl rfl tc39 (diff_Align_s1_ok (g := g12) (fr := fr) (w := w) z13 x17 b2 x18 v14 c14 h15 b1 z1 S hy9) rfl rfl ?_; clear F a S
                rintro _ a w ⟨g13, l13, S, rfl⟩ F; replace S : St g13 [[(b2, .cells #[v14] 23 (0, 0))], c14, [(b1, .cells #[.int .i64 z1] 3 (0, 0))]] fr w := S
                refine wl_ev (wn rfl) (ev_move rfl) F S rfl rfl ?_; clear F a; intro a F
                refine wl_ev (wn rfl) (ev_move rfl) F S rfl rfl ?_; clear F a; intro a F
                refine wl_ev (wn rfl) (ev_move rfl) F S rfl rfl ?_; clear F a; intro a F
                obtain ⟨z14, hz14, hm⟩ := bind_some hm
                refine wl_ev (wn rfl) (ev_int rfl rfl (bo_add hz14)) F S rfl rfl ?_; clear F a; intro a F
                obtain ⟨y10, hy10, hm⟩ := bind_some hm
                refine wl_call (wn rfl) rfl (xs := [.tmp 44, .tmp 46]) (vs := [.int .i64 x12, .int .i64 z14]) (cap := [.pointer (some ⟨b2, 0, Option.none⟩), .pointer (some ⟨b1, 0, Option.none⟩)]) F rfl rfl tc39 (diff_Align_s1_ok (g := g13) (fr := fr) (w := w) x12 z14 b2 x18 v14 c14 (h15.mono l13) b1 z1 S hy10) rfl rfl ?_; clear F a S
                rintro _ a w ⟨g14, l14, S, rfl⟩ F; replace S : St g14 [[(b2, .cells #[v14] 23 (0, 0))], c14, [(b1, .cells #[.int .i64 z1] 3 (0, 0))]] fr w := S
                refine wl_ev (wn rfl) (ev_max rfl rfl) F S rfl rfl ?_; clear F a; intro a F
                refine wl_ev (wn rfl) (ev_assign rfl) F S rfl rfl ?_; clear F a; intro a F
                refine wpList_nil ?_
                replace F := F.sub (e' := [(10, .int .i64 (max y9 y10)), (9, .int .i64 x17), (8, .int .i64 x12), (7, .func (.func 39) #[] #[.pointer (some ⟨b2, 0, Option.none⟩), .pointer (some ⟨b1, 0, Option.none⟩)]), (6, .pointer (some ⟨b2, 0, Option.none⟩)), (5, .pointer (some ⟨b1, 0, Option.none⟩)), (0, va_1), (1, vb_1)]) ⟨rfl, rfl, rfl, rfl, rfl, rfl, rfl, rfl, trivial⟩
                refine then_n ?_
                refine wp_cut (fun a w => ∃ (x20 : Int) (g15 : Gh), Fr 147 a [(10, .int .i64 x20), (9, .int .i64 x17), (8, .int .i64 x12), (7, .func (.func 39) #[] #[.pointer (some ⟨b2, 0, Option.none⟩), .pointer (some ⟨b1, 0, Option.none⟩)]), (6, .pointer (some ⟨b2, 0, Option.none⟩)), (5, .pointer (some ⟨b1, 0, Option.none⟩)), (0, va_1), (1, vb_1)] ∧ Le g14 g15 ∧ St g15 [[(b2, .cells #[v14] 23 (0, 0))], [(b1, .cells #[.int .i64 z1] 3 (0, 0))], c14] fr w ∧ diff_Align.j5 z1 x12 x17 x18 x20 = some x19) ?_ ?_
                · refine wp_seq ?_
                  refine wp_quiet mo (by kernel_rfl) S ?_
                  refine wq_ev (wn rfl) (ev_move rfl) F rfl rfl ?_; clear F a; intro a F
                  refine wq_ev (wn rfl) (ev_move rfl) F rfl rfl ?_; clear F a; intro a F
                  obtain ⟨y13, hy13, hm⟩ := bind_some hm
                  obtain ⟨cs6, hr9, hp3⟩ := elemS (ha_1.mono (((l9.trans l12).trans l13).trans l14)) hy13
                  obtain rfl := rep_str hr9
                  refine wq_ev (wn rfl) (ev_idxS (ha_1.mono (((l9.trans l12).trans l13).trans l14)) hy13 tu31 ts9 rfl rfl) F rfl rfl ?_; clear F a; intro a F
                  refine wq_ev (wn rfl) (ev_load1 tu9 rfl rfl (ptr_mono (cks := [[(b2, .cells #[v14] 23 (0, 0))], c14, [(b1, .cells #[.int .i64 z1] 3 (0, 0))]]) (fr := fr) hp3 (Le.refl _))) F rfl rfl ?_; clear F a; intro a F
                  refine wq_ev (wn rfl) (ev_move rfl) F rfl rfl ?_; clear F a; intro a F
                  refine wq_ev (wn rfl) (ev_move rfl) F rfl rfl ?_; clear F a; intro a F
                  obtain ⟨y14, hy14, hm⟩ := bind_some hm
                  obtain ⟨cs7, hr10, hp4⟩ := elemS (hb_1.mono (((l9.trans l12).trans l13).trans l14)) hy14
                  obtain rfl := rep_str hr10
                  refine wq_ev (wn rfl) (ev_idxS (hb_1.mono (((l9.trans l12).trans l13).trans l14)) hy14 tu31 ts9 rfl rfl) F rfl rfl ?_; clear F a; intro a F
                  refine wq_ev (wn rfl) (ev_load1 tu9 rfl rfl (ptr_mono (cks := [[(b2, .cells #[v14] 23 (0, 0))], c14, [(b1, .cells #[.int .i64 z1] 3 (0, 0))]]) (fr := fr) hp4 (Le.refl _))) F rfl rfl ?_; clear F a; intro a F
                  refine wq_ev (wn rfl) (ev_str rfl rfl (bs_eql _ _ _)) F rfl rfl ?_; clear F a; intro a F
                  refine wq_nil ?_; clear S; intro w S
                  replace F := F.sub (e' := [(57, .bool (decide (y13 = y14))), (10, .int .i64 (max y9 y10)), (9, .int .i64 x17), (8, .int .i64 x12), (7, .func (.func 39) #[] #[.pointer (some ⟨b2, 0, Option.none⟩), .pointer (some ⟨b1, 0, Option.none⟩)]), (6, .pointer (some ⟨b2, 0, Option.none⟩)), (5, .pointer (some ⟨b1, 0, Option.none⟩)), (0, va_1), (1, vb_1)]) ⟨rfl, rfl, rfl, rfl, rfl, rfl, rfl, rfl, rfl, trivial⟩
                  refine then_n ?_
                  obtain ⟨hc11, hm⟩ | ⟨hc11, hm⟩ := ite_or hm
                  · refine wp_condT F rfl hc11 ?_
                    refine wp_region_lit ?_
                    refine wl_ev (wn rfl) (ev_move rfl) F S rfl rfl ?_; clear F a; intro a F
                    refine wl_ev (wn rfl) (ev_move rfl) F S rfl rfl ?_; clear F a; intro a F
                    obtain ⟨z18, hz18, hm⟩ := bind_some hm
                    refine wl_ev (wn rfl) (ev_int rfl rfl (bo_add hz18)) F S rfl rfl ?_; clear F a; intro a F
                    refine wl_ev (wn rfl) (ev_move rfl) F S rfl rfl ?_; clear F a; intro a F
                    obtain ⟨z19, hz19, hm⟩ := bind_some hm
                    refine wl_ev (wn rfl) (ev_int rfl rfl (bo_add hz19)) F S rfl rfl ?_; clear F a; intro a F
                    obtain ⟨y15, hy15, hm⟩ := bind_some hm
                    refine wl_call (wn rfl) rfl (xs := [.tmp 60, .tmp 62]) (vs := [.int .i64 z18, .int .i64 z19]) (cap := [.pointer (some ⟨b2, 0, Option.none⟩), .pointer (some ⟨b1, 0, Option.none⟩)]) F rfl rfl tc39 (diff_Align_s1_ok (g := g14) (fr := fr) (w := w) z18 z19 b2 x18 v14 c14 (h15.mono (l13.trans l14)) b1 z1 S hy15) rfl rfl ?_; clear F a S
                    rintro _ a w ⟨g16, l16, S, rfl⟩ F; replace S : St g16 [[(b2, .cells #[v14] 23 (0, 0))], c14, [(b1, .cells #[.int .i64 z1] 3 (0, 0))]] fr w := S
                    obtain ⟨z20, hz20, hm⟩ := bind_some hm
                    refine wl_ev (wn rfl) (ev_int rfl rfl (bo_add hz20)) F S rfl rfl ?_; clear F a; intro a F
                    refine wl_ev (wn rfl) (ev_assign rfl) F S rfl rfl ?_; clear F a; intro a F
                    refine wpList_nil ?_
                    replace F := F.sub (e' := [(10, .int .i64 z20), (9, .int .i64 x17), (8, .int .i64 x12), (7, .func (.func 39) #[] #[.pointer (some ⟨b2, 0, Option.none⟩), .pointer (some ⟨b1, 0, Option.none⟩)]), (6, .pointer (some ⟨b2, 0, Option.none⟩)), (5, .pointer (some ⟨b1, 0, Option.none⟩)), (0, va_1), (1, vb_1)]) ⟨rfl, rfl, rfl, rfl, rfl, rfl, rfl, rfl, trivial⟩
                    refine then_n ?_
                    replace S : St g16 [[(b2, .cells #[v14] 23 (0, 0))], [(b1, .cells #[.int .i64 z1] 3 (0, 0))], c14] fr w := St.tail [[(b2, .cells #[v14] 23 (0, 0))], [(b1, .cells #[.int .i64 z1] 3 (0, 0))], c14] _ (((S.frontC 1 rfl).frontC 3 rfl).frontC 2 rfl)
                    exact ⟨z20, g16, F.sub ⟨rfl, rfl, rfl, rfl, rfl, rfl, rfl, rfl, trivial⟩, l16, S, hm⟩
                  · refine wp_condF F rfl hc11 ?_
                    refine wp_skip ?_
                    refine then_n ?_
                    replace S : St g14 [[(b2, .cells #[v14] 23 (0, 0))], [(b1, .cells #[.int .i64 z1] 3 (0, 0))], c14] fr w := St.tail [[(b2, .cells #[v14] 23 (0, 0))], [(b1, .cells #[.int .i64 z1] 3 (0, 0))], c14] _ (((S.frontC 1 rfl).frontC 3 rfl).frontC 2 rfl)
                    exact ⟨(max y9 y10), g14, F.sub ⟨rfl, rfl, rfl, rfl, rfl, rfl, rfl, rfl, trivial⟩, (Le.refl _), S, hm⟩
                · clear F S hm; rintro a w ⟨x20, g15, F, l15, S, hm⟩
                  refine wp_region_lit ?_
                  refine wl_ev (wn rfl) (ev_load1 tu23 rfl rfl (box_ptr (cells := [v14]) 0 rfl 0 rfl (Nat.le_of_ble_eq_true rfl))) F S rfl rfl ?_; clear F a; intro a F
                  refine wl_ev (wn rfl) (ev_move rfl) F S rfl rfl ?_; clear F a; intro a F
                  refine wl_ev (wn rfl) (ev_load1 tu3 rfl rfl (box_ptr (cells := [.int .i64 z1]) 1 rfl 0 rfl (Nat.le_of_ble_eq_true rfl))) F S rfl rfl ?_; clear F a; intro a F
                  obtain ⟨z15, hz15, hm⟩ := bind_some hm
                  refine wl_ev (wn rfl) (ev_int rfl rfl (bo_mul hz15)) F S rfl rfl ?_; clear F a; intro a F
                  refine wl_ev (wn rfl) (ev_move rfl) F S rfl rfl ?_; clear F a; intro a F
                  obtain ⟨z16, hz16, hm⟩ := bind_some hm
                  refine wl_ev (wn rfl) (ev_int rfl rfl (bo_add hz16)) F S rfl rfl ?_; clear F a; intro a F
                  refine wl_ev (wn rfl) (ev_move rfl) F S rfl rfl ?_; clear F a; intro a F
                  obtain ⟨y11, hy11, hm⟩ := bind_some hm
                  refine wl_ev (wn rfl) (ev_idxO (h15.mono ((l13.trans l14).trans l15)) hy11 tu23 ts3 rfl rfl) F S rfl rfl ?_; clear F a; intro a F
                  obtain ⟨y12, hy12, hm⟩ := bind_some hm
                  refine wl_storeW (z' := x20) (wn rfl) rfl F S (h15.mono ((l13.trans l14).trans l15)) hy11 rfl rfl (us := [.int .i64 x20]) rfl ts3 (one_cons rfl one_nil) (k := 2) rfl rfl (show Rep.rep _ x20 _ from rfl) rfl ?_; clear S
                  rintro c15 w h16 S; replace S : St g15 [[(b2, .cells #[v14] 23 (0, 0))], [(b1, .cells #[.int .i64 z1] 3 (0, 0))], c15] fr w := S; replace h16 : OwnS g15 y12 v14 c15 := Option.some.inj hy12 ▸ h16
                  replace F := F.sub (e' := [(71, .int .i64 x20), (70, .int .i64 z16), (69, .int .i64 x17), (68, .int .i64 z15), (67, .int .i64 z1), (66, .int .i64 x12), (65, v14), (10, .int .i64 x20), (9, .int .i64 x17), (8, .int .i64 x12), (7, .func (.func 39) #[] #[.pointer (some ⟨b2, 0, Option.none⟩), .pointer (some ⟨b1, 0, Option.none⟩)]), (6, .pointer (some ⟨b2, 0, Option.none⟩)), (5, .pointer (some ⟨b1, 0, Option.none⟩)), (0, va_1), (1, vb_1)]) ⟨rfl, rfl, rfl, rfl, rfl, rfl, rfl, rfl, rfl, rfl, rfl, rfl, rfl, rfl, rfl, trivial⟩
                  refine wpList_nil ?_
                  replace F := F.sub (e' := [(9, .int .i64 x17), (8, .int .i64 x12), (7, .func (.func 39) #[] #[.pointer (some ⟨b2, 0, Option.none⟩), .pointer (some ⟨b1, 0, Option.none⟩)]), (6, .pointer (some ⟨b2, 0, Option.none⟩)), (5, .pointer (some ⟨b1, 0, Option.none⟩)), (0, va_1), (1, vb_1)]) ⟨rfl, rfl, rfl, rfl, rfl, rfl, rfl, trivial⟩
                  refine inb_n ?_
                  refine then_n ?_
                  refine wp_region_lit ?_
                  refine wl_ev (wn rfl) (ev_move rfl) F S rfl rfl ?_; clear F a; intro a F
                  obtain ⟨z17, hz17, hm⟩ := bind_some hm
                  refine wl_ev (wn rfl) (ev_int rfl rfl (bo_sub hz17)) F S rfl rfl ?_; clear F a; intro a F
                  refine wl_ev (wn rfl) (ev_assign rfl) F S rfl rfl ?_; clear F a; intro a F
                  refine wpList_nil ?_
                  replace F := F.sub (e' := [(9, .int .i64 z17), (8, .int .i64 x12), (7, .func (.func 39) #[] #[.pointer (some ⟨b2, 0, Option.none⟩), .pointer (some ⟨b1, 0, Option.none⟩)]), (6, .pointer (some ⟨b2, 0, Option.none⟩)), (5, .pointer (some ⟨b1, 0, Option.none⟩)), (0, va_1), (1, vb_1)]) ⟨rfl, rfl, rfl, rfl, rfl, rfl, rfl, trivial⟩
                  refine then_n ?_
                  obtain rfl := Option.some.inj hm
                  refine ⟨_, rfl, ?_⟩
                  dsimp only
                  exact ⟨v14, c15, g15, F.sub ⟨rfl, rfl, rfl, rfl, rfl, rfl, rfl, trivial⟩, (((l12.trans l13).trans l14).trans l15), S, h16⟩
              · refine wp_condF F rfl hc10 ?_
                refine wp_exit ?_
                refine then_e ?_
                refine then_e ?_
                refine inb_x ?_
                refine then_n ?_
                obtain rfl := Option.some.inj hm
                obtain rfl := hfin3 _ rfl
                clear hm
                have hm : (diff_Align.j4 x12 x18 : Option (Step (Int × (List Int)) (List Int))) = some _ := hmo3
                exact ⟨x18, v14, c14, g12, F.sub ⟨rfl, rfl, rfl, rfl, rfl, rfl, trivial⟩, l12, S, h15, hm⟩
          · clear F S hm; rintro a w ⟨x16, v13, c13, g11, F, l11, S, h14, hm⟩
            refine inb_n ?_
            refine then_n ?_
            exact ⟨x16, v13, c13, g11, F.sub ⟨rfl, rfl, rfl, rfl, rfl, rfl, trivial⟩, l11, S, h14, hm⟩
        · clear F S hm; rintro a w ⟨x15, v12, c12, g10, F, l10, S, h13, hm⟩
          refine wp_region_lit ?_
          refine wl_ev (wn rfl) (ev_move rfl) F S rfl rfl ?_; clear F a; intro a F
          obtain ⟨z11, hz11, hm⟩ := bind_some hm
          refine wl_ev (wn rfl) (ev_int rfl rfl (bo_sub hz11)) F S rfl rfl ?_; clear F a; intro a F
          refine wl_ev (wn rfl) (ev_assign rfl) F S rfl rfl ?_; clear F a; intro a F
          refine wpList_nil ?_
          replace F := F.sub (e' := [(8, .int .i64 z11), (7, .func (.func 39) #[] #[.pointer (some ⟨b2, 0, Option.none⟩), .pointer (some ⟨b1, 0, Option.none⟩)]), (6, .pointer (some ⟨b2, 0, Option.none⟩)), (5, .pointer (some ⟨b1, 0, Option.none⟩)), (0, va_1), (1, vb_1)]) ⟨rfl, rfl, rfl, rfl, rfl, rfl, trivial⟩
          refine then_n ?_
          obtain rfl := Option.some.inj hm
          refine ⟨_, rfl, ?_⟩
          dsimp only
          exact ⟨v12, c12, g10, F.sub ⟨rfl, rfl, rfl, rfl, rfl, rfl, trivial⟩, (l9.trans l10), S, h13⟩
      · refine wp_condF F rfl hc9 ?_
        refine wp_exit ?_
        refine then_e ?_
        refine then_e ?_
        refine inb_x ?_
        refine then_n ?_
        obtain rfl := Option.some.inj hm
        obtain rfl := hfin2 _ rfl
        clear hm
        have hm : (diff_Align.j1 a_ b_ z1 x13 : Option (List Int)) = some _ := hmo2
        exact ⟨x13, v11, c11, g9, F.sub ⟨rfl, rfl, rfl, trivial⟩, l9, S, h12, hm⟩
  · clear F S hm; rintro a w ⟨x1, v2, c2, g1, F, l1, S, h2, hm⟩
    refine wp_seq ?_
    refine wp_region_lit ?_
    refine wl_ev (wn rfl) (ev_assign rfl) F S rfl rfl ?_; clear F a; intro a F
    refine wpList_nil ?_
    refine then_n ?_
    refine wp_cut (fun a w => ∃ (x2 : List Int) (v3 : Value) (c3 : Hl) (g2 : Gh), Fr 147 a [(11, v3)] ∧ Le g1 g2 ∧ St g2 [c3] fr w ∧ OwnS g2 x2 v3 c3 ∧ diff_Align.j2 x2 = some r) ?_ ?_
    · refine wp_seq ?_
      refine wp_region_lit ?_
      refine wl_ev (wn rfl) (ev_assign rfl) F S rfl rfl ?_; clear F a; intro a F
      refine wl_ev (wn rfl) (ev_assign rfl) F S rfl rfl ?_; clear F a; intro a F
      refine wpList_nil ?_
      refine then_n ?_
      refine wp_block ?_
      obtain ⟨r1, hr1, hm⟩ := bind_some hm
      have hmo1 := hm; clear hm
      refine wp_iter (σ := Int × Int × (List Int)) (ρ := (List Int)) (m := fun s => diff_Align.l1 a_ b_ z1 x1 s.1 s.2.1 s.2.2) (I := fun s a w => match s with | (x3, x4, x5) => ∃ (v4 : Value) (c4 : Hl) (g4 : Gh), Fr 147 a [(13, .int .i64 x3), (12, .int .i64 x4), (11, v4), (7, .func (.func 39) #[] #[.pointer (some ⟨b2, 0, Option.none⟩), .pointer (some ⟨b1, 0, Option.none⟩)]), (0, va_1), (1, vb_1)] ∧ Le g1 g4 ∧ St g4 [c4, [(b2, .cells #[v2] 23 (0, 0))], [(b1, .cells #[.int .i64 z1] 3 (0, 0))], c2] fr w ∧ OwnS g4 x5 v4 c4) hr1 ?_ ?_
      · dsimp only
        replace S : St g1 [[], [(b2, .cells #[v2] 23 (0, 0))], [(b1, .cells #[.int .i64 z1] 3 (0, 0))], c2] fr w := S
        exact ⟨(.slice Option.none 0 0), [], g1, F.sub ⟨rfl, rfl, rfl, rfl, rfl, rfl, trivial⟩, (Le.refl _), S, (OwnS.nil _)⟩
      · clear F S; rintro ⟨x3, x4, x5⟩ a w x6 ⟨v4, c4, g4, F, l4, S, h5⟩ hx1 hfin1
        have hm : diff_Align.l1 a_ b_ z1 x1 x3 x4 x5 = some x6 := hx1; clear hx1
        unfold diff_Align.l1 at hm
        refine wp_seq ?_
        refine wp_seq ?_
        refine wp_region_lit ?_
        refine wl_ev (wn rfl) (ev_move rfl) F S rfl rfl ?_; clear F a; intro a F
        refine wl_ev (wn rfl) (ev_move rfl) F S rfl rfl ?_; clear F a; intro a F
        refine wl_ev (wn rfl) (ev_lenSh ha_1 rfl tu31) F S rfl rfl ?_; clear F a; intro a F
        refine wl_ev (wn rfl) (ev_int rfl rfl (bo_lss _ _ _ _)) F S rfl rfl ?_; clear F a; intro a F
        refine wl_ev (wn rfl) (ev_move rfl) F S rfl rfl ?_; clear F a; intro a F
        obtain ⟨x7, hx2, hm⟩ := bind_some hm
        refine wl_cut 5 (fun a w' => w = w' ∧ Fr 147 a [(82, .bool x7), (13, .int .i64 x3), (12, .int .i64 x4), (11, v4), (7, .func (.func 39) #[] #[.pointer (some ⟨b2, 0, Option.none⟩), .pointer (some ⟨b1, 0, Option.none⟩)]), (0, va_1), (1, vb_1)]) ?_ ?_
        · clear hm; obtain ⟨hc1, hm⟩ | ⟨hc1, hm⟩ := ite_or hx2
          · refine wl_skip rfl rfl rfl rfl (ne_ft hc1) F rfl rfl ?_; clear F a; intro a F
            refine wl_skip rfl rfl rfl rfl (ne_ft hc1) F rfl rfl ?_; clear F a; intro a F
            refine wl_skip rfl rfl rfl rfl (ne_ft hc1) F rfl rfl ?_; clear F a; intro a F
            refine wl_skip rfl rfl rfl rfl (ne_ft hc1) F rfl rfl ?_; clear F a; intro a F
            refine wl_ev (wn rfl) (ev_pickT rfl hc1 rfl) F S rfl rfl ?_; clear F a; intro a F
            obtain rfl := Option.some.inj hm
            refine wpList_nil (then_n ?_); exact ⟨rfl, F.sub ⟨rfl, rfl, rfl, rfl, rfl, rfl, rfl, trivial⟩⟩
          · refine wl_ev (wg F rfl rfl rfl rfl hc1) (ev_move rfl) F S rfl rfl ?_; clear F a; intro a F
            refine wl_ev (wg F rfl rfl rfl rfl hc1) (ev_move rfl) F S rfl rfl ?_; clear F a; intro a F
            refine wl_ev (wg F rfl rfl rfl rfl hc1) (ev_lenSh hb_1 rfl tu31) F S rfl rfl ?_; clear F a; intro a F
            refine wl_ev (wg F rfl rfl rfl rfl hc1) (ev_int rfl rfl (bo_lss _ _ _ _)) F S rfl rfl ?_; clear F a; intro a F
            refine wl_ev (wn rfl) (ev_pickF rfl hc1 rfl) F S rfl rfl ?_; clear F a; intro a F
            obtain rfl := Option.some.inj hm
            refine wpList_nil (then_n ?_); exact ⟨rfl, F.sub ⟨rfl, rfl, rfl, rfl, rfl, rfl, rfl, trivial⟩⟩
        clear F; rintro a w' ⟨rfl, F⟩
        refine wpList_nil ?_
        refine then_n ?_
        obtain ⟨hc2, hm⟩ | ⟨hc2, hm⟩ := ite_or hm
        · refine wp_condT F rfl hc2 ?_
          refine wp_skip ?_
          refine then_n ?_
          refine wp_block ?_
          refine wp_block ?_
          refine wp_seq ?_
          refine wp_quiet mo (by kernel_rfl) S ?_
          refine wq_ev (wn rfl) (ev_move rfl) F rfl rfl ?_; clear F a; intro a F
          refine wq_ev (wn rfl) (ev_move rfl) F rfl rfl ?_; clear F a; intro a F
          refine wq_ev (wn rfl) (ev_lenSh ha_1 rfl tu31) F rfl rfl ?_; clear F a; intro a F
          refine wq_ev (wn rfl) (ev_int rfl rfl (bo_lss _ _ _ _)) F rfl rfl ?_; clear F a; intro a F
          refine wq_ev (wn rfl) (ev_move rfl) F rfl rfl ?_; clear F a; intro a F
          obtain ⟨x8, hx3, hm⟩ := bind_some hm
          refine wq_cut 5 (fun a => Fr 147 a [(98, .bool x8), (13, .int .i64 x3), (12, .int .i64 x4), (11, v4), (7, .func (.func 39) #[] #[.pointer (some ⟨b2, 0, Option.none⟩), .pointer (some ⟨b1, 0, Option.none⟩)]), (0, va_1), (1, vb_1)]) ?_ ?_
          · clear hm; obtain ⟨hc3, hm⟩ | ⟨hc3, hm⟩ := ite_or hx3
            · refine wq_ev (wg F rfl rfl rfl rfl hc3) (ev_move rfl) F rfl rfl ?_; clear F a; intro a F
              refine wq_ev (wg F rfl rfl rfl rfl hc3) (ev_move rfl) F rfl rfl ?_; clear F a; intro a F
              refine wq_ev (wg F rfl rfl rfl rfl hc3) (ev_lenSh hb_1 rfl tu31) F rfl rfl ?_; clear F a; intro a F
              refine wq_ev (wg F rfl rfl rfl rfl hc3) (ev_int rfl rfl (bo_lss _ _ _ _)) F rfl rfl ?_; clear F a; intro a F
              refine wq_ev (wn rfl) (ev_pickT rfl hc3 rfl) F rfl rfl ?_; clear F a; intro a F
              obtain rfl := Option.some.inj hm
              refine wq_nil ?_; exact F.sub ⟨rfl, rfl, rfl, rfl, rfl, rfl, rfl, trivial⟩
            · refine wq_skip rfl rfl rfl rfl (ne_tf hc3) F rfl rfl ?_; clear F a; intro a F
              refine wq_skip rfl rfl rfl rfl (ne_tf hc3) F rfl rfl ?_; clear F a; intro a F
              refine wq_skip rfl rfl rfl rfl (ne_tf hc3) F rfl rfl ?_; clear F a; intro a F
              refine wq_skip rfl rfl rfl rfl (ne_tf hc3) F rfl rfl ?_; clear F a; intro a F
              refine wq_ev (wn rfl) (ev_pickF rfl hc3 rfl) F rfl rfl ?_; clear F a; intro a F
              obtain rfl := Option.some.inj hm
              refine wq_nil ?_; exact F.sub ⟨rfl, rfl, rfl, rfl, rfl, rfl, rfl, trivial⟩
          clear F; intro a F
          refine wq_ev (wn rfl) (ev_move rfl) F rfl rfl ?_; clear F a; intro a F
          obtain ⟨x9, hx4, hm⟩ := bind_some hm
          refine wq_cut 10 (fun a => Fr 147 a [(109, .bool x9), (13, .int .i64 x3), (12, .int .i64 x4), (11, v4), (7, .func (.func 39) #[] #[.pointer (some ⟨b2, 0, Option.none⟩), .pointer (some ⟨b1, 0, Option.none⟩)]), (0, va_1), (1, vb_1)]) ?_ ?_
          · clear hm; obtain ⟨hc4, hm⟩ | ⟨hc4, hm⟩ := ite_or hx4
            · refine wq_ev (wg F rfl rfl rfl rfl hc4) (ev_move rfl) F rfl rfl ?_; clear F a; intro a F
              refine wq_ev (wg F rfl rfl rfl rfl hc4) (ev_move rfl) F rfl rfl ?_; clear F a; intro a F
              obtain ⟨y2, hy2, hm⟩ := bind_some hm
              obtain ⟨cs1, hr2, hp1⟩ := elemS (ha_1.mono (l1.trans l4)) hy2
              obtain rfl := rep_str hr2
              refine wq_ev (wg F rfl rfl rfl rfl hc4) (ev_idxS (ha_1.mono (l1.trans l4)) hy2 tu31 ts9 rfl rfl) F rfl rfl ?_; clear F a; intro a F
              refine wq_ev (wg F rfl rfl rfl rfl hc4) (ev_load1 tu9 rfl rfl (ptr_mono (cks := [c4, [(b2, .cells #[v2] 23 (0, 0))], [(b1, .cells #[.int .i64 z1] 3 (0, 0))], c2]) (fr := fr) hp1 (Le.refl _))) F rfl rfl ?_; clear F a; intro a F
              refine wq_ev (wg F rfl rfl rfl rfl hc4) (ev_move rfl) F rfl rfl ?_; clear F a; intro a F
              refine wq_ev (wg F rfl rfl rfl rfl hc4) (ev_move rfl) F rfl rfl ?_; clear F a; intro a F
              obtain ⟨y3, hy3, hm⟩ := bind_some hm
              obtain ⟨cs2, hr3, hp2⟩ := elemS (hb_1.mono (l1.trans l4)) hy3
              obtain rfl := rep_str hr3
              refine wq_ev (wg F rfl rfl rfl rfl hc4) (ev_idxS (hb_1.mono (l1.trans l4)) hy3 tu31 ts9 rfl rfl) F rfl rfl ?_; clear F a; intro a F
              refine wq_ev (wg F rfl rfl rfl rfl hc4) (ev_load1 tu9 rfl rfl (ptr_mono (cks := [c4, [(b2, .cells #[v2] 23 (0, 0))], [(b1, .cells #[.int .i64 z1] 3 (0, 0))], c2]) (fr := fr) hp2 (Le.refl _))) F rfl rfl ?_; clear F a; intro a F
              refine wq_ev (wg F rfl rfl rfl rfl hc4) (ev_str rfl rfl (bs_eql _ _ _)) F rfl rfl ?_; clear F a; intro a F
              refine wq_ev (wn rfl) (ev_pickT rfl hc4 rfl) F rfl rfl ?_; clear F a; intro a F
              obtain rfl := Option.some.inj hm
              refine wq_nil ?_; exact F.sub ⟨rfl, rfl, rfl, rfl, rfl, rfl, rfl, trivial⟩
            · refine wq_skip rfl rfl rfl rfl (ne_tf hc4) F rfl rfl ?_; clear F a; intro a F
              refine wq_skip rfl rfl rfl rfl (ne_tf hc4) F rfl rfl ?_; clear F a; intro a F
              refine wq_skip rfl rfl rfl rfl (ne_tf hc4) F rfl rfl ?_; clear F a; intro a F
              refine wq_skip rfl rfl rfl rfl (ne_tf hc4) F rfl rfl ?_; clear F a; intro a F
              refine wq_skip rfl rfl rfl rfl (ne_tf hc4) F rfl rfl ?_; clear F a; intro a F
              refine wq_skip rfl rfl rfl rfl (ne_tf hc4) F rfl rfl ?_; clear F a; intro a F
              refine wq_skip rfl rfl rfl rfl (ne_tf hc4) F rfl rfl ?_; clear F a; intro a F
              refine wq_skip rfl rfl rfl rfl (ne_tf hc4) F rfl rfl ?_; clear F a; intro a F
              refine wq_skip rfl rfl rfl rfl (ne_tf hc4) F rfl rfl ?_; clear F a; intro a F
              refine wq_ev (wn rfl) (ev_pickF rfl hc4 rfl) F rfl rfl ?_; clear F a; intro a F
              obtain rfl := Option.some.inj hm
              refine wq_nil ?_; exact F.sub ⟨rfl, rfl, rfl, rfl, rfl, rfl, rfl, trivial⟩
          clear F; intro a F
          refine wq_ev (wn rfl) (ev_assign rfl) F rfl rfl ?_; clear F a; intro a F
          refine wq_nil ?_; clear S; intro w S
          replace F := F.sub (e' := [(88, .bool x9), (13, .int .i64 x3), (12, .int .i64 x4), (11, v4), (7, .func (.func 39) #[] #[.pointer (some ⟨b2, 0, Option.none⟩), .pointer (some ⟨b1, 0, Option.none⟩)]), (0, va_1), (1, vb_1)]) ⟨rfl, rfl, rfl, rfl, rfl, rfl, rfl, trivial⟩
          refine then_n ?_
          obtain ⟨hc5, hm⟩ | ⟨hc5, hm⟩ := ite_or hm
          · refine wp_condT F rfl hc5 ?_
            refine wp_seq ?_
            refine wp_region_lit ?_
            refine wl_ev (wn rfl) (ev_move rfl) F S rfl rfl ?_; clear F a; intro a F
            refine wl_lit (l := ([0] : List Int)) (vs := [.int .i64 0]) (parts := [(0, .const (.int .i64 0))]) (wn rfl) rfl rfl rfl tu23 te3 (sz_cons rfl sz_nil) rfl (Cat.cons (show Rep.rep _ 0 _ from rfl) (Cat.nil _)) (coa_cons rfl coa_nil) rfl F S rfl rfl ?_; clear F a S
            rintro v5 c5 a w h6 F S
            obtain ⟨cs3, hk1, hr4⟩ := OwnS.reads h6
            obtain ⟨y4, hy4, hm⟩ := bind_some hm
            refine wl_append (wn rfl) rfl tu23 tu23 te3 (by decide) (by decide) F S rfl rfl (k := 1) rfl h5 hk1 rfl (hr4 _ _ _ 0 rfl S) hy4 rfl rfl ?_; clear F a S
            rintro v6 c6 a w h7 S F; replace S : St g4 [c5, c6, [(b2, .cells #[v2] 23 (0, 0))], [(b1, .cells #[.int .i64 z1] 3 (0, 0))], c2] fr w := S
            refine wl_ev (wn rfl) (ev_assign rfl) F S rfl rfl ?_; clear F a; intro a F
            refine wpList_nil ?_
            replace F := F.sub (e' := [(11, v6), (13, .int .i64 x3), (12, .int .i64 x4), (7, .func (.func 39) #[] #[.pointer (some ⟨b2, 0, Option.none⟩), .pointer (some ⟨b1, 0, Option.none⟩)]), (0, va_1), (1, vb_1)]) ⟨rfl, rfl, rfl, rfl, rfl, rfl, trivial⟩
            refine then_n ?_
            refine wp_region_lit ?_
            refine wl_ev (wn rfl) (ev_move rfl) F S rfl rfl ?_; clear F a; intro a F
            obtain ⟨z4, hz4, hm⟩ := bind_some hm
            refine wl_ev (wn rfl) (ev_int rfl rfl (bo_add hz4)) F S rfl rfl ?_; clear F a; intro a F
            refine wl_ev (wn rfl) (ev_move rfl) F S rfl rfl ?_; clear F a; intro a F
            obtain ⟨z5, hz5, hm⟩ := bind_some hm
            refine wl_ev (wn rfl) (ev_int rfl rfl (bo_add hz5)) F S rfl rfl ?_; clear F a; intro a F
            refine wl_ev (wn rfl) (ev_assign rfl) F S rfl rfl ?_; clear F a; intro a F
            refine wl_ev (wn rfl) (ev_assign rfl) F S rfl rfl ?_; clear F a; intro a F
            refine wpList_nil ?_
            replace F := F.sub (e' := [(13, .int .i64 z5), (12, .int .i64 z4), (11, v6), (7, .func (.func 39) #[] #[.pointer (some ⟨b2, 0, Option.none⟩), .pointer (some ⟨b1, 0, Option.none⟩)]), (0, va_1), (1, vb_1)]) ⟨rfl, rfl, rfl, rfl, rfl, rfl, trivial⟩
            refine inb_n ?_
            refine inb_n ?_
            refine then_n ?_
            obtain rfl := Option.some.inj hm
            refine ⟨_, rfl, ?_⟩
            dsimp only
            replace S : St g4 [c6, [(b2, .cells #[v2] 23 (0, 0))], [(b1, .cells #[.int .i64 z1] 3 (0, 0))], c2] fr w := St.tail [c6, [(b2, .cells #[v2] 23 (0, 0))], [(b1, .cells #[.int .i64 z1] 3 (0, 0))], c2] _ ((((S.frontC 4 rfl).frontC 4 rfl).frontC 4 rfl).frontC 4 rfl)
            exact ⟨v6, c6, g4, F.sub ⟨rfl, rfl, rfl, rfl, rfl, rfl, trivial⟩, l4, S, h7⟩
          · refine wp_condF F rfl hc5 ?_
            refine wp_seq ?_
            refine wp_region_lit ?_
            refine wl_ev (wn rfl) (ev_move rfl) F S rfl rfl ?_; clear F a; intro a F
            refine wl_ev (wn rfl) (ev_move rfl) F S rfl rfl ?_; clear F a; intro a F
            refine wl_ev (wn rfl) (ev_lenSh hb_1 rfl tu31) F S rfl rfl ?_; clear F a; intro a F
            refine wl_ev (wn rfl) (ev_int rfl rfl (bo_eql _ _ _ _)) F S rfl rfl ?_; clear F a; intro a F
            refine wl_ev (wn rfl) (ev_move rfl) F S rfl rfl ?_; clear F a; intro a F
            obtain ⟨x10, hx5, hm⟩ := bind_some hm
            refine wl_cut 18 (fun a w => ∃ g5, Fr 147 a [(140, .bool x10), (13, .int .i64 x3), (12, .int .i64 x4), (11, v4), (7, .func (.func 39) #[] #[.pointer (some ⟨b2, 0, Option.none⟩), .pointer (some ⟨b1, 0, Option.none⟩)]), (0, va_1), (1, vb_1)] ∧ Le g4 g5 ∧ St g5 [c4, [(b2, .cells #[v2] 23 (0, 0))], [(b1, .cells #[.int .i64 z1] 3 (0, 0))], c2] fr w) ?_ ?_
            · clear hm; obtain ⟨hc6, hm⟩ | ⟨hc6, hm⟩ := ite_or hx5
              · refine wl_skip rfl rfl rfl rfl (ne_ft hc6) F rfl rfl ?_; clear F a; intro a F
                refine wl_skip rfl rfl rfl rfl (ne_ft hc6) F rfl rfl ?_; clear F a; intro a F
                refine wl_skip rfl rfl rfl rfl (ne_ft hc6) F rfl rfl ?_; clear F a; intro a F
                refine wl_skip rfl rfl rfl rfl (ne_ft hc6) F rfl rfl ?_; clear F a; intro a F
                refine wl_skip rfl rfl rfl rfl (ne_ft hc6) F rfl rfl ?_; clear F a; intro a F
                refine wl_skipu rfl rfl rfl rfl F rfl rfl ?_; clear F a; intro a F
                refine wl_skipu rfl rfl rfl rfl F rfl rfl ?_; clear F a; intro a F
                refine wl_skipu rfl rfl rfl rfl F rfl rfl ?_; clear F a; intro a F
                refine wl_skipu rfl rfl rfl rfl F rfl rfl ?_; clear F a; intro a F
                refine wl_skipu rfl rfl rfl rfl F rfl rfl ?_; clear F a; intro a F
                refine wl_skipu rfl rfl rfl rfl F rfl rfl ?_; clear F a; intro a F
                refine wl_skipu rfl rfl rfl rfl F rfl rfl ?_; clear F a; intro a F
                refine wl_skipu rfl rfl rfl rfl F rfl rfl ?_; clear F a; intro a F
                refine wl_skipu rfl rfl rfl rfl F rfl rfl ?_; clear F a; intro a F
                refine wl_skipu rfl rfl rfl rfl F rfl rfl ?_; clear F a; intro a F
                refine wl_skipu rfl rfl rfl rfl F rfl rfl ?_; clear F a; intro a F
                refine wl_skip rfl rfl rfl rfl (ne_ft hc6) F rfl rfl ?_; clear F a; intro a F
                refine wl_ev (wn rfl) (ev_pickT rfl hc6 rfl) F S rfl rfl ?_; clear F a; intro a F
                obtain rfl := Option.some.inj hm
                refine wpList_nil (then_n ?_); exact ⟨g4, F.sub ⟨rfl, rfl, rfl, rfl, rfl, rfl, rfl, trivial⟩, (Le.refl _), S⟩
              · refine wl_ev (wg F rfl rfl rfl rfl hc6) (ev_move rfl) F S rfl rfl ?_; clear F a; intro a F
                refine wl_ev (wg F rfl rfl rfl rfl hc6) (ev_move rfl) F S rfl rfl ?_; clear F a; intro a F
                refine wl_ev (wg F rfl rfl rfl rfl hc6) (ev_lenSh ha_1 rfl tu31) F S rfl rfl ?_; clear F a; intro a F
                refine wl_ev (wg F rfl rfl rfl rfl hc6) (ev_int rfl rfl (bo_lss _ _ _ _)) F S rfl rfl ?_; clear F a; intro a F
                refine wl_ev (wg F rfl rfl rfl rfl hc6) (ev_move rfl) F S rfl rfl ?_; clear F a; intro a F
                obtain ⟨x11, hx6, hm⟩ := bind_some hm
                refine wl_cut 12 (fun a w => ∃ g6, Fr 147 a [(139, .bool x11), (127, .bool (decide (x4 < (a_.length : Int)))), (126, .bool (decide (x4 < (a_.length : Int)))), (125, .int .i64 (a_.length : Int)), (124, va_1), (123, .int .i64 x4), (122, .bool (decide (x3 = (b_.length : Int)))), (13, .int .i64 x3), (12, .int .i64 x4), (11, v4), (7, .func (.func 39) #[] #[.pointer (some ⟨b2, 0, Option.none⟩), .pointer (some ⟨b1, 0, Option.none⟩)]), (0, va_1), (1, vb_1)] ∧ Le g4 g6 ∧ St g6 [c4, [(b2, .cells #[v2] 23 (0, 0))], [(b1, .cells #[.int .i64 z1] 3 (0, 0))], c2] fr w) ?_ ?_
                · clear hm; obtain ⟨hc7, hm⟩ | ⟨hc7, hm⟩ := ite_or hx6
                  · refine wl_ev (wg F rfl rfl rfl rfl hc7) (ev_move rfl) F S rfl rfl ?_; clear F a; intro a F
                    refine wl_ev (wg F rfl rfl rfl rfl hc7) (ev_move rfl) F S rfl rfl ?_; clear F a; intro a F
                    obtain ⟨z6, hz6, hm⟩ := bind_some hm
                    refine wl_ev (wg F rfl rfl rfl rfl hc7) (ev_int rfl rfl (bo_add hz6)) F S rfl rfl ?_; clear F a; intro a F
                    refine wl_ev (wg F rfl rfl rfl rfl hc7) (ev_move rfl) F S rfl rfl ?_; clear F a; intro a F
                    replace S : St g4 [[(b2, .cells #[v2] 23 (0, 0))], c2, [(b1, .cells #[.int .i64 z1] 3 (0, 0))], c4] fr w := ((((S.frontC 0 rfl).frontC 3 rfl).frontC 5 rfl).frontC 4 rfl)
                    obtain ⟨y5, hy5, hm⟩ := bind_some hm
                    refine wl_call (wg F rfl rfl rfl rfl hc7) rfl (xs := [.tmp 130, .tmp 131]) (vs := [.int .i64 z6, .int .i64 x3]) (cap := [.pointer (some ⟨b2, 0, Option.none⟩), .pointer (some ⟨b1, 0, Option.none⟩)]) F rfl rfl tc39 (diff_Align_s1_ok (g := g4) (fr := (fl [c4] fr)) (w := w) z6 x3 b2 x1 v2 c2 (h2.mono l4) b1 z1 S hy5) rfl rfl ?_; clear F a S
                    rintro _ a w ⟨g7, l7, S, rfl⟩ F; replace S : St g7 [[(b2, .cells #[v2] 23 (0, 0))], c2, [(b1, .cells #[.int .i64 z1] 3 (0, 0))], c4] fr w := S
                    refine wl_ev (wg F rfl rfl rfl rfl hc7) (ev_move rfl) F S rfl rfl ?_; clear F a; intro a F
                    refine wl_ev (wg F rfl rfl rfl rfl hc7) (ev_move rfl) F S rfl rfl ?_; clear F a; intro a F
                    refine wl_ev (wg F rfl rfl rfl rfl hc7) (ev_move rfl) F S rfl rfl ?_; clear F a; intro a F
                    obtain ⟨z7, hz7, hm⟩ := bind_some hm
                    refine wl_ev (wg F rfl rfl rfl rfl hc7) (ev_int rfl rfl (bo_add hz7)) F S rfl rfl ?_; clear F a; intro a F
                    obtain ⟨y6, hy6, hm⟩ := bind_some hm
                    refine wl_call (wg F rfl rfl rfl rfl hc7) rfl (xs := [.tmp 134, .tmp 136]) (vs := [.int .i64 x4, .int .i64 z7]) (cap := [.pointer (some ⟨b2, 0, Option.none⟩), .pointer (some ⟨b1, 0, Option.none⟩)]) F rfl rfl tc39 (diff_Align_s1_ok (g := g7) (fr := (fl [c4] fr)) (w := w) x4 z7 b2 x1 v2 c2 (h2.mono (l4.trans l7)) b1 z1 S hy6) rfl rfl ?_; clear F a S
                    rintro _ a w ⟨g8, l8, S, rfl⟩ F; replace S : St g8 [[(b2, .cells #[v2] 23 (0, 0))], c2, [(b1, .cells #[.int .i64 z1] 3 (0, 0))], c4] fr w := S
                    refine wl_ev (wg F rfl rfl rfl rfl hc7) (ev_int rfl rfl (bo_geq _ _ _ _)) F S rfl rfl ?_; clear F a; intro a F
                    refine wl_ev (wg F rfl rfl rfl rfl hc6) (ev_pickT rfl hc7 rfl) F S rfl rfl ?_; clear F a; intro a F
                    obtain rfl := Option.some.inj hm
                    replace S : St g8 [c4, [(b2, .cells #[v2] 23 (0, 0))], [(b1, .cells #[.int .i64 z1] 3 (0, 0))], c2] fr w := St.tail [c4, [(b2, .cells #[v2] 23 (0, 0))], [(b1, .cells #[.int .i64 z1] 3 (0, 0))], c2] _ ((((S.frontC 1 rfl).frontC 3 rfl).frontC 2 rfl).frontC 6 rfl)
                    refine wpList_nil (then_n ?_); exact ⟨g8, F.sub ⟨rfl, rfl, rfl, rfl, rfl, rfl, rfl, rfl, rfl, rfl, rfl, rfl, rfl, trivial⟩, (l7.trans l8), S⟩
                  · refine wl_skip rfl rfl rfl rfl (ne_tf hc7) F rfl rfl ?_; clear F a; intro a F
                    refine wl_skip rfl rfl rfl rfl (ne_tf hc7) F rfl rfl ?_; clear F a; intro a F
                    refine wl_skip rfl rfl rfl rfl (ne_tf hc7) F rfl rfl ?_; clear F a; intro a F
                    refine wl_skip rfl rfl rfl rfl (ne_tf hc7) F rfl rfl ?_; clear F a; intro a F
                    refine wl_skip rfl rfl rfl rfl (ne_tf hc7) F rfl rfl ?_; clear F a; intro a F
                    refine wl_skip rfl rfl rfl rfl (ne_tf hc7) F rfl rfl ?_; clear F a; intro a F
                    refine wl_skip rfl rfl rfl rfl (ne_tf hc7) F rfl rfl ?_; clear F a; intro a F
                    refine wl_skip rfl rfl rfl rfl (ne_tf hc7) F rfl rfl ?_; clear F a; intro a F
                    refine wl_skip rfl rfl rfl rfl (ne_tf hc7) F rfl rfl ?_; clear F a; intro a F
                    refine wl_skip rfl rfl rfl rfl (ne_tf hc7) F rfl rfl ?_; clear F a; intro a F
                    refine wl_skip rfl rfl rfl rfl (ne_tf hc7) F rfl rfl ?_; clear F a; intro a F
                    refine wl_ev (wg F rfl rfl rfl rfl hc6) (ev_pickF rfl hc7 rfl) F S rfl rfl ?_; clear F a; intro a F
                    obtain rfl := Option.some.inj hm
                    refine wpList_nil (then_n ?_); exact ⟨g4, F.sub ⟨rfl, rfl, rfl, rfl, rfl, rfl, rfl, rfl, rfl, rfl, rfl, rfl, rfl, trivial⟩, (Le.refl _), S⟩
                clear F S; rintro a w ⟨g6, F, l6, S⟩
                refine wl_ev (wn rfl) (ev_pickF rfl hc6 rfl) F S rfl rfl ?_; clear F a; intro a F
                obtain rfl := Option.some.inj hm
                refine wpList_nil (then_n ?_); exact ⟨g6, F.sub ⟨rfl, rfl, rfl, rfl, rfl, rfl, rfl, trivial⟩, l6, S⟩
            clear F S; rintro a w ⟨g5, F, l5, S⟩
            refine wl_ev (wn rfl) (ev_assign rfl) F S rfl rfl ?_; clear F a; intro a F
            refine wpList_nil ?_
            replace F := F.sub (e' := [(117, .bool x10), (13, .int .i64 x3), (12, .int .i64 x4), (11, v4), (7, .func (.func 39) #[] #[.pointer (some ⟨b2, 0, Option.none⟩), .pointer (some ⟨b1, 0, Option.none⟩)]), (0, va_1), (1, vb_1)]) ⟨rfl, rfl, rfl, rfl, rfl, rfl, rfl, trivial⟩
            refine then_n ?_
            obtain ⟨hc8, hm⟩ | ⟨hc8, hm⟩ := ite_or hm
            · refine wp_condT F rfl hc8 ?_
              refine wp_seq ?_
              refine wp_region_lit ?_
              refine wl_ev (wn rfl) (ev_move rfl) F S rfl rfl ?_; clear F a; intro a F
              refine wl_lit (l := ([1] : List Int)) (vs := [.int .i64 1]) (parts := [(0, .const (.int .i64 1))]) (wn rfl) rfl rfl rfl tu23 te3 (sz_cons rfl sz_nil) rfl (Cat.cons (show Rep.rep _ 1 _ from rfl) (Cat.nil _)) (coa_cons rfl coa_nil) rfl F S rfl rfl ?_; clear F a S
              rintro v7 c7 a w h8 F S
              obtain ⟨cs4, hk2, hr5⟩ := OwnS.reads h8
              obtain ⟨y7, hy7, hm⟩ := bind_some hm
              refine wl_append (wn rfl) rfl tu23 tu23 te3 (by decide) (by decide) F S rfl rfl (k := 1) rfl (h5.mono l5) hk2 rfl (hr5 _ _ _ 0 rfl S) hy7 rfl rfl ?_; clear F a S
              rintro v8 c8 a w h9 S F; replace S : St g5 [c7, c8, [(b2, .cells #[v2] 23 (0, 0))], [(b1, .cells #[.int .i64 z1] 3 (0, 0))], c2] fr w := S
              refine wl_ev (wn rfl) (ev_assign rfl) F S rfl rfl ?_; clear F a; intro a F
              refine wpList_nil ?_
              replace F := F.sub (e' := [(11, v8), (13, .int .i64 x3), (12, .int .i64 x4), (7, .func (.func 39) #[] #[.pointer (some ⟨b2, 0, Option.none⟩), .pointer (some ⟨b1, 0, Option.none⟩)]), (0, va_1), (1, vb_1)]) ⟨rfl, rfl, rfl, rfl, rfl, rfl, trivial⟩
              refine then_n ?_
              refine wp_region_lit ?_
              refine wl_ev (wn rfl) (ev_move rfl) F S rfl rfl ?_; clear F a; intro a F
              obtain ⟨z8, hz8, hm⟩ := bind_some hm
              refine wl_ev (wn rfl) (ev_int rfl rfl (bo_add hz8)) F S rfl rfl ?_; clear F a; intro a F
              refine wl_ev (wn rfl) (ev_assign rfl) F S rfl rfl ?_; clear F a; intro a F
              refine wpList_nil ?_
              replace F := F.sub (e' := [(12, .int .i64 z8), (11, v8), (13, .int .i64 x3), (7, .func (.func 39) #[] #[.pointer (some ⟨b2, 0, Option.none⟩), .pointer (some ⟨b1, 0, Option.none⟩)]), (0, va_1), (1, vb_1)]) ⟨rfl, rfl, rfl, rfl, rfl, rfl, trivial⟩
              refine inb_n ?_
              refine inb_n ?_
              refine then_n ?_
              obtain rfl := Option.some.inj hm
              refine ⟨_, rfl, ?_⟩
              dsimp only
              replace S : St g5 [c8, [(b2, .cells #[v2] 23 (0, 0))], [(b1, .cells #[.int .i64 z1] 3 (0, 0))], c2] fr w := St.tail [c8, [(b2, .cells #[v2] 23 (0, 0))], [(b1, .cells #[.int .i64 z1] 3 (0, 0))], c2] _ ((((S.frontC 4 rfl).frontC 4 rfl).frontC 4 rfl).frontC 4 rfl)
              exact ⟨v8, c8, g5, F.sub ⟨rfl, rfl, rfl, rfl, rfl, rfl, trivial⟩, (l4.trans l5), S, h9⟩
            · refine wp_condF F rfl hc8 ?_
              refine wp_seq ?_
              refine wp_region_lit ?_
              refine wl_ev (wn rfl) (ev_move rfl) F S rfl rfl ?_; clear F a; intro a F
              refine wl_lit (l := ([2] : List Int)) (vs := [.int .i64 2]) (parts := [(0, .const (.int .i64 2))]) (wn rfl) rfl rfl rfl tu23 te3 (sz_cons rfl sz_nil) rfl (Cat.cons (show Rep.rep _ 2 _ from rfl) (Cat.nil _)) (coa_cons rfl coa_nil) rfl F S rfl rfl ?_; clear F a S
              rintro v9 c9 a w h10 F S
              obtain ⟨cs5, hk3, hr6⟩ := OwnS.reads h10
              obtain ⟨y8, hy8, hm⟩ := bind_some hm
              refine wl_append (wn rfl) rfl tu23 tu23 te3 (by decide) (by decide) F S rfl rfl (k := 1) rfl (h5.mono l5) hk3 rfl (hr6 _ _ _ 0 rfl S) hy8 rfl rfl ?_; clear F a S
              rintro v10 c10 a w h11 S F; replace S : St g5 [c9, c10, [(b2, .cells #[v2] 23 (0, 0))], [(b1, .cells #[.int .i64 z1] 3 (0, 0))], c2] fr w := S
              refine wl_ev (wn rfl) (ev_assign rfl) F S rfl rfl ?_; clear F a; intro a F
              refine wpList_nil ?_
              replace F := F.sub (e' := [(11, v10), (13, .int .i64 x3), (12, .int .i64 x4), (7, .func (.func 39) #[] #[.pointer (some ⟨b2, 0, Option.none⟩), .pointer (some ⟨b1, 0, Option.none⟩)]), (0, va_1), (1, vb_1)]) ⟨rfl, rfl, rfl, rfl, rfl, rfl, trivial⟩
              refine then_n ?_
              refine wp_region_lit ?_
              refine wl_ev (wn rfl) (ev_move rfl) F S rfl rfl ?_; clear F a; intro a F
              obtain ⟨z9, hz9, hm⟩ := bind_some hm
              refine wl_ev (wn rfl) (ev_int rfl rfl (bo_add hz9)) F S rfl rfl ?_; clear F a; intro a F
              refine wl_ev (wn rfl) (ev_assign rfl) F S rfl rfl ?_; clear F a; intro a F
              refine wpList_nil ?_
              replace F := F.sub (e' := [(13, .int .i64 z9), (11, v10), (12, .int .i64 x4), (7, .func (.func 39) #[] #[.pointer (some ⟨b2, 0, Option.none⟩), .pointer (some ⟨b1, 0, Option.none⟩)]), (0, va_1), (1, vb_1)]) ⟨rfl, rfl, rfl, rfl, rfl, rfl, trivial⟩
              refine inb_n ?_
              refine inb_n ?_
              refine then_n ?_
              obtain rfl := Option.some.inj hm
              refine ⟨_, rfl, ?_⟩
              dsimp only
              replace S : St g5 [c10, [(b2, .cells #[v2] 23 (0, 0))], [(b1, .cells #[.int .i64 z1] 3 (0, 0))], c2] fr w := St.tail [c10, [(b2, .cells #[v2] 23 (0, 0))], [(b1, .cells #[.int .i64 z1] 3 (0, 0))], c2] _ ((((S.frontC 4 rfl).frontC 4 rfl).frontC 4 rfl).frontC 4 rfl)
              exact ⟨v10, c10, g5, F.sub ⟨rfl, rfl, rfl, rfl, rfl, rfl, trivial⟩, (l4.trans l5), S, h11⟩
        · refine wp_condF F rfl hc2 ?_
          refine wp_exit ?_
          refine then_e ?_
          refine then_e ?_
          refine inb_x ?_
          refine then_n ?_
          obtain rfl := Option.some.inj hm
          obtain rfl := hfin1 _ rfl
          clear hm
          have hm : (diff_Align.j2 x5 : Option (List Int)) = some _ := hmo1
          replace S : St g4 [c4] fr w := St.tail [c4] _ (S.frontC 0 rfl)
          exact ⟨x5, v4, c4, g4, F.sub ⟨rfl, trivial⟩, l4, S, h5, hm⟩
    · clear F S hm; rintro a w ⟨x2, v3, c3, g2, F, l2, S, h3, hm⟩
      refine wp_seq ?_
      refine wp_region_lit ?_
      refine wl_ev (wn rfl) (ev_move rfl) F S rfl rfl ?_; clear F a; intro a F
      refine wl_ev (wn rfl) (ev_assign rfl) F S rfl rfl ?_; clear F a; intro a F
      refine wpList_nil ?_
      replace F := F.sub (e' := [(4, v3)]) ⟨rfl, trivial⟩
      refine then_n ?_
      refine wp_ret ?_
      obtain rfl := Option.some.inj hm
      obtain ⟨g3, l3, S, h4⟩ : ∃ gz, Le g2 gz ∧ St gz [] fr w ∧ RepSl gz x2 v3 := ⟨_, Le.add _ _, S.freeze 0 rfl, OwnS.freeze (S.front 0 rfl) h3⟩
      refine post_r (fn := Try.f24) (rs := [.tmp 4]) [v3] F rfl (ar_cons (resT rfl) ar_nil) ?_
      exact ⟨_, rfl, g3, v3, ((l1.trans l2).trans l3), S, h4, rfl⟩

theorem blame_Annotate_ok {g : Gh} {fr : Hl} {w : World} {r : (List Int) × Fault} (versions : (List (List ByteArray))) (vversions1 : Value) (hversions1 : RepSl g versions vversions1) (S : St g [] fr w) (hm : blame_Annotate versions = some r) :
    Calls Try.prog 10 [vversions1].toArray w (fun en w' => ∃ v, en = .returned v ∧ ∃ (g' : Gh) (v1 : Value), Le g g' ∧ St g' [] fr w' ∧ RepSl g' r.1 v1 ∧ .tuple #[v1, .agg #[.int .i64 r.2.Code, .int .i64 r.2.Index]] = v) := by
  unfold blame_Annotate at hm
  refine calls_enter (fn := Try.f10) Try.func10 rfl Try.ntmps10 (Nat.le_of_ble_eq_true rfl) ?_
  intro a F
  replace F : Fr 77 a [(0, vversions1)] := F
  refine wp_seq ?_
  refine wp_region_lit ?_
  refine wl_ev (wn rfl) (ev_assign rfl) F S rfl rfl ?_; clear F a; intro a F
  refine wl_alloc (wn rfl) rfl tz25 (cs := [.int .i64 0, .int .i64 0]) rfl F S rfl rfl ?_; clear F a S; rintro b1 a w F S
  refine wpList_nil ?_
  replace F := F.sub (e' := [(3, .pointer (some ⟨b1, 0, Option.none⟩)), (0, vversions1)]) ⟨rfl, rfl, trivial⟩
  refine then_n ?_
  refine wp_seq ?_
  refine wp_seq ?_
  refine wp_region_lit ?_
  refine wl_ev (wn rfl) (ev_move rfl) F S rfl rfl ?_; clear F a; intro a F
  refine wl_ev (wn rfl) (ev_lenSh hversions1 rfl tu22) F S rfl rfl ?_; clear F a; intro a F
  refine wl_ev (wn rfl) (ev_int rfl rfl (bo_gtr _ _ _ _)) F S rfl rfl ?_; clear F a; intro a F
  refine wpList_nil ?_
  replace F := F.sub (e' := [(15, .bool (decide ((versions.length : Int) > 16))), (3, .pointer (some ⟨b1, 0, Option.none⟩)), (0, vversions1)]) ⟨rfl, rfl, rfl, trivial⟩
  refine then_n ?_
  obtain ⟨hc1, hm⟩ | ⟨hc1, hm⟩ := ite_or hm
  · refine wp_condT F rfl hc1 ?_
    refine wp_seq ?_
    refine wp_region_lit ?_
    refine wl_ev (wn rfl) (ev_build (parts := [(0, .const (.int .i64 2)), (1, .const (.int .i64 (-1)))]) (vs := [(0, .int .i64 2), (1, .int .i64 (-1))]) rfl (fun w => tb25_0_1 2 (-1) w)) F S rfl rfl ?_; clear F a; intro a F
    refine wl_ev (wn rfl) (ev_assign rfl) F S rfl rfl ?_; clear F a; intro a F
    refine wl_storeC (wn rfl) rfl F S rfl rfl (vs := [.int .i64 2, .int .i64 (-1)]) rfl ts25 (one_cons rfl (one_cons rfl one_nil)) (k := 0) rfl (Nat.le_of_ble_eq_true rfl) (c' := #[.int .i64 2, .int .i64 (-1)]) rfl rfl ?_; clear S; intro w S
    replace S : St g [[(b1, .cells #[.int .i64 2, .int .i64 (-1)] 25 (0, 0))]] fr w := S
    refine wpList_nil ?_
    replace F := F.sub (e' := [(2, .slice Option.none 0 0), (3, .pointer (some ⟨b1, 0, Option.none⟩))]) ⟨rfl, rfl, trivial⟩
    refine then_n ?_
    refine wp_ret ?_
    refine then_r ?_
    obtain rfl := Option.some.inj hm
    refine post_r (fn := Try.f10) (rs := [.tmp 2, .cell 3 25]) [.slice Option.none 0 0, .agg #[.int .i64 2, .int .i64 (-1)]] F rfl (ar_cons (resT rfl) (ar_cons (resA rfl tu25 rfl ts25 (box_ptr (cells := [.int .i64 2, .int .i64 (-1)]) 0 rfl 0 rfl (Nat.le_of_ble_eq_true rfl) w S)) ar_nil)) ?_
    replace S : St g [] fr w := St.tail [] _ S
    exact ⟨_, rfl, g, (.slice Option.none 0 0), (Le.refl _), S, (RepSl.nil _), rfl⟩
  · refine wp_condF F rfl hc1 ?_
    refine wp_skip ?_
    refine then_n ?_
    refine wp_cut (fun a w => ∃ (g1 : Gh), Fr 77 a [(3, .pointer (some ⟨b1, 0, Option.none⟩)), (0, vversions1)] ∧ Le g g1 ∧ St g1 [[(b1, .cells #[.int .i64 0, .int .i64 0] 25 (0, 0))]] fr w ∧ blame_Annotate.j1 versions = some r) ?_ ?_
    · refine wp_seq ?_
      refine wp_region_lit ?_
      refine wl_ev (wn rfl) (ev_move rfl) F S rfl rfl ?_; clear F a; intro a F
      refine wl_ev (wn rfl) (ev_lenSh hversions1 rfl tu22) F S rfl rfl ?_; clear F a; intro a F
      refine wl_ev (wn rfl) (ev_move rfl) F S rfl rfl ?_; clear F a; intro a F
      refine wpList_nil ?_
      replace F := F.sub (e' := [(19, .int .i64 0), (18, .int .i64 (versions.length : Int)), (17, vversions1), (3, .pointer (some ⟨b1, 0, Option.none⟩)), (0, vversions1)]) ⟨rfl, rfl, rfl, rfl, rfl, trivial⟩
      refine then_n ?_
      refine wp_block ?_
      obtain ⟨r3, hr9, hm⟩ := bind_some hm
      have hmo3 := hm; clear hm
      refine wp_iter (σ := Int) (ρ := ((List Int) × Fault) ⊕ Unit) (m := fun s => blame_Annotate.l3 versions s) (I := fun x14 a w => ∃ (g12 : Gh), Fr 77 a [(19, .int .i64 x14), (18, .int .i64 (versions.length : Int)), (17, vversions1), (3, .pointer (some ⟨b1, 0, Option.none⟩)), (0, vversions1)] ∧ Le g g12 ∧ St g12 [[(b1, .cells #[.int .i64 0, .int .i64 0] 25 (0, 0))]] fr w) hr9 ?_ ?_
      · exact ⟨g, F.sub ⟨rfl, rfl, rfl, rfl, rfl, trivial⟩, (Le.refl _), S⟩
      · clear F S; rintro x14 a w x15 ⟨g12, F, l12, S⟩ hx3 hfin3
        have hm : blame_Annotate.l3 versions x14 = some x15 := hx3; clear hx3
        unfold blame_Annotate.l3 at hm
        refine wp_seq ?_
        refine wp_region_lit ?_
        refine wl_ev (wn rfl) (ev_int rfl rfl (bo_lss _ _ _ _)) F S rfl rfl ?_; clear F a; intro a F
        refine wpList_nil ?_
        refine then_n ?_
        refine wp_seq ?_
        obtain ⟨hc7, hm⟩ | ⟨hc7, hm⟩ := ite_or hm
        · refine wp_condT F rfl hc7 ?_
          refine wp_skip ?_
          refine then_n ?_
          refine wp_seq ?_
          refine wp_block ?_
          refine wp_seq ?_
          refine wp_region_lit ?_
          refine wl_ev (wn rfl) (ev_move rfl) F S rfl rfl ?_; clear F a; intro a F
          obtain ⟨y10, hy10, hm⟩ := bind_some hm
          obtain ⟨cs7, hr10, hp5⟩ := elemS (hversions1.mono l12) hy10
          obtain ⟨v19, rfl, h21⟩ := rep_list hr10
          refine wl_ev (wn rfl) (ev_idxS (hversions1.mono l12) hy10 tu22 ts31 rfl rfl) F S rfl rfl ?_; clear F a; intro a F
          refine wl_ev (wn rfl) (ev_load1 tu31 rfl rfl (ptr_mono (cks := [[(b1, .cells #[.int .i64 0, .int .i64 0] 25 (0, 0))]]) (fr := fr) hp5 (Le.refl _))) F S rfl rfl ?_; clear F a; intro a F
          refine wl_ev (wn rfl) (ev_assign rfl) F S rfl rfl ?_; clear F a; intro a F
          refine wl_ev (wn rfl) (ev_assign rfl) F S rfl rfl ?_; clear F a; intro a F
          refine wpList_nil ?_
          replace F := F.sub (e' := [(5, v19), (4, .int .i64 x14), (19, .int .i64 x14), (18, .int .i64 (versions.length : Int)), (17, vversions1), (3, .pointer (some ⟨b1, 0, Option.none⟩)), (0, vversions1)]) ⟨rfl, rfl, rfl, rfl, rfl, rfl, rfl, trivial⟩
          refine then_n ?_
          refine wp_seq ?_
          refine wp_region_lit ?_
          refine wl_ev (wn rfl) (ev_move rfl) F S rfl rfl ?_; clear F a; intro a F
          refine wl_ev (wn rfl) (ev_move rfl) F S rfl rfl ?_; clear F a; intro a F
          obtain ⟨y11, hy11, hm⟩ := bind_some hm
          refine wl_call (wn rfl) rfl (xs := [.tmp 24, .tmp 25]) (vs := [v19, .int .i64 x14]) (cap := []) F rfl rfl tc23 (lines_Second_ok (g := g12) (fr := (fl [[(b1, .cells #[.int .i64 0, .int .i64 0] 25 (0, 0))]] fr)) (w := w) y10 v19 h21 x14 S hy11) rfl rfl ?_; clear F a S
          rintro _ a w ⟨g13, l13, S, rfl⟩ F; replace S : St g13 [[(b1, .cells #[.int .i64 0, .int .i64 0] 25 (0, 0))]] fr w := S
          refine wl_alloc (wn rfl) rfl tz25 (cs := [.int .i64 0, .int .i64 0]) rfl F S rfl rfl ?_; clear F a S; rintro b2 a w F S
          refine wl_storeC (wn rfl) rfl F S rfl rfl (vs := [.int .i64 y11.Code, .int .i64 y11.Index]) rfl ts25 (one_cons rfl (one_cons rfl one_nil)) (k := 0) rfl (Nat.le_of_ble_eq_true rfl) (c' := #[.int .i64 y11.Code, .int .i64 y11.Index]) rfl rfl ?_; clear S; intro w S
          replace S : St g13 [[(b2, .cells #[.int .i64 y11.Code, .int .i64 y11.Index] 25 (0, 0))], [(b1, .cells #[.int .i64 0, .int .i64 0] 25 (0, 0))]] fr w := S
          refine wpList_nil ?_
          replace F := F.sub (e' := [(6, .pointer (some ⟨b2, 0, Option.none⟩)), (19, .int .i64 x14), (18, .int .i64 (versions.length : Int)), (17, vversions1), (3, .pointer (some ⟨b1, 0, Option.none⟩)), (0, vversions1)]) ⟨rfl, rfl, rfl, rfl, rfl, rfl, trivial⟩
          refine then_n ?_
          refine wp_seq ?_
          refine wp_region_lit ?_
          refine wl_ev (wn rfl) (ev_loadA tu25 rfl (cs := [.int .i64 y11.Code, .int .i64 y11.Index]) ts25 rfl (box_ptr (cells := [.int .i64 y11.Code, .int .i64 y11.Index]) 0 rfl 0 rfl (Nat.le_of_ble_eq_true rfl))) F S rfl rfl ?_; clear F a; intro a F
          refine wl_ev (wn rfl) (ev_build (parts := []) (vs := []) rfl (fun w => tb25_  w)) F S rfl rfl ?_; clear F a; intro a F
          refine wl_ev (wn rfl) (ev_neS tu25 tqa25 tqb25 tqc25 (xs := [.int .i64 y11.Code, .int .i64 y11.Index]) (ys := [.int .i64 0, .int .i64 0]) rfl rfl ⟨_, _, rfl, by decide, ⟨_, _, rfl, rfl, leaf_int tu3⟩, ⟨_, _, rfl, by decide, ⟨_, _, rfl, rfl, leaf_int tu3⟩, rfl⟩⟩) F S rfl rfl ?_; clear F a; intro a F
          refine wpList_nil ?_
          replace F := F.sub (e' := [(29, .bool (!(decide (y11.Code = 0) && decide (y11.Index = 0)))), (6, .pointer (some ⟨b2, 0, Option.none⟩)), (19, .int .i64 x14), (18, .int .i64 (versions.length : Int)), (17, vversions1), (3, .pointer (some ⟨b1, 0, Option.none⟩)), (0, vversions1)]) ⟨rfl, rfl, rfl, rfl, rfl, rfl, rfl, trivial⟩
          refine then_n ?_
          obtain ⟨hc8, hm⟩ | ⟨hc8, hm⟩ := ite_or hm
          · refine wp_condT F rfl hc8 ?_
            refine wp_seq ?_
            refine wp_drawL ⟨2, [[30], [2], []], [[], [], [4]], [[3], [], []], [[6], [], [3]], [[], [], [0]], [3], [0, 1, 2, 3]⟩
              [([30], fun us g c => us = [.agg #[.int .i64 y11.Code, .int .i64 y11.Index]]),
               ([2], fun us g c => us = [.slice Option.none 0 0]),
               ([], fun us g c => us = [] ∧ c = [(b1, .cells #[.int .i64 y11.Code, .int .i64 y11.Index] 25 (0, 0))])]
              mo (by kernel_rfl) rfl rfl ⟨fun _ _ _ _ _ h => h, fun _ _ _ _ _ h => h, fun _ _ _ _ _ h => h, trivial⟩ F S ⟨?_, ?_, ?_, trivial⟩ ?_
            · intro a w gd1 c fr hsz hdf hK ld1 hN hI S
              have F : Fr 77 a [(6, .pointer (some ⟨b2, 0, Option.none⟩))] := Fr.of hsz hdf ⟨hK 6 (by decide) _ rfl, trivial⟩
              replace S : St gd1 [c 3] fr w := S.of_eq (flat2 _ _ _ _)
              have q3 : c 3 = [(b2, .cells #[.int .i64 y11.Code, .int .i64 y11.Index] 25 (0, 0))] := hI 0 _ rfl
              rw [q3] at S
              refine wl_ev (wn rfl) (ev_loadA tu25 rfl (cs := [.int .i64 y11.Code, .int .i64 y11.Index]) ts25 rfl (box_ptr (cells := [.int .i64 y11.Code, .int .i64 y11.Index]) 0 rfl 0 rfl (Nat.le_of_ble_eq_true rfl))) F S rfl rfl ?_; clear F; intro a F
              refine wpList_nil ⟨rfl, F.sz, F.df, _, [], (Le.refl _), ?_, (lst1 (F.get 30 _ rfl))⟩
              refine St0.of_eq ?_ (flat3 c [] [3] fr).symm
              show St0 _ (fl ([] ++ [c 3]) fr) _
              rw [q3]
              exact S
            · intro a w gd1 c fr hsz hdf hK ld1 hN hI S
              have F : Fr 77 a [] := Fr.of hsz hdf trivial
              replace S : St gd1 [] fr w := S.of_eq (flat2 _ _ _ _)
              refine wl_ev (wn rfl) (ev_assign rfl) F S rfl rfl ?_; clear F; intro a F
              refine wpList_nil ⟨rfl, F.sz, F.df, _, [], (Le.refl _), ?_, (lst1 (F.get 2 _ rfl))⟩
              refine St0.of_eq ?_ (flat3 c [] [] fr).symm
              show St0 _ (fl ([] ++ []) fr) _
              exact S
            · intro a w gd1 c fr hsz hdf hK ld1 hN hI S
              have e0 := hN 0 (by decide)
              have e30x : val a 30 = .agg #[.int .i64 y11.Code, .int .i64 y11.Index] := nth e0 0
              have F : Fr 77 a [(3, .pointer (some ⟨b1, 0, Option.none⟩)), (30, .agg #[.int .i64 y11.Code, .int .i64 y11.Index])] := Fr.of hsz hdf ⟨hK 3 (by decide) _ rfl, e30x, trivial⟩
              replace S : St gd1 [c 4] fr w := S.of_eq (flat2 _ _ _ _)
              have q4 : c 4 = [(b1, .cells #[.int .i64 0, .int .i64 0] 25 (0, 0))] := hI 1 _ rfl
              rw [q4] at S
              refine wl_storeC (wn rfl) rfl F S rfl rfl (vs := [.int .i64 y11.Code, .int .i64 y11.Index]) rfl ts25 (one_cons rfl (one_cons rfl one_nil)) (k := 0) rfl (Nat.le_of_ble_eq_true rfl) (c' := #[.int .i64 y11.Code, .int .i64 y11.Index]) rfl rfl ?_; clear S; intro w S
              replace S : St gd1 [[(b1, .cells #[.int .i64 y11.Code, .int .i64 y11.Index] 25 (0, 0))]] fr w := S
              refine wpList_nil ⟨rfl, F.sz, F.df, _, [(b1, .cells #[.int .i64 y11.Code, .int .i64 y11.Index] 25 (0, 0))], (Le.refl _), ?_, ⟨rfl, rfl⟩⟩
              refine St0.of_eq ?_ (flat3s c ([(b1, .cells #[.int .i64 y11.Code, .int .i64 y11.Index] 25 (0, 0))]) [] fr).symm
              show St0 _ (fl ([[(b1, .cells #[.int .i64 y11.Code, .int .i64 y11.Index] 25 (0, 0))]] ++ []) fr) _
              exact S
            clear F S; intro a w gd1 c hsz hdf hK ld1 hI S hN
            have e1 := hN 1 (by decide)
            have e2x : val a 2 = .slice Option.none 0 0 := nth e1 0
            obtain ⟨e2, q2⟩ := hN 2 (by decide)
            have F : Fr 77 a [(3, .pointer (some ⟨b1, 0, Option.none⟩)), (2, .slice Option.none 0 0)] := Fr.of hsz hdf ⟨hK 3 (by decide) _ rfl, e2x, trivial⟩
            replace S : St gd1 [c 0, c 1, c 2, c 3] fr w := S.of_eq (flat_fl _ _ _)
            rw [q2] at S
            have q3 : c 3 = [(b2, .cells #[.int .i64 y11.Code, .int .i64 y11.Index] 25 (0, 0))] := hI 0 _ rfl
            rw [q3] at S
            replace S : St gd1 [[(b1, .cells #[.int .i64 y11.Code, .int .i64 y11.Index] 25 (0, 0))]] fr w := St.tail [[(b1, .cells #[.int .i64 y11.Code, .int .i64 y11.Index] 25 (0, 0))]] _ (S.frontC 2 rfl)
            clear hK hI hN hsz hdf e1 e2 e2x
            refine then_n ?_
            refine wp_ret ?_
            refine inb_r ?_
            refine then_r ?_
            refine then_r ?_
            refine inb_r ?_
            refine then_r ?_
            obtain rfl := Option.some.inj hm
            obtain rfl := hfin3 _ rfl
            clear hm
            have hm : (some ([], y11) : Option ((List Int) × Fault)) = some _ := hmo3
            obtain rfl := Option.some.inj hm
            refine post_r (fn := Try.f10) (rs := [.tmp 2, .cell 3 25]) [.slice Option.none 0 0, .agg #[.int .i64 y11.Code, .int .i64 y11.Index]] F rfl (ar_cons (resT rfl) (ar_cons (resA rfl tu25 rfl ts25 (box_ptr (cells := [.int .i64 y11.Code, .int .i64 y11.Index]) 0 rfl 0 rfl (Nat.le_of_ble_eq_true rfl) w S)) ar_nil)) ?_
            replace S : St gd1 [] fr w := St.tail [] _ S
            exact ⟨_, rfl, gd1, (.slice Option.none 0 0), ((l12.trans l13).trans ld1), S, (RepSl.nil _), rfl⟩
          · refine wp_condF F rfl hc8 ?_
            refine wp_skip ?_
            refine inb_n ?_
            refine then_n ?_
            refine wp_region_lit ?_
            obtain ⟨z4, hz4, hm⟩ := bind_some hm
            refine wl_ev (wn rfl) (ev_int rfl rfl (bo_add hz4)) F S rfl rfl ?_; clear F a; intro a F
            refine wl_ev (wn rfl) (ev_move rfl) F S rfl rfl ?_; clear F a; intro a F
            refine wpList_nil ?_
            replace F := F.sub (e' := [(19, .int .i64 z4), (18, .int .i64 (versions.length : Int)), (17, vversions1), (3, .pointer (some ⟨b1, 0, Option.none⟩)), (0, vversions1)]) ⟨rfl, rfl, rfl, rfl, rfl, trivial⟩
            refine then_n ?_
            obtain rfl := Option.some.inj hm
            refine ⟨_, rfl, ?_⟩
            replace S : St g13 [[(b1, .cells #[.int .i64 0, .int .i64 0] 25 (0, 0))]] fr w := St.tail [[(b1, .cells #[.int .i64 0, .int .i64 0] 25 (0, 0))]] _ (S.frontC 1 rfl)
            exact ⟨g13, F.sub ⟨rfl, rfl, rfl, rfl, rfl, trivial⟩, (l12.trans l13), S⟩
        · refine wp_condF F rfl hc7 ?_
          refine wp_exit ?_
          refine then_e ?_
          refine then_e ?_
          refine inb_x ?_
          refine then_n ?_
          obtain rfl := Option.some.inj hm
          obtain rfl := hfin3 _ rfl
          clear hm
          have hm : (blame_Annotate.j1 versions : Option ((List Int) × Fault)) = some _ := hmo3
          exact ⟨g12, F.sub ⟨rfl, rfl, trivial⟩, l12, S, hm⟩
    · clear F S hm; rintro a w ⟨g1, F, l1, S, hm⟩
      refine wp_seq ?_
      refine wp_region_lit ?_
      refine wl_ev (wn rfl) (ev_assign rfl) F S rfl rfl ?_; clear F a; intro a F
      refine wl_ev (wn rfl) (ev_assign rfl) F S rfl rfl ?_; clear F a; intro a F
      refine wpList_nil ?_
      replace F := F.sub (e' := [(7, .slice Option.none 0 0), (3, .pointer (some ⟨b1, 0, Option.none⟩)), (0, vversions1)]) ⟨rfl, rfl, rfl, trivial⟩
      refine then_n ?_
      refine wp_cut (fun a w => ∃ (x1 : List Int) (v1 : Value) (c1 : Hl) (g2 : Gh), Fr 77 a [(7, v1), (3, .pointer (some ⟨b1, 0, Option.none⟩))] ∧ Le g1 g2 ∧ St g2 [c1, [(b1, .cells #[.int .i64 0, .int .i64 0] 25 (0, 0))]] fr w ∧ OwnS g2 x1 v1 c1 ∧ blame_Annotate.j2 x1 = some r) ?_ ?_
      · refine wp_seq ?_
        refine wp_region_lit ?_
        refine wl_ev (wn rfl) (ev_move rfl) F S rfl rfl ?_; clear F a; intro a F
        refine wl_ev (wn rfl) (ev_lenSh hversions1 rfl tu22) F S rfl rfl ?_; clear F a; intro a F
        refine wl_ev (wn rfl) (ev_move rfl) F S rfl rfl ?_; clear F a; intro a F
        refine wpList_nil ?_
        refine then_n ?_
        refine wp_block ?_
        obtain ⟨r1, hr1, hm⟩ := bind_some hm
        have hmo1 := hm; clear hm
        refine wp_iter (σ := Int × (List Int)) (ρ := (List Int)) (m := fun s => blame_Annotate.l1 versions s.1 s.2) (I := fun s a w => match s with | (x2, x3) => ∃ (v2 : Value) (c2 : Hl) (g4 : Gh), Fr 77 a [(34, .int .i64 x2), (33, .int .i64 (versions.length : Int)), (32, vversions1), (7, v2), (3, .pointer (some ⟨b1, 0, Option.none⟩)), (0, vversions1)] ∧ Le g1 g4 ∧ St g4 [c2, [(b1, .cells #[.int .i64 0, .int .i64 0] 25 (0, 0))]] fr w ∧ OwnS g4 x3 v2 c2) hr1 ?_ ?_
        · dsimp only
          replace S : St g1 [[], [(b1, .cells #[.int .i64 0, .int .i64 0] 25 (0, 0))]] fr w := S
          exact ⟨(.slice Option.none 0 0), [], g1, F.sub ⟨rfl, rfl, rfl, rfl, rfl, rfl, trivial⟩, (Le.refl _), S, (OwnS.nil _)⟩
        · clear F S; rintro ⟨x2, x3⟩ a w x4 ⟨v2, c2, g4, F, l4, S, h3⟩ hx1 hfin1
          have hm : blame_Annotate.l1 versions x2 x3 = some x4 := hx1; clear hx1
          unfold blame_Annotate.l1 at hm
          refine wp_seq ?_
          refine wp_region_lit ?_
          refine wl_ev (wn rfl) (ev_int rfl rfl (bo_lss _ _ _ _)) F S rfl rfl ?_; clear F a; intro a F
          refine wpList_nil ?_
          refine then_n ?_
          refine wp_seq ?_
          obtain ⟨hc2, hm⟩ | ⟨hc2, hm⟩ := ite_or hm
          · refine wp_condT F rfl hc2 ?_
            refine wp_skip ?_
            refine then_n ?_
            refine wp_cut (fun a w => ∃ (x5 : List Int) (v3 : Value) (c3 : Hl) (g5 : Gh), Fr 77 a [(7, v3), (34, .int .i64 x2), (33, .int .i64 (versions.length : Int)), (32, vversions1), (3, .pointer (some ⟨b1, 0, Option.none⟩)), (0, vversions1)] ∧ Le g4 g5 ∧ St g5 [c3, [(b1, .cells #[.int .i64 0, .int .i64 0] 25 (0, 0))]] fr w ∧ OwnS g5 x5 v3 c3 ∧ blame_Annotate.j3 x2 x5 = some x4) ?_ ?_
            · refine wp_block ?_
              refine wp_seq ?_
              refine wp_region_lit ?_
              refine wl_ev (wn rfl) (ev_move rfl) F S rfl rfl ?_; clear F a; intro a F
              obtain ⟨y1, hy1, hm⟩ := bind_some hm
              obtain ⟨cs1, hr2, hp1⟩ := elemS (hversions1.mono (l1.trans l4)) hy1
              obtain ⟨v4, rfl, h5⟩ := rep_list hr2
              refine wl_ev (wn rfl) (ev_idxS (hversions1.mono (l1.trans l4)) hy1 tu22 ts31 rfl rfl) F S rfl rfl ?_; clear F a; intro a F
              refine wl_ev (wn rfl) (ev_load1 tu31 rfl rfl (ptr_mono (cks := [c2, [(b1, .cells #[.int .i64 0, .int .i64 0] 25 (0, 0))]]) (fr := fr) hp1 (Le.refl _))) F S rfl rfl ?_; clear F a; intro a F
              refine wl_ev (wn rfl) (ev_assign rfl) F S rfl rfl ?_; clear F a; intro a F
              refine wl_ev (wn rfl) (ev_assign rfl) F S rfl rfl ?_; clear F a; intro a F
              refine wpList_nil ?_
              replace F := F.sub (e' := [(10, v4), (9, .int .i64 x2), (34, .int .i64 x2), (33, .int .i64 (versions.length : Int)), (32, vversions1), (7, v2), (3, .pointer (some ⟨b1, 0, Option.none⟩)), (0, vversions1)]) ⟨rfl, rfl, rfl, rfl, rfl, rfl, rfl, rfl, trivial⟩
              refine then_n ?_
              refine wp_seq ?_
              refine wp_seq ?_
              refine wp_region_lit ?_
              refine wl_ev (wn rfl) (ev_move rfl) F S rfl rfl ?_; clear F a; intro a F
              refine wl_ev (wn rfl) (ev_int rfl rfl (bo_eql _ _ _ _)) F S rfl rfl ?_; clear F a; intro a F
              refine wpList_nil ?_
              replace F := F.sub (e' := [(40, .bool (decide (x2 = 0))), (10, v4), (9, .int .i64 x2), (34, .int .i64 x2), (33, .int .i64 (versions.length : Int)), (32, vversions1), (7, v2), (3, .pointer (some ⟨b1, 0, Option.none⟩)), (0, vversions1)]) ⟨rfl, rfl, rfl, rfl, rfl, rfl, rfl, rfl, rfl, trivial⟩
              refine then_n ?_
              obtain ⟨hc3, hm⟩ | ⟨hc3, hm⟩ := ite_or hm
              · refine wp_condT F rfl hc3 ?_
                refine wp_seq ?_
                refine wp_region_lit ?_
                refine wl_ev (wn rfl) (ev_move rfl) F S rfl rfl ?_; clear F a; intro a F
                refine wl_ev (wn rfl) (ev_lenSh h5 rfl tu31) F S rfl rfl ?_; clear F a; intro a F
                obtain ⟨y2, hy2, hm⟩ := bind_some hm
                refine wl_make (wn rfl) rfl tu23 te3 (fun g => (show Rep.rep g (0 : Int) _ from rfl)) rfl hy2 (by decide) F S rfl rfl ?_; clear F a S; rintro v5 c4 a w h6 F S
                refine wl_ev (wn rfl) (ev_assign rfl) F S rfl rfl ?_; clear F a; intro a F
                refine wpList_nil ?_
                replace F := F.sub (e' := [(7, v5), (34, .int .i64 x2), (33, .int .i64 (versions.length : Int)), (32, vversions1), (3, .pointer (some ⟨b1, 0, Option.none⟩)), (0, vversions1)]) ⟨rfl, rfl, rfl, rfl, rfl, rfl, trivial⟩
                refine then_n ?_
                refine wp_exit ?_
                refine then_e ?_
                refine inb_x ?_
                refine then_n ?_
                replace S : St g4 [c4, [(b1, .cells #[.int .i64 0, .int .i64 0] 25 (0, 0))]] fr w := St.tail [c4, [(b1, .cells #[.int .i64 0, .int .i64 0] 25 (0, 0))]] _ ((S.frontC 2 rfl).frontC 1 rfl)
                exact ⟨y2, v5, c4, g4, F.sub ⟨rfl, rfl, rfl, rfl, rfl, rfl, trivial⟩, (Le.refl _), S, h6, hm⟩
              · refine wp_condF F rfl hc3 ?_
                refine wp_skip ?_
                refine then_n ?_
                refine wp_seq ?_
                refine wp_region_lit ?_
                refine wl_ev (wn rfl) (ev_move rfl) F S rfl rfl ?_; clear F a; intro a F
                refine wl_ev (wn rfl) (ev_assign rfl) F S rfl rfl ?_; clear F a; intro a F
                refine wl_ev (wn rfl) (ev_assign rfl) F S rfl rfl ?_; clear F a; intro a F
                refine wpList_nil ?_
                replace F := F.sub (e' := [(7, .slice Option.none 0 0), (8, v2), (10, v4), (9, .int .i64 x2), (34, .int .i64 x2), (33, .int .i64 (versions.length : Int)), (32, vversions1), (3, .pointer (some ⟨b1, 0, Option.none⟩)), (0, vversions1)]) ⟨rfl, rfl, rfl, rfl, rfl, rfl, rfl, rfl, rfl, trivial⟩
                refine then_n ?_
                refine wp_seq ?_
                refine wp_region_lit ?_
                refine wl_ev (wn rfl) (ev_move rfl) F S rfl rfl ?_; clear F a; intro a F
                refine wl_ev (wn rfl) (ev_move rfl) F S rfl rfl ?_; clear F a; intro a F
                obtain ⟨z2, hz2, hm⟩ := bind_some hm
                refine wl_ev (wn rfl) (ev_int rfl rfl (bo_sub hz2)) F S rfl rfl ?_; clear F a; intro a F
                obtain ⟨y3, hy3, hm⟩ := bind_some hm
                obtain ⟨cs2, hr3, hp2⟩ := elemS (hversions1.mono (l1.trans l4)) hy3
                obtain ⟨v6, rfl, h7⟩ := rep_list hr3
                refine wl_ev (wn rfl) (ev_idxS (hversions1.mono (l1.trans l4)) hy3 tu22 ts31 rfl rfl) F S rfl rfl ?_; clear F a; intro a F
                refine wl_ev (wn rfl) (ev_load1 tu31 rfl rfl (ptr_mono (cks := [c2, [(b1, .cells #[.int .i64 0, .int .i64 0] 25 (0, 0))]]) (fr := fr) hp2 (Le.refl _))) F S rfl rfl ?_; clear F a; intro a F
                refine wl_ev (wn rfl) (ev_move rfl) F S rfl rfl ?_; clear F a; intro a F
                obtain ⟨y4, hy4, hm⟩ := bind_some hm
                refine wl_call (wn rfl) rfl (xs := [.tmp 49, .tmp 50]) (vs := [v6, v4]) (cap := []) F rfl rfl tc24 (diff_Align_ok (g := g4) (fr := (fl [c2, [(b1, .cells #[.int .i64 0, .int .i64 0] 25 (0, 0))]] fr)) (w := w) y3 v6 h7 y1 v4 h5 S hy4) rfl rfl ?_; clear F a S
                rintro _ a w ⟨g6, v7, l6, S, h8, rfl⟩ F; replace S : St g6 [c2, [(b1, .cells #[.int .i64 0, .int .i64 0] 25 (0, 0))]] fr w := S
                refine wl_ev (wn rfl) (ev_lenSh h8 rfl tu23) F S rfl rfl ?_; clear F a; intro a F
                refine wl_ev (wn rfl) (ev_move rfl) F S rfl rfl ?_; clear F a; intro a F
                refine wpList_nil ?_
                replace F := F.sub (e' := [(53, .int .i64 0), (52, .int .i64 (y4.length : Int)), (51, v7), (7, .slice Option.none 0 0), (8, v2), (9, .int .i64 x2), (34, .int .i64 x2), (33, .int .i64 (versions.length : Int)), (32, vversions1), (3, .pointer (some ⟨b1, 0, Option.none⟩)), (0, vversions1)]) ⟨rfl, rfl, rfl, rfl, rfl, rfl, rfl, rfl, rfl, rfl, rfl, trivial⟩
                refine then_n ?_
                refine wp_cut1 (fun a w => ∃ (x6 : List Int) (v8 : Value) (c5 : Hl) (g7 : Gh), Fr 77 a [(7, v8), (34, .int .i64 x2), (33, .int .i64 (versions.length : Int)), (32, vversions1), (3, .pointer (some ⟨b1, 0, Option.none⟩)), (0, vversions1)] ∧ Le g6 g7 ∧ St g7 [c5, [(b1, .cells #[.int .i64 0, .int .i64 0] 25 (0, 0))]] fr w ∧ OwnS g7 x6 v8 c5 ∧ blame_Annotate.j4 x2 x6 = some x4) ?_ ?_
                · refine wp_block ?_
                  obtain ⟨r2, hr4, hm⟩ := bind_some hm
                  have hmo2 := hm; clear hm
                  refine wp_iter (σ := Int × (List Int) × (List Int)) (ρ := (List Int)) (m := fun s => blame_Annotate.l2 x2 y4 s.1 s.2.1 s.2.2) (I := fun s a w => match s with | (x7, x8, x9) => ∃ (v9 v10 : Value) (c6 : Hl) (g8 : Gh), Fr 77 a [(53, .int .i64 x7), (52, .int .i64 (y4.length : Int)), (51, v7), (7, v9), (8, v10), (9, .int .i64 x2), (34, .int .i64 x2), (33, .int .i64 (versions.length : Int)), (32, vversions1), (3, .pointer (some ⟨b1, 0, Option.none⟩)), (0, vversions1)] ∧ Le g6 g8 ∧ St g8 [c6, [(b1, .cells #[.int .i64 0, .int .i64 0] 25 (0, 0))]] fr w ∧ OwnS g8 x8 v9 c6 ∧ RepSl g8 x9 v10) hr4 ?_ ?_
                  · dsimp only
                    obtain ⟨g9, l9, S, h12⟩ : ∃ gz, Le g6 gz ∧ St gz [[(b1, .cells #[.int .i64 0, .int .i64 0] 25 (0, 0))]] fr w ∧ RepSl gz x3 v2 := ⟨_, Le.add _ _, S.freeze 0 rfl, OwnS.freeze (S.front 0 rfl) (h3.mono l6)⟩
                    replace S : St g9 [[], [(b1, .cells #[.int .i64 0, .int .i64 0] 25 (0, 0))]] fr w := S
                    exact ⟨(.slice Option.none 0 0), v2, [], g9, F.sub ⟨rfl, rfl, rfl, rfl, rfl, rfl, rfl, rfl, rfl, rfl, rfl, trivial⟩, l9, S, (OwnS.nil _), h12⟩
                  · clear F S; rintro ⟨x7, x8, x9⟩ a w x10 ⟨v9, v10, c6, g8, F, l8, S, h10, h11⟩ hx2 hfin2
                    have hm : blame_Annotate.l2 x2 y4 x7 x8 x9 = some x10 := hx2; clear hx2
                    unfold blame_Annotate.l2 at hm
                    refine wp_seq ?_
                    refine wp_region_lit ?_
                    refine wl_ev (wn rfl) (ev_int rfl rfl (bo_lss _ _ _ _)) F S rfl rfl ?_; clear F a; intro a F
                    refine wpList_nil ?_
                    refine then_n ?_
                    refine wp_seq ?_
                    obtain ⟨hc4, hm⟩ | ⟨hc4, hm⟩ := ite_or hm
                    · refine wp_condT F rfl hc4 ?_
                      refine wp_skip ?_
                      refine then_n ?_
                      refine wp_cut (fun a w => ∃ (x11 : List Int) (x12 : List Int) (v11 v12 : Value) (c7 : Hl) (g10 : Gh), Fr 77 a [(7, v11), (53, .int .i64 x7), (52, .int .i64 (y4.length : Int)), (51, v7), (8, v12), (9, .int .i64 x2), (34, .int .i64 x2), (33, .int .i64 (versions.length : Int)), (32, vversions1), (3, .pointer (some ⟨b1, 0, Option.none⟩)), (0, vversions1)] ∧ Le g8 g10 ∧ St g10 [c7, [(b1, .cells #[.int .i64 0, .int .i64 0] 25 (0, 0))]] fr w ∧ OwnS g10 x11 v11 c7 ∧ RepSl g10 x12 v12 ∧ blame_Annotate.j5 x7 x11 x12 = some x10) ?_ ?_
                      · refine wp_block ?_
                        refine wp_seq ?_
                        refine wp_region_lit ?_
                        obtain ⟨y5, hy5, hm⟩ := bind_some hm
                        obtain ⟨cs3, hr5, hp3⟩ := elemS (h8.mono l8) hy5
                        obtain rfl := rep_int hr5
                        refine wl_ev (wn rfl) (ev_idxS (h8.mono l8) hy5 tu23 ts3 rfl rfl) F S rfl rfl ?_; clear F a; intro a F
                        refine wl_ev (wn rfl) (ev_load1 tu3 rfl rfl (ptr_mono (cks := [c6, [(b1, .cells #[.int .i64 0, .int .i64 0] 25 (0, 0))]]) (fr := fr) hp3 (Le.refl _))) F S rfl rfl ?_; clear F a; intro a F
                        refine wl_ev (wn rfl) (ev_assign rfl) F S rfl rfl ?_; clear F a; intro a F
                        refine wpList_nil ?_
                        replace F := F.sub (e' := [(12, .int .i64 y5), (53, .int .i64 x7), (52, .int .i64 (y4.length : Int)), (51, v7), (7, v9), (8, v10), (9, .int .i64 x2), (34, .int .i64 x2), (33, .int .i64 (versions.length : Int)), (32, vversions1), (3, .pointer (some ⟨b1, 0, Option.none⟩)), (0, vversions1)]) ⟨rfl, rfl, rfl, rfl, rfl, rfl, rfl, rfl, rfl, rfl, rfl, rfl, trivial⟩
                        refine then_n ?_
                        refine wp_seq ?_
                        refine wp_seq ?_
                        refine wp_region_lit ?_
                        refine wl_ev (wn rfl) (ev_move rfl) F S rfl rfl ?_; clear F a; intro a F
                        refine wl_ev (wn rfl) (ev_int rfl rfl (bo_eql _ _ _ _)) F S rfl rfl ?_; clear F a; intro a F
                        refine wpList_nil ?_
                        replace F := F.sub (e' := [(58, .bool (decide (y5 = 2))), (12, .int .i64 y5), (53, .int .i64 x7), (52, .int .i64 (y4.length : Int)), (51, v7), (7, v9), (8, v10), (9, .int .i64 x2), (34, .int .i64 x2), (33, .int .i64 (versions.length : Int)), (32, vversions1), (3, .pointer (some ⟨b1, 0, Option.none⟩)), (0, vversions1)]) ⟨rfl, rfl, rfl, rfl, rfl, rfl, rfl, rfl, rfl, rfl, rfl, rfl, rfl, trivial⟩
                        refine then_n ?_
                        obtain ⟨hc5, hm⟩ | ⟨hc5, hm⟩ := ite_or hm
                        · refine wp_condT F rfl hc5 ?_
                          refine wp_seq ?_
                          refine wp_region_lit ?_
                          refine wl_ev (wn rfl) (ev_move rfl) F S rfl rfl ?_; clear F a; intro a F
                          refine wl_ev (wn rfl) (ev_move rfl) F S rfl rfl ?_; clear F a; intro a F
                          refine wl_lit (l := ([x2] : List Int)) (vs := [.int .i64 x2]) (parts := [(0, .tmp 60)]) (wn rfl) rfl rfl rfl tu23 te3 (sz_cons rfl sz_nil) rfl (Cat.cons (show Rep.rep _ x2 _ from rfl) (Cat.nil _)) (coa_cons rfl coa_nil) rfl F S rfl rfl ?_; clear F a S
                          rintro v13 c8 a w h15 F S
                          obtain ⟨cs4, hk1, hr6⟩ := OwnS.reads h15
                          obtain ⟨y6, hy6, hm⟩ := bind_some hm
                          refine wl_append (wn rfl) rfl tu23 tu23 te3 (by decide) (by decide) F S rfl rfl (k := 1) rfl h10 hk1 rfl (hr6 _ _ _ 0 rfl S) hy6 rfl rfl ?_; clear F a S
                          rintro v14 c9 a w h16 S F; replace S : St g8 [c8, c9, [(b1, .cells #[.int .i64 0, .int .i64 0] 25 (0, 0))]] fr w := S
                          refine wl_ev (wn rfl) (ev_assign rfl) F S rfl rfl ?_; clear F a; intro a F
                          refine wpList_nil ?_
                          replace F := F.sub (e' := [(7, v14), (53, .int .i64 x7), (52, .int .i64 (y4.length : Int)), (51, v7), (8, v10), (9, .int .i64 x2), (34, .int .i64 x2), (33, .int .i64 (versions.length : Int)), (32, vversions1), (3, .pointer (some ⟨b1, 0, Option.none⟩)), (0, vversions1)]) ⟨rfl, rfl, rfl, rfl, rfl, rfl, rfl, rfl, rfl, rfl, rfl, trivial⟩
                          refine then_n ?_
                          refine wp_exit ?_
                          refine then_e ?_
                          refine inb_x ?_
                          refine then_n ?_
                          replace S : St g8 [c9, [(b1, .cells #[.int .i64 0, .int .i64 0] 25 (0, 0))]] fr w := St.tail [c9, [(b1, .cells #[.int .i64 0, .int .i64 0] 25 (0, 0))]] _ ((S.frontC 2 rfl).frontC 2 rfl)
                          exact ⟨y6, x9, v14, v10, c9, g8, F.sub ⟨rfl, rfl, rfl, rfl, rfl, rfl, rfl, rfl, rfl, rfl, rfl, trivial⟩, (Le.refl _), S, h16, h11, hm⟩
                        · refine wp_condF F rfl hc5 ?_
                          refine wp_skip ?_
                          refine then_n ?_
                          refine wp_cut (fun a w => ∃ (x13 : List Int) (v15 : Value) (c10 : Hl) (g11 : Gh), Fr 77 a [(7, v15), (53, .int .i64 x7), (52, .int .i64 (y4.length : Int)), (51, v7), (8, v10), (9, .int .i64 x2), (34, .int .i64 x2), (33, .int .i64 (versions.length : Int)), (32, vversions1), (3, .pointer (some ⟨b1, 0, Option.none⟩)), (0, vversions1)] ∧ Le g8 g11 ∧ St g11 [c10, [(b1, .cells #[.int .i64 0, .int .i64 0] 25 (0, 0))]] fr w ∧ OwnS g11 x13 v15 c10 ∧ blame_Annotate.j6 x7 x9 x13 = some x10) ?_ ?_
                          · refine wp_seq ?_
                            refine wp_region_lit ?_
                            refine wl_ev (wn rfl) (ev_move rfl) F S rfl rfl ?_; clear F a; intro a F
                            refine wl_ev (wn rfl) (ev_int rfl rfl (bo_eql _ _ _ _)) F S rfl rfl ?_; clear F a; intro a F
                            refine wpList_nil ?_
                            replace F := F.sub (e' := [(64, .bool (decide (y5 = 0))), (53, .int .i64 x7), (52, .int .i64 (y4.length : Int)), (51, v7), (7, v9), (8, v10), (9, .int .i64 x2), (34, .int .i64 x2), (33, .int .i64 (versions.length : Int)), (32, vversions1), (3, .pointer (some ⟨b1, 0, Option.none⟩)), (0, vversions1)]) ⟨rfl, rfl, rfl, rfl, rfl, rfl, rfl, rfl, rfl, rfl, rfl, rfl, trivial⟩
                            refine then_n ?_
                            obtain ⟨hc6, hm⟩ | ⟨hc6, hm⟩ := ite_or hm
                            · refine wp_condT F rfl hc6 ?_
                              refine wp_region_lit ?_
                              refine wl_ev (wn rfl) (ev_move rfl) F S rfl rfl ?_; clear F a; intro a F
                              refine wl_ev (wn rfl) (ev_move rfl) F S rfl rfl ?_; clear F a; intro a F
                              obtain ⟨y8, hy8, hm⟩ := bind_some hm
                              obtain ⟨cs5, hr7, hp4⟩ := elemS h11 hy8
                              obtain rfl := rep_int hr7
                              refine wl_ev (wn rfl) (ev_idxS h11 hy8 tu23 ts3 rfl rfl) F S rfl rfl ?_; clear F a; intro a F
                              refine wl_ev (wn rfl) (ev_load1 tu3 rfl rfl (ptr_mono (cks := [c6, [(b1, .cells #[.int .i64 0, .int .i64 0] 25 (0, 0))]]) (fr := fr) hp4 (Le.refl _))) F S rfl rfl ?_; clear F a; intro a F
                              refine wl_lit (l := ([y8] : List Int)) (vs := [.int .i64 y8]) (parts := [(0, .tmp 68)]) (wn rfl) rfl rfl rfl tu23 te3 (sz_cons rfl sz_nil) rfl (Cat.cons (show Rep.rep _ y8 _ from rfl) (Cat.nil _)) (coa_cons rfl coa_nil) rfl F S rfl rfl ?_; clear F a S
                              rintro v17 c11 a w h19 F S
                              obtain ⟨cs6, hk2, hr8⟩ := OwnS.reads h19
                              obtain ⟨y9, hy9, hm⟩ := bind_some hm
                              refine wl_append (wn rfl) rfl tu23 tu23 te3 (by decide) (by decide) F S rfl rfl (k := 1) rfl h10 hk2 rfl (hr8 _ _ _ 0 rfl S) hy9 rfl rfl ?_; clear F a S
                              rintro v18 c12 a w h20 S F; replace S : St g8 [c11, c12, [(b1, .cells #[.int .i64 0, .int .i64 0] 25 (0, 0))]] fr w := S
                              refine wl_ev (wn rfl) (ev_assign rfl) F S rfl rfl ?_; clear F a; intro a F
                              refine wpList_nil ?_
                              replace F := F.sub (e' := [(7, v18), (53, .int .i64 x7), (52, .int .i64 (y4.length : Int)), (51, v7), (8, v10), (9, .int .i64 x2), (34, .int .i64 x2), (33, .int .i64 (versions.length : Int)), (32, vversions1), (3, .pointer (some ⟨b1, 0, Option.none⟩)), (0, vversions1)]) ⟨rfl, rfl, rfl, rfl, rfl, rfl, rfl, rfl, rfl, rfl, rfl, trivial⟩
                              refine then_n ?_
                              replace S : St g8 [c12, [(b1, .cells #[.int .i64 0, .int .i64 0] 25 (0, 0))]] fr w := St.tail [c12, [(b1, .cells #[.int .i64 0, .int .i64 0] 25 (0, 0))]] _ ((S.frontC 2 rfl).frontC 2 rfl)
                              exact ⟨y9, v18, c12, g8, F.sub ⟨rfl, rfl, rfl, rfl, rfl, rfl, rfl, rfl, rfl, rfl, rfl, trivial⟩, (Le.refl _), S, h20, hm⟩
                            · refine wp_condF F rfl hc6 ?_
                              refine wp_skip ?_
                              refine then_n ?_
                              exact ⟨x8, v9, c6, g8, F.sub ⟨rfl, rfl, rfl, rfl, rfl, rfl, rfl, rfl, rfl, rfl, rfl, trivial⟩, (Le.refl _), S, h10, hm⟩
                          · clear F S hm; rintro a w ⟨x13, v15, c10, g11, F, l11, S, h17, hm⟩
                            refine wp_region_lit ?_
                            refine wl_ev (wn rfl) (ev_move rfl) F S rfl rfl ?_; clear F a; intro a F
                            obtain ⟨y7, hy7, hm⟩ := bind_some hm
                            refine wl_cutS (wn rfl) rfl (h11.mono l11) hy7 tu23 ts3 rfl (bndV rfl) (bnd0 _) F rfl rfl ?_; clear F a; rintro v16 h18 a F
                            refine wl_ev (wn rfl) (ev_assign rfl) F S rfl rfl ?_; clear F a; intro a F
                            refine wpList_nil ?_
                            replace F := F.sub (e' := [(8, v16), (7, v15), (53, .int .i64 x7), (52, .int .i64 (y4.length : Int)), (51, v7), (9, .int .i64 x2), (34, .int .i64 x2), (33, .int .i64 (versions.length : Int)), (32, vversions1), (3, .pointer (some ⟨b1, 0, Option.none⟩)), (0, vversions1)]) ⟨rfl, rfl, rfl, rfl, rfl, rfl, rfl, rfl, rfl, rfl, rfl, trivial⟩
                            refine inb_n ?_
                            refine then_n ?_
                            exact ⟨x13, y7, v15, v16, c10, g11, F.sub ⟨rfl, rfl, rfl, rfl, rfl, rfl, rfl, rfl, rfl, rfl, rfl, trivial⟩, l11, S, h17, h18, hm⟩
                      · clear F S hm; rintro a w ⟨x11, x12, v11, v12, c7, g10, F, l10, S, h13, h14, hm⟩
                        refine wp_region_lit ?_
                        obtain ⟨z3, hz3, hm⟩ := bind_some hm
                        refine wl_ev (wn rfl) (ev_int rfl rfl (bo_add hz3)) F S rfl rfl ?_; clear F a; intro a F
                        refine wl_ev (wn rfl) (ev_move rfl) F S rfl rfl ?_; clear F a; intro a F
                        refine wpList_nil ?_
                        replace F := F.sub (e' := [(53, .int .i64 z3), (7, v11), (52, .int .i64 (y4.length : Int)), (51, v7), (8, v12), (9, .int .i64 x2), (34, .int .i64 x2), (33, .int .i64 (versions.length : Int)), (32, vversions1), (3, .pointer (some ⟨b1, 0, Option.none⟩)), (0, vversions1)]) ⟨rfl, rfl, rfl, rfl, rfl, rfl, rfl, rfl, rfl, rfl, rfl, trivial⟩
                        refine then_n ?_
                        obtain rfl := Option.some.inj hm
                        refine ⟨_, rfl, ?_⟩
                        dsimp only
                        exact ⟨v11, v12, c7, g10, F.sub ⟨rfl, rfl, rfl, rfl, rfl, rfl, rfl, rfl, rfl, rfl, rfl, trivial⟩, (l8.trans l10), S, h13, h14⟩
                    · refine wp_condF F rfl hc4 ?_
                      refine wp_exit ?_
                      refine then_e ?_
                      refine then_e ?_
                      refine inb_x ?_
                      refine then_n ?_
                      obtain rfl := Option.some.inj hm
                      obtain rfl := hfin2 _ rfl
                      clear hm
                      have hm : (blame_Annotate.j4 x2 x8 : Option (Step (Int × (List Int)) (List Int))) = some _ := hmo2
                      exact ⟨x8, v9, c6, g8, F.sub ⟨rfl, rfl, rfl, rfl, rfl, rfl, trivial⟩, l8, S, h10, hm⟩
                · clear F S hm; rintro a w ⟨x6, v8, c5, g7, F, l7, S, h9, hm⟩
                  refine inb_n ?_
                  refine then_n ?_
                  exact ⟨x6, v8, c5, g7, F.sub ⟨rfl, rfl, rfl, rfl, rfl, rfl, trivial⟩, (l6.trans l7), S, h9, hm⟩
            · clear F S hm; rintro a w ⟨x5, v3, c3, g5, F, l5, S, h4, hm⟩
              refine wp_region_lit ?_
              obtain ⟨z1, hz1, hm⟩ := bind_some hm
              refine wl_ev (wn rfl) (ev_int rfl rfl (bo_add hz1)) F S rfl rfl ?_; clear F a; intro a F
              refine wl_ev (wn rfl) (ev_move rfl) F S rfl rfl ?_; clear F a; intro a F
              refine wpList_nil ?_
              replace F := F.sub (e' := [(34, .int .i64 z1), (7, v3), (33, .int .i64 (versions.length : Int)), (32, vversions1), (3, .pointer (some ⟨b1, 0, Option.none⟩)), (0, vversions1)]) ⟨rfl, rfl, rfl, rfl, rfl, rfl, trivial⟩
              refine then_n ?_
              obtain rfl := Option.some.inj hm
              refine ⟨_, rfl, ?_⟩
              dsimp only
              exact ⟨v3, c3, g5, F.sub ⟨rfl, rfl, rfl, rfl, rfl, rfl, trivial⟩, (l4.trans l5), S, h4⟩
          · refine wp_condF F rfl hc2 ?_
            refine wp_exit ?_
            refine then_e ?_
            refine then_e ?_
            refine inb_x ?_
            refine then_n ?_
            obtain rfl := Option.some.inj hm
            obtain rfl := hfin1 _ rfl
            clear hm
            have hm : (blame_Annotate.j2 x3 : Option ((List Int) × Fault)) = some _ := hmo1
            exact ⟨x3, v2, c2, g4, F.sub ⟨rfl, rfl, trivial⟩, l4, S, h3, hm⟩
      · clear F S hm; rintro a w ⟨x1, v1, c1, g2, F, l2, S, h1, hm⟩
        refine wp_seq ?_
        refine wp_region_lit ?_
        refine wl_ev (wn rfl) (ev_move rfl) F S rfl rfl ?_; clear F a; intro a F
        refine wl_ev (wn rfl) (ev_build (parts := []) (vs := []) rfl (fun w => tb25_  w)) F S rfl rfl ?_; clear F a; intro a F
        refine wl_ev (wn rfl) (ev_assign rfl) F S rfl rfl ?_; clear F a; intro a F
        refine wl_storeC (wn rfl) rfl F S rfl rfl (vs := [.int .i64 0, .int .i64 0]) rfl ts25 (one_cons rfl (one_cons rfl one_nil)) (k := 1) rfl (Nat.le_of_ble_eq_true rfl) (c' := #[.int .i64 0, .int .i64 0]) rfl rfl ?_; clear S; intro w S
        replace S : St g2 [c1, [(b1, .cells #[.int .i64 0, .int .i64 0] 25 (0, 0))]] fr w := S
        refine wpList_nil ?_
        replace F := F.sub (e' := [(2, v1), (3, .pointer (some ⟨b1, 0, Option.none⟩))]) ⟨rfl, rfl, trivial⟩
        refine then_n ?_
        refine wp_ret ?_
        obtain rfl := Option.some.inj hm
        obtain ⟨g3, l3, S, h2⟩ : ∃ gz, Le g2 gz ∧ St gz [[(b1, .cells #[.int .i64 0, .int .i64 0] 25 (0, 0))]] fr w ∧ RepSl gz x1 v1 := ⟨_, Le.add _ _, S.freeze 0 rfl, OwnS.freeze (S.front 0 rfl) h1⟩
        refine post_r (fn := Try.f10) (rs := [.tmp 2, .cell 3 25]) [v1, .agg #[.int .i64 0, .int .i64 0]] F rfl (ar_cons (resT rfl) (ar_cons (resA rfl tu25 rfl ts25 (box_ptr (cells := [.int .i64 0, .int .i64 0]) 0 rfl 0 rfl (Nat.le_of_ble_eq_true rfl) w S)) ar_nil)) ?_
        replace S : St g3 [] fr w := St.tail [] _ S
        exact ⟨_, rfl, g3, v1, ((l1.trans l2).trans l3), S, h2, rfl⟩

theorem changeforgeref1_At_ok {g : Gh} {fr : Hl} {w : World} {r : Fault} (code : Int) (index : Int) (S : St g [] fr w) (hm : changeforgeref1_At code index = some r) :
    Calls Try.prog 11 [.int .i64 code, .int .i64 index].toArray w (fun en w' => ∃ v, en = .returned v ∧ ∃ (g' : Gh), Le g g' ∧ St g' [] fr w' ∧ .agg #[.int .i64 r.Code, .int .i64 r.Index] = v) := by
  unfold changeforgeref1_At at hm
  refine calls_enter (fn := Try.f11) Try.func11 rfl Try.ntmps11 (Nat.le_of_ble_eq_true rfl) ?_
  intro a F
  replace F : Fr 8 a [(0, .int .i64 code), (1, .int .i64 index)] := F
  refine wp_seq ?_
  refine wp_region_lit ?_
  refine wl_alloc (wn rfl) rfl tz25 (cs := [.int .i64 0, .int .i64 0]) rfl F S rfl rfl ?_; clear F a S; rintro b1 a w F S
  refine wpList_nil ?_
  refine then_n ?_
  refine wp_seq ?_
  refine wp_region_lit ?_
  refine wl_ev (wn rfl) (ev_move rfl) F S rfl rfl ?_; clear F a; intro a F
  refine wl_ev (wn rfl) (ev_move rfl) F S rfl rfl ?_; clear F a; intro a F
  refine wl_ev (wn rfl) (ev_build (parts := [(0, .tmp 5), (1, .tmp 6)]) (vs := [(0, .int .i64 code), (1, .int .i64 index)]) rfl (fun w => tb25_0_1 code index w)) F S rfl rfl ?_; clear F a; intro a F
  refine wl_storeC (wn rfl) rfl F S rfl rfl (vs := [.int .i64 code, .int .i64 index]) rfl ts25 (one_cons rfl (one_cons rfl one_nil)) (k := 0) rfl (Nat.le_of_ble_eq_true rfl) (c' := #[.int .i64 code, .int .i64 index]) rfl rfl ?_; clear S; intro w S
  replace S : St g [[(b1, .cells #[.int .i64 code, .int .i64 index] 25 (0, 0))]] fr w := S
  refine wpList_nil ?_
  replace F := F.sub (e' := [(4, .pointer (some ⟨b1, 0, Option.none⟩))]) ⟨rfl, trivial⟩
  refine then_n ?_
  refine wp_ret ?_
  obtain rfl := Option.some.inj hm
  refine post_r (fn := Try.f11) (rs := [.cell 4 25]) [.agg #[.int .i64 code, .int .i64 index]] F rfl (ar_cons (resA rfl tu25 rfl ts25 (box_ptr (cells := [.int .i64 code, .int .i64 index]) 0 rfl 0 rfl (Nat.le_of_ble_eq_true rfl) w S)) ar_nil) ?_
  replace S : St g [] fr w := St.tail [] _ S
  exact ⟨_, rfl, g, (Le.refl _), S, rfl⟩
end Go.Dc
