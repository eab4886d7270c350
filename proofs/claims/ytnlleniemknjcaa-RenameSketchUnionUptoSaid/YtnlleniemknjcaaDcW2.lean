/- Walks: each function comes to what its model says. -/
import Derived.Test.YtnlleniemknjcaaDcTab
import Derived.Test.YtnlleniemknjcaaDcM
import Derived.Test.YtnlleniemknjcaaDcW1
namespace Go.Dc
open Go Go.Proofs
set_option maxRecDepth 100000
set_option linter.unusedVariables false
theorem changeforgeequal_Ints_ok {g : Gh} {fr : Hl} {w : World} {r : Bool} (a_ : (List Int)) (va_1 : Value) (ha_1 : RepSl g a_ va_1) (b_ : (List Int)) (vb_1 : Value) (hb_1 : RepSl g b_ vb_1) (S : St g [] fr w) (hm : changeforgeequal_Ints a_ b_ = some r) :
    Calls Try.prog 14 [va_1, vb_1].toArray w (fun en w' => ∃ v, en = .returned v ∧ ∃ (g' : Gh), Le g g' ∧ St g' [] fr w' ∧ .bool r = v) := by
  unfold changeforgeequal_Ints at hm
  refine calls_enter (fn := Try.f14) Try.func14 rfl Try.ntmps14 (Nat.le_of_ble_eq_true rfl) ?_
  intro a F
  replace F : Fr 26 a [(0, va_1), (1, vb_1)] := F
  refine wp_seq ?_
  refine wp_region_lit ?_
  refine wl_ev (wn rfl) (ev_assign rfl) F S rfl rfl ?_; clear F a; intro a F
  refine wpList_nil ?_
  replace F := F.sub (e' := [(0, va_1), (1, vb_1)]) ⟨rfl, rfl, trivial⟩
  refine then_n ?_
  refine wp_seq ?_
  refine wp_seq ?_
  refine wp_region_lit ?_
  refine wl_ev (wn rfl) (ev_move rfl) F S rfl rfl ?_; clear F a; intro a F
  refine wl_ev (wn rfl) (ev_lenSh ha_1 rfl tu23) F S rfl rfl ?_; clear F a; intro a F
  refine wl_ev (wn rfl) (ev_move rfl) F S rfl rfl ?_; clear F a; intro a F
  refine wl_ev (wn rfl) (ev_lenSh hb_1 rfl tu23) F S rfl rfl ?_; clear F a; intro a F
  refine wl_ev (wn rfl) (ev_int rfl rfl (bo_neq _ _ _ _)) F S rfl rfl ?_; clear F a; intro a F
  refine wpList_nil ?_
  replace F := F.sub (e' := [(10, .bool (!decide ((a_.length : Int) = (b_.length : Int)))), (0, va_1), (1, vb_1)]) ⟨rfl, rfl, rfl, trivial⟩
  refine then_n ?_
  obtain ⟨hc1, hm⟩ | ⟨hc1, hm⟩ := ite_or hm
  · refine wp_condT F rfl hc1 ?_
    refine wp_seq ?_
    refine wp_region_lit ?_
    refine wl_ev (wn rfl) (ev_assign rfl) F S rfl rfl ?_; clear F a; intro a F
    refine wpList_nil ?_
    replace F := F.sub (e' := [(4, .bool false)]) ⟨rfl, trivial⟩
    refine then_n ?_
    refine wp_ret ?_
    refine then_r ?_
    obtain rfl := Option.some.inj hm
    refine post_r (fn := Try.f14) (rs := [.tmp 4]) [.bool false] F rfl (ar_cons (resT rfl) ar_nil) ?_
    exact ⟨_, rfl, g, (Le.refl _), S, rfl⟩
  · refine wp_condF F rfl hc1 ?_
    refine wp_skip ?_
    refine then_n ?_
    refine wp_cut (fun a w => ∃ (g1 : Gh), Fr 26 a [] ∧ Le g g1 ∧ St g1 [] fr w ∧ changeforgeequal_Ints.j1 = some r) ?_ ?_
    · refine wp_seq ?_
      refine wp_region_lit ?_
      refine wl_ev (wn rfl) (ev_assign rfl) F S rfl rfl ?_; clear F a; intro a F
      refine wpList_nil ?_
      replace F := F.sub (e' := [(5, .int .i64 0), (0, va_1), (1, vb_1)]) ⟨rfl, rfl, rfl, trivial⟩
      refine then_n ?_
      refine wp_block ?_
      obtain ⟨r1, hr1, hm⟩ := bind_some hm
      have hmo1 := hm; clear hm
      refine wp_iter (σ := Int) (ρ := Bool ⊕ Unit) (m := fun s => changeforgeequal_Ints.l1 a_ b_ s) (I := fun x1 a w => ∃ (g2 : Gh), Fr 26 a [(5, .int .i64 x1), (0, va_1), (1, vb_1)] ∧ Le g g2 ∧ St g2 [] fr w) hr1 ?_ ?_
      · exact ⟨g, F.sub ⟨rfl, rfl, rfl, trivial⟩, (Le.refl _), S⟩
      · clear F S; rintro x1 a w x2 ⟨g2, F, l2, S⟩ hx1 hfin1
        have hm : changeforgeequal_Ints.l1 a_ b_ x1 = some x2 := hx1; clear hx1
        unfold changeforgeequal_Ints.l1 at hm
        refine wp_seq ?_
        refine wp_seq ?_
        refine wp_region_lit ?_
        refine wl_ev (wn rfl) (ev_move rfl) F S rfl rfl ?_; clear F a; intro a F
        refine wl_ev (wn rfl) (ev_move rfl) F S rfl rfl ?_; clear F a; intro a F
        refine wl_ev (wn rfl) (ev_lenSh ha_1 rfl tu23) F S rfl rfl ?_; clear F a; intro a F
        refine wl_ev (wn rfl) (ev_int rfl rfl (bo_lss _ _ _ _)) F S rfl rfl ?_; clear F a; intro a F
        refine wpList_nil ?_
        replace F := F.sub (e' := [(14, .bool (decide (x1 < (a_.length : Int)))), (5, .int .i64 x1), (0, va_1), (1, vb_1)]) ⟨rfl, rfl, rfl, rfl, trivial⟩
        refine then_n ?_
        obtain ⟨hc2, hm⟩ | ⟨hc2, hm⟩ := ite_or hm
        · refine wp_condT F rfl hc2 ?_
          refine wp_skip ?_
          refine then_n ?_
          refine wp_seq ?_
          refine wp_block ?_
          refine wp_seq ?_
          refine wp_quiet mo (by kernel_rfl) S ?_
          refine wq_ev (wn rfl) (ev_move rfl) F rfl rfl ?_; clear F a; intro a F
          refine wq_ev (wn rfl) (ev_move rfl) F rfl rfl ?_; clear F a; intro a F
          obtain ⟨y1, hy1, hm⟩ := bind_some hm
          obtain ⟨cs1, hr2, hp1⟩ := elemS (ha_1.mono l2) hy1
          obtain rfl := rep_int hr2
          refine wq_ev (wn rfl) (ev_idxS (ha_1.mono l2) hy1 tu23 ts3 rfl rfl) F rfl rfl ?_; clear F a; intro a F
          refine wq_ev (wn rfl) (ev_load1 tu3 rfl rfl (ptr_mono (cks := []) (fr := fr) hp1 (Le.refl _))) F rfl rfl ?_; clear F a; intro a F
          refine wq_ev (wn rfl) (ev_move rfl) F rfl rfl ?_; clear F a; intro a F
          refine wq_ev (wn rfl) (ev_move rfl) F rfl rfl ?_; clear F a; intro a F
          obtain ⟨y2, hy2, hm⟩ := bind_some hm
          obtain ⟨cs2, hr3, hp2⟩ := elemS (hb_1.mono l2) hy2
          obtain rfl := rep_int hr3
          refine wq_ev (wn rfl) (ev_idxS (hb_1.mono l2) hy2 tu23 ts3 rfl rfl) F rfl rfl ?_; clear F a; intro a F
          refine wq_ev (wn rfl) (ev_load1 tu3 rfl rfl (ptr_mono (cks := []) (fr := fr) hp2 (Le.refl _))) F rfl rfl ?_; clear F a; intro a F
          refine wq_ev (wn rfl) (ev_int rfl rfl (bo_neq _ _ _ _)) F rfl rfl ?_; clear F a; intro a F
          refine wq_nil ?_; clear S; intro w S
          replace F := F.sub (e' := [(25, .bool (!decide (y1 = y2))), (5, .int .i64 x1), (0, va_1), (1, vb_1)]) ⟨rfl, rfl, rfl, rfl, trivial⟩
          refine then_n ?_
          obtain ⟨hc3, hm⟩ | ⟨hc3, hm⟩ := ite_or hm
          · refine wp_condT F rfl hc3 ?_
            refine wp_seq ?_
            refine wp_region_lit ?_
            refine wl_ev (wn rfl) (ev_assign rfl) F S rfl rfl ?_; clear F a; intro a F
            refine wpList_nil ?_
            replace F := F.sub (e' := [(4, .bool false)]) ⟨rfl, trivial⟩
            refine then_n ?_
            refine wp_ret ?_
            refine inb_r ?_
            refine then_r ?_
            refine then_r ?_
            refine inb_r ?_
            refine then_r ?_
            obtain rfl := Option.some.inj hm
            obtain rfl := hfin1 _ rfl
            clear hm
            have hm : (some false : Option Bool) = some _ := hmo1
            obtain rfl := Option.some.inj hm
            refine post_r (fn := Try.f14) (rs := [.tmp 4]) [.bool false] F rfl (ar_cons (resT rfl) ar_nil) ?_
            exact ⟨_, rfl, g2, l2, S, rfl⟩
          · refine wp_condF F rfl hc3 ?_
            refine wp_skip ?_
            refine inb_n ?_
            refine then_n ?_
            refine wp_region_lit ?_
            refine wl_ev (wn rfl) (ev_move rfl) F S rfl rfl ?_; clear F a; intro a F
            obtain ⟨z1, hz1, hm⟩ := bind_some hm
            refine wl_ev (wn rfl) (ev_int rfl rfl (bo_add hz1)) F S rfl rfl ?_; clear F a; intro a F
            refine wl_ev (wn rfl) (ev_assign rfl) F S rfl rfl ?_; clear F a; intro a F
            refine wpList_nil ?_
            replace F := F.sub (e' := [(5, .int .i64 z1), (0, va_1), (1, vb_1)]) ⟨rfl, rfl, rfl, trivial⟩
            refine then_n ?_
            obtain rfl := Option.some.inj hm
            refine ⟨_, rfl, ?_⟩
            exact ⟨g2, F.sub ⟨rfl, rfl, rfl, trivial⟩, l2, S⟩
        · refine wp_condF F rfl hc2 ?_
          refine wp_exit ?_
          refine then_e ?_
          refine then_e ?_
          refine inb_x ?_
          refine then_n ?_
          obtain rfl := Option.some.inj hm
          obtain rfl := hfin1 _ rfl
          clear hm
          have hm : (changeforgeequal_Ints.j1 : Option Bool) = some _ := hmo1
          exact ⟨g2, F.sub trivial, l2, S, hm⟩
    · clear F S hm; rintro a w ⟨g1, F, l1, S, hm⟩
      refine wp_seq ?_
      refine wp_region_lit ?_
      refine wl_ev (wn rfl) (ev_assign rfl) F S rfl rfl ?_; clear F a; intro a F
      refine wpList_nil ?_
      refine then_n ?_
      refine wp_ret ?_
      obtain rfl := Option.some.inj hm
      refine post_r (fn := Try.f14) (rs := [.tmp 4]) [.bool true] F rfl (ar_cons (resT rfl) ar_nil) ?_
      exact ⟨_, rfl, g1, l1, S, rfl⟩

theorem changeforgelaw2_added_ok {g : Gh} {fr : Hl} {w : World} {r : Bool}  (S : St g [] fr w) (hm : changeforgelaw2_added = some r) :
    Calls Try.prog 12 [].toArray w (fun en w' => ∃ v, en = .returned v ∧ ∃ (g' : Gh), Le g g' ∧ St g' [] fr w' ∧ .bool r = v) := by
  unfold changeforgelaw2_added at hm
  refine calls_enter (fn := Try.f12) Try.func12 rfl Try.ntmps12 (Nat.le_of_ble_eq_true rfl) ?_
  intro a F
  replace F : Fr 18 a [] := F
  refine wp_seq ?_
  refine wp_region_lit ?_
  refine wl_ev (wn rfl) (ev_assign rfl) F S rfl rfl ?_; clear F a; intro a F
  refine wpList_nil ?_
  replace F := F.sub (e' := []) trivial
  refine then_n ?_
  refine wp_seq ?_
  refine wp_region_lit ?_
  refine wl_lit (l := ([(⟨#[97]⟩ : ByteArray)] : List ByteArray)) (vs := [.string (⟨#[97]⟩ : ByteArray)]) (parts := [(0, .const (.string (⟨#[97]⟩ : ByteArray)))]) (wn rfl) rfl rfl rfl tu31 te9 (sz_cons rfl sz_nil) rfl (Cat.cons (show Rep.rep _ (⟨#[97]⟩ : ByteArray) _ from rfl) (Cat.nil _)) (coa_cons rfl coa_nil) rfl F S rfl rfl ?_; clear F a S
  rintro v1 c1 a w h1 F S
  refine wl_lit (l := ([(⟨#[98]⟩ : ByteArray), (⟨#[97]⟩ : ByteArray)] : List ByteArray)) (vs := [.string (⟨#[98]⟩ : ByteArray), .string (⟨#[97]⟩ : ByteArray)]) (parts := [(0, .const (.string (⟨#[98]⟩ : ByteArray))), (1, .const (.string (⟨#[97]⟩ : ByteArray)))]) (wn rfl) rfl rfl rfl tu31 te9 (sz_cons rfl (sz_cons rfl sz_nil)) rfl (Cat.cons (show Rep.rep _ (⟨#[98]⟩ : ByteArray) _ from rfl) (Cat.cons (show Rep.rep _ (⟨#[97]⟩ : ByteArray) _ from rfl) (Cat.nil _))) (coa_cons rfl (coa_cons rfl coa_nil)) rfl F S rfl rfl ?_; clear F a S
  rintro v2 c2 a w h2 F S
  obtain ⟨g1, l1, S, h3⟩ : ∃ gz, Le g gz ∧ St gz [c2] fr w ∧ RepSl gz ([(⟨#[97]⟩ : ByteArray)] : List ByteArray) v1 := ⟨_, Le.add _ _, S.freeze 1 rfl, OwnS.freeze (S.front 1 rfl) h1⟩
  obtain ⟨g2, l2, S, h4⟩ : ∃ gz, Le g1 gz ∧ St gz [] fr w ∧ RepSl gz ([(⟨#[98]⟩ : ByteArray), (⟨#[97]⟩ : ByteArray)] : List ByteArray) v2 := ⟨_, Le.add _ _, S.freeze 0 rfl, OwnS.freeze (S.front 0 rfl) (h2.mono l1)⟩
  refine wl_lit (l := ([([(⟨#[97]⟩ : ByteArray)] : List ByteArray), ([(⟨#[98]⟩ : ByteArray), (⟨#[97]⟩ : ByteArray)] : List ByteArray)] : List (List ByteArray))) (vs := [v1, v2]) (parts := [(0, .tmp 4), (1, .tmp 5)]) (wn rfl) rfl rfl rfl tu22 te31 (sz_cons h3.csz (sz_cons h4.csz sz_nil)) rfl (Cat.cons ⟨_, rfl, (h3.mono l2)⟩ (Cat.cons ⟨_, rfl, h4⟩ (Cat.nil _))) (coa_cons h3.cl (coa_cons h4.cl coa_nil)) rfl F S rfl rfl ?_; clear F a S
  rintro v3 c3 a w h5 F S
  obtain ⟨g3, l3, S, h6⟩ : ∃ gz, Le g2 gz ∧ St gz [] fr w ∧ RepSl gz ([([(⟨#[97]⟩ : ByteArray)] : List ByteArray), ([(⟨#[98]⟩ : ByteArray), (⟨#[97]⟩ : ByteArray)] : List ByteArray)] : List (List ByteArray)) v3 := ⟨_, Le.add _ _, S.freeze 0 rfl, OwnS.freeze (S.front 0 rfl) h5⟩
  obtain ⟨y1, hy1, hm⟩ := bind_some hm
  refine wl_call (wn rfl) rfl (xs := [.tmp 6]) (vs := [v3]) (cap := []) F rfl rfl tc10 (blame_Annotate_ok (g := g3) (fr := fr) (w := w) ([([(⟨#[97]⟩ : ByteArray)] : List ByteArray), ([(⟨#[98]⟩ : ByteArray), (⟨#[97]⟩ : ByteArray)] : List ByteArray)] : List (List ByteArray)) v3 h6 S hy1) rfl rfl ?_; clear F a S
  rintro _ a w ⟨g4, v4, l4, S, h7, rfl⟩ F; replace S : St g4 [] fr w := S
  refine wl_ev (wn rfl) (ev_move rfl) F S rfl rfl ?_; clear F a; intro a F
  refine wl_ev (wn rfl) (ev_extract (vs := [v4, .agg #[.int .i64 y1.2.Code, .int .i64 y1.2.Index]]) rfl rfl) F S rfl rfl ?_; clear F a; intro a F
  refine wl_ev (wn rfl) (ev_extract (vs := [v4, .agg #[.int .i64 y1.2.Code, .int .i64 y1.2.Index]]) rfl rfl) F S rfl rfl ?_; clear F a; intro a F
  refine wl_alloc (wn rfl) rfl tz25 (cs := [.int .i64 0, .int .i64 0]) rfl F S rfl rfl ?_; clear F a S; rintro b1 a w F S
  refine wl_ev (wn rfl) (ev_assign rfl) F S rfl rfl ?_; clear F a; intro a F
  refine wl_storeC (wn rfl) rfl F S rfl rfl (vs := [.int .i64 y1.2.Code, .int .i64 y1.2.Index]) rfl ts25 (one_cons rfl (one_cons rfl one_nil)) (k := 0) rfl (Nat.le_of_ble_eq_true rfl) (c' := #[.int .i64 y1.2.Code, .int .i64 y1.2.Index]) rfl rfl ?_; clear S; intro w S
  replace S : St g4 [[(b1, .cells #[.int .i64 y1.2.Code, .int .i64 y1.2.Index] 25 (0, 0))]] fr w := S
  refine wpList_nil ?_
  replace F := F.sub (e' := [(1, v4), (2, .pointer (some ⟨b1, 0, Option.none⟩))]) ⟨rfl, rfl, trivial⟩
  refine then_n ?_
  refine wp_seq ?_
  refine wp_region_lit ?_
  refine wl_ev (wn rfl) (ev_fieldAddr' tu25 tf25_0 (z := 0) ts3 rfl ⟨_, rfl⟩ rfl) F S rfl rfl ?_; clear F a; intro a F
  refine wl_ev (wn rfl) (ev_load1 tu3 rfl rfl (box_ptr (cells := [.int .i64 y1.2.Code]) 0 rfl 0 rfl (Nat.le_of_ble_eq_true rfl))) F S rfl rfl ?_; clear F a; intro a F
  refine wl_ev (wn rfl) (ev_int rfl rfl (bo_eql _ _ _ _)) F S rfl rfl ?_; clear F a; intro a F
  refine wl_ev (wn rfl) (ev_move rfl) F S rfl rfl ?_; clear F a; intro a F
  obtain ⟨x1, hx1, hm⟩ := bind_some hm
  refine wl_cut 4 (fun a w => ∃ g5, Fr 18 a [(17, .bool x1)] ∧ Le g4 g5 ∧ St g5 [[(b1, .cells #[.int .i64 y1.2.Code, .int .i64 y1.2.Index] 25 (0, 0))]] fr w) ?_ ?_
  · clear hm; obtain ⟨hc1, hm⟩ | ⟨hc1, hm⟩ := ite_or hx1
    · refine wl_ev (wg F rfl rfl rfl rfl hc1) (ev_move rfl) F S rfl rfl ?_; clear F a; intro a F
      refine wl_lit (l := ([1, 0] : List Int)) (vs := [.int .i64 1, .int .i64 0]) (parts := [(0, .const (.int .i64 1)), (1, .const (.int .i64 0))]) (wg F rfl rfl rfl rfl hc1) rfl rfl rfl tu23 te3 (sz_cons rfl (sz_cons rfl sz_nil)) rfl (Cat.cons (show Rep.rep _ 1 _ from rfl) (Cat.cons (show Rep.rep _ 0 _ from rfl) (Cat.nil _))) (coa_cons rfl (coa_cons rfl coa_nil)) rfl F S rfl rfl ?_; clear F a S
      rintro v5 c4 a w h8 F S
      obtain ⟨g6, l6, S, h9⟩ : ∃ gz, Le g4 gz ∧ St gz [[(b1, .cells #[.int .i64 y1.2.Code, .int .i64 y1.2.Index] 25 (0, 0))]] fr w ∧ RepSl gz ([1, 0] : List Int) v5 := ⟨_, Le.add _ _, S.freeze 0 rfl, OwnS.freeze (S.front 0 rfl) h8⟩
      obtain ⟨y2, hy2, hm⟩ := bind_some hm
      refine wl_call (wg F rfl rfl rfl rfl hc1) rfl (xs := [.tmp 14, .tmp 15]) (vs := [v4, v5]) (cap := []) F rfl rfl tc14 (changeforgeequal_Ints_ok (g := g6) (fr := (fl [[(b1, .cells #[.int .i64 y1.2.Code, .int .i64 y1.2.Index] 25 (0, 0))]] fr)) (w := w) y1.1 v4 (h7.mono l6) ([1, 0] : List Int) v5 h9 S hy2) rfl rfl ?_; clear F a S
      rintro _ a w ⟨g7, l7, S, rfl⟩ F; replace S : St g7 [[(b1, .cells #[.int .i64 y1.2.Code, .int .i64 y1.2.Index] 25 (0, 0))]] fr w := S
      refine wl_ev (wn rfl) (ev_pickT rfl hc1 rfl) F S rfl rfl ?_; clear F a; intro a F
      obtain rfl := Option.some.inj hm
      refine wpList_nil (then_n ?_); exact ⟨g7, F.sub ⟨rfl, trivial⟩, (l6.trans l7), S⟩
    · refine wl_skip rfl rfl rfl rfl (ne_tf hc1) F rfl rfl ?_; clear F a; intro a F
      refine wl_skip rfl rfl rfl rfl (ne_tf hc1) F rfl rfl ?_; clear F a; intro a F
      refine wl_skip rfl rfl rfl rfl (ne_tf hc1) F rfl rfl ?_; clear F a; intro a F
      refine wl_ev (wn rfl) (ev_pickF rfl hc1 rfl) F S rfl rfl ?_; clear F a; intro a F
      obtain rfl := Option.some.inj hm
      refine wpList_nil (then_n ?_); exact ⟨g4, F.sub ⟨rfl, trivial⟩, (Le.refl _), S⟩
  clear F S; rintro a w ⟨g5, F, l5, S⟩
  refine wl_ev (wn rfl) (ev_assign rfl) F S rfl rfl ?_; clear F a; intro a F
  refine wpList_nil ?_
  replace F := F.sub (e' := [(0, .bool x1)]) ⟨rfl, trivial⟩
  refine then_n ?_
  refine wp_ret ?_
  obtain rfl := Option.some.inj hm
  refine post_r (fn := Try.f12) (rs := [.tmp 0]) [.bool x1] F rfl (ar_cons (resT rfl) ar_nil) ?_
  replace S : St g5 [] fr w := St.tail [] _ S
  exact ⟨_, rfl, g5, ((((l1.trans l2).trans l3).trans l4).trans l5), S, rfl⟩

theorem changeforgeref1_LinesFault_ok {g : Gh} {fr : Hl} {w : World} {r : Fault} (l_ : (List ByteArray)) (vl_1 : Value) (hl_1 : RepSl g l_ vl_1) (S : St g [] fr w) (hm : changeforgeref1_LinesFault l_ = some r) :
    Calls Try.prog 25 [vl_1].toArray w (fun en w' => ∃ v, en = .returned v ∧ ∃ (g' : Gh), Le g g' ∧ St g' [] fr w' ∧ .agg #[.int .i64 r.Code, .int .i64 r.Index] = v) := by
  unfold changeforgeref1_LinesFault at hm
  refine calls_enter (fn := Try.f25) Try.func25 rfl Try.ntmps25 (Nat.le_of_ble_eq_true rfl) ?_
  intro a F
  replace F : Fr 42 a [(0, vl_1)] := F
  refine wp_seq ?_
  refine wp_region_lit ?_
  refine wl_alloc (wn rfl) rfl tz25 (cs := [.int .i64 0, .int .i64 0]) rfl F S rfl rfl ?_; clear F a S; rintro b1 a w F S
  refine wpList_nil ?_
  refine then_n ?_
  refine wp_seq ?_
  refine wp_seq ?_
  refine wp_region_lit ?_
  refine wl_ev (wn rfl) (ev_move rfl) F S rfl rfl ?_; clear F a; intro a F
  refine wl_ev (wn rfl) (ev_lenSh hl_1 rfl tu31) F S rfl rfl ?_; clear F a; intro a F
  refine wl_ev (wn rfl) (ev_int rfl rfl (bo_gtr _ _ _ _)) F S rfl rfl ?_; clear F a; intro a F
  refine wpList_nil ?_
  replace F := F.sub (e' := [(7, .bool (decide ((l_.length : Int) > 120))), (2, .pointer (some ⟨b1, 0, Option.none⟩)), (0, vl_1)]) ⟨rfl, rfl, rfl, trivial⟩
  refine then_n ?_
  obtain ⟨hc1, hm⟩ | ⟨hc1, hm⟩ := ite_or hm
  · refine wp_condT F rfl hc1 ?_
    refine wp_seq ?_
    refine wp_region_lit ?_
    obtain ⟨y1, hy1, hm⟩ := bind_some hm
    refine wl_call (wn rfl) rfl (xs := [.const (.int .i64 2), .const (.int .i64 (-1))]) (vs := [.int .i64 2, .int .i64 (-1)]) (cap := []) F rfl rfl tc11 (changeforgeref1_At_ok (g := g) (fr := (fl [[(b1, .cells #[.int .i64 0, .int .i64 0] 25 (0, 0))]] fr)) (w := w) 2 (-1) S hy1) rfl rfl ?_; clear F a S
    rintro _ a w ⟨g1, l1, S, rfl⟩ F; replace S : St g1 [[(b1, .cells #[.int .i64 0, .int .i64 0] 25 (0, 0))]] fr w := S
    refine wl_storeC (wn rfl) rfl F S rfl rfl (vs := [.int .i64 y1.Code, .int .i64 y1.Index]) rfl ts25 (one_cons rfl (one_cons rfl one_nil)) (k := 0) rfl (Nat.le_of_ble_eq_true rfl) (c' := #[.int .i64 y1.Code, .int .i64 y1.Index]) rfl rfl ?_; clear S; intro w S
    replace S : St g1 [[(b1, .cells #[.int .i64 y1.Code, .int .i64 y1.Index] 25 (0, 0))]] fr w := S
    refine wpList_nil ?_
    replace F := F.sub (e' := [(2, .pointer (some ⟨b1, 0, Option.none⟩))]) ⟨rfl, trivial⟩
    refine then_n ?_
    refine wp_ret ?_
    refine then_r ?_
    obtain rfl := Option.some.inj hm
    refine post_r (fn := Try.f25) (rs := [.cell 2 25]) [.agg #[.int .i64 y1.Code, .int .i64 y1.Index]] F rfl (ar_cons (resA rfl tu25 rfl ts25 (box_ptr (cells := [.int .i64 y1.Code, .int .i64 y1.Index]) 0 rfl 0 rfl (Nat.le_of_ble_eq_true rfl) w S)) ar_nil) ?_
    replace S : St g1 [] fr w := St.tail [] _ S
    exact ⟨_, rfl, g1, l1, S, rfl⟩
  · refine wp_condF F rfl hc1 ?_
    refine wp_skip ?_
    refine then_n ?_
    refine wp_cut (fun a w => ∃ (g2 : Gh), Fr 42 a [(2, .pointer (some ⟨b1, 0, Option.none⟩))] ∧ Le g g2 ∧ St g2 [[(b1, .cells #[.int .i64 0, .int .i64 0] 25 (0, 0))]] fr w ∧ changeforgeref1_LinesFault.j1 = some r) ?_ ?_
    · refine wp_seq ?_
      refine wp_region_lit ?_
      refine wl_ev (wn rfl) (ev_assign rfl) F S rfl rfl ?_; clear F a; intro a F
      refine wpList_nil ?_
      replace F := F.sub (e' := [(3, .int .i64 0), (2, .pointer (some ⟨b1, 0, Option.none⟩)), (0, vl_1)]) ⟨rfl, rfl, rfl, trivial⟩
      refine then_n ?_
      refine wp_block ?_
      obtain ⟨r1, hr1, hm⟩ := bind_some hm
      have hmo1 := hm; clear hm
      refine wp_iter (σ := Int) (ρ := Fault ⊕ Unit) (m := fun s => changeforgeref1_LinesFault.l1 l_ s) (I := fun x1 a w => ∃ (g3 : Gh), Fr 42 a [(3, .int .i64 x1), (2, .pointer (some ⟨b1, 0, Option.none⟩)), (0, vl_1)] ∧ Le g g3 ∧ St g3 [[(b1, .cells #[.int .i64 0, .int .i64 0] 25 (0, 0))]] fr w) hr1 ?_ ?_
      · exact ⟨g, F.sub ⟨rfl, rfl, rfl, trivial⟩, (Le.refl _), S⟩
      · clear F S; rintro x1 a w x2 ⟨g3, F, l3, S⟩ hx1 hfin1
        have hm : changeforgeref1_LinesFault.l1 l_ x1 = some x2 := hx1; clear hx1
        unfold changeforgeref1_LinesFault.l1 at hm
        refine wp_seq ?_
        refine wp_seq ?_
        refine wp_region_lit ?_
        refine wl_ev (wn rfl) (ev_move rfl) F S rfl rfl ?_; clear F a; intro a F
        refine wl_ev (wn rfl) (ev_move rfl) F S rfl rfl ?_; clear F a; intro a F
        refine wl_ev (wn rfl) (ev_lenSh hl_1 rfl tu31) F S rfl rfl ?_; clear F a; intro a F
        refine wl_ev (wn rfl) (ev_int rfl rfl (bo_lss _ _ _ _)) F S rfl rfl ?_; clear F a; intro a F
        refine wpList_nil ?_
        replace F := F.sub (e' := [(12, .bool (decide (x1 < (l_.length : Int)))), (3, .int .i64 x1), (2, .pointer (some ⟨b1, 0, Option.none⟩)), (0, vl_1)]) ⟨rfl, rfl, rfl, rfl, trivial⟩
        refine then_n ?_
        obtain ⟨hc2, hm⟩ | ⟨hc2, hm⟩ := ite_or hm
        · refine wp_condT F rfl hc2 ?_
          refine wp_skip ?_
          refine then_n ?_
          refine wp_cut (fun a w => ∃ (g4 : Gh), Fr 42 a [(3, .int .i64 x1), (2, .pointer (some ⟨b1, 0, Option.none⟩)), (0, vl_1)] ∧ Le g3 g4 ∧ St g4 [[(b1, .cells #[.int .i64 0, .int .i64 0] 25 (0, 0))]] fr w ∧ changeforgeref1_LinesFault.j2 x1 = some x2) ?_ ?_
          · refine wp_block ?_
            refine wp_seq ?_
            refine wp_seq ?_
            refine wp_region_lit ?_
            refine wl_ev (wn rfl) (ev_move rfl) F S rfl rfl ?_; clear F a; intro a F
            refine wl_ev (wn rfl) (ev_move rfl) F S rfl rfl ?_; clear F a; intro a F
            obtain ⟨y2, hy2, hm⟩ := bind_some hm
            obtain ⟨cs1, hr2, hp1⟩ := elemS (hl_1.mono l3) hy2
            obtain rfl := rep_str hr2
            refine wl_ev (wn rfl) (ev_idxS (hl_1.mono l3) hy2 tu31 ts9 rfl rfl) F S rfl rfl ?_; clear F a; intro a F
            refine wl_ev (wn rfl) (ev_load1 tu9 rfl rfl (ptr_mono (cks := [[(b1, .cells #[.int .i64 0, .int .i64 0] 25 (0, 0))]]) (fr := fr) hp1 (Le.refl _))) F S rfl rfl ?_; clear F a; intro a F
            refine wl_ev (wn rfl) (ev_lenS rfl tu9) F S rfl rfl ?_; clear F a; intro a F
            refine wl_ev (wn rfl) (ev_int rfl rfl (bo_gtr _ _ _ _)) F S rfl rfl ?_; clear F a; intro a F
            refine wpList_nil ?_
            replace F := F.sub (e' := [(20, .bool (decide ((y2.size : Int) > 80))), (3, .int .i64 x1), (2, .pointer (some ⟨b1, 0, Option.none⟩)), (0, vl_1)]) ⟨rfl, rfl, rfl, rfl, trivial⟩
            refine then_n ?_
            obtain ⟨hc3, hm⟩ | ⟨hc3, hm⟩ := ite_or hm
            · refine wp_condT F rfl hc3 ?_
              refine wp_seq ?_
              refine wp_region_lit ?_
              refine wl_ev (wn rfl) (ev_move rfl) F S rfl rfl ?_; clear F a; intro a F
              obtain ⟨y3, hy3, hm⟩ := bind_some hm
              refine wl_call (wn rfl) rfl (xs := [.const (.int .i64 2), .tmp 21]) (vs := [.int .i64 2, .int .i64 x1]) (cap := []) F rfl rfl tc11 (changeforgeref1_At_ok (g := g3) (fr := (fl [[(b1, .cells #[.int .i64 0, .int .i64 0] 25 (0, 0))]] fr)) (w := w) 2 x1 S hy3) rfl rfl ?_; clear F a S
              rintro _ a w ⟨g5, l5, S, rfl⟩ F; replace S : St g5 [[(b1, .cells #[.int .i64 0, .int .i64 0] 25 (0, 0))]] fr w := S
              refine wl_storeC (wn rfl) rfl F S rfl rfl (vs := [.int .i64 y3.Code, .int .i64 y3.Index]) rfl ts25 (one_cons rfl (one_cons rfl one_nil)) (k := 0) rfl (Nat.le_of_ble_eq_true rfl) (c' := #[.int .i64 y3.Code, .int .i64 y3.Index]) rfl rfl ?_; clear S; intro w S
              replace S : St g5 [[(b1, .cells #[.int .i64 y3.Code, .int .i64 y3.Index] 25 (0, 0))]] fr w := S
              refine wpList_nil ?_
              replace F := F.sub (e' := [(2, .pointer (some ⟨b1, 0, Option.none⟩))]) ⟨rfl, trivial⟩
              refine then_n ?_
              refine wp_ret ?_
              refine then_r ?_
              refine inb_r ?_
              refine then_r ?_
              refine then_r ?_
              refine inb_r ?_
              refine then_r ?_
              obtain rfl := Option.some.inj hm
              obtain rfl := hfin1 _ rfl
              clear hm
              have hm : (some y3 : Option Fault) = some _ := hmo1
              obtain rfl := Option.some.inj hm
              refine post_r (fn := Try.f25) (rs := [.cell 2 25]) [.agg #[.int .i64 y3.Code, .int .i64 y3.Index]] F rfl (ar_cons (resA rfl tu25 rfl ts25 (box_ptr (cells := [.int .i64 y3.Code, .int .i64 y3.Index]) 0 rfl 0 rfl (Nat.le_of_ble_eq_true rfl) w S)) ar_nil) ?_
              replace S : St g5 [] fr w := St.tail [] _ S
              exact ⟨_, rfl, g5, (l3.trans l5), S, rfl⟩
            · refine wp_condF F rfl hc3 ?_
              refine wp_skip ?_
              refine then_n ?_
              refine wp_seq ?_
              refine wp_region_lit ?_
              refine wl_ev (wn rfl) (ev_assign rfl) F S rfl rfl ?_; clear F a; intro a F
              refine wpList_nil ?_
              replace F := F.sub (e' := [(4, .int .i64 0), (3, .int .i64 x1), (2, .pointer (some ⟨b1, 0, Option.none⟩)), (0, vl_1)]) ⟨rfl, rfl, rfl, rfl, trivial⟩
              refine then_n ?_
              refine wp_cut1 (fun a w => ∃ (g6 : Gh), Fr 42 a [(3, .int .i64 x1), (2, .pointer (some ⟨b1, 0, Option.none⟩)), (0, vl_1)] ∧ Le g3 g6 ∧ St g6 [[(b1, .cells #[.int .i64 0, .int .i64 0] 25 (0, 0))]] fr w ∧ changeforgeref1_LinesFault.j3 x1 = some x2) ?_ ?_
              · refine wp_block ?_
                obtain ⟨r2, hr3, hm⟩ := bind_some hm
                have hmo2 := hm; clear hm
                refine wp_iter (σ := Int) (ρ := Fault ⊕ Unit) (m := fun s => changeforgeref1_LinesFault.l2 l_ x1 s) (I := fun x3 a w => ∃ (g7 : Gh), Fr 42 a [(4, .int .i64 x3), (3, .int .i64 x1), (2, .pointer (some ⟨b1, 0, Option.none⟩)), (0, vl_1)] ∧ Le g3 g7 ∧ St g7 [[(b1, .cells #[.int .i64 0, .int .i64 0] 25 (0, 0))]] fr w) hr3 ?_ ?_
                · exact ⟨g3, F.sub ⟨rfl, rfl, rfl, rfl, trivial⟩, (Le.refl _), S⟩
                · clear F S; rintro x3 a w x4 ⟨g7, F, l7, S⟩ hx2 hfin2
                  have hm : changeforgeref1_LinesFault.l2 l_ x1 x3 = some x4 := hx2; clear hx2
                  unfold changeforgeref1_LinesFault.l2 at hm
                  refine wp_seq ?_
                  refine wp_seq ?_
                  refine wp_region_lit ?_
                  refine wl_ev (wn rfl) (ev_move rfl) F S rfl rfl ?_; clear F a; intro a F
                  refine wl_ev (wn rfl) (ev_move rfl) F S rfl rfl ?_; clear F a; intro a F
                  refine wl_ev (wn rfl) (ev_move rfl) F S rfl rfl ?_; clear F a; intro a F
                  obtain ⟨y4, hy4, hm⟩ := bind_some hm
                  obtain ⟨cs2, hr4, hp2⟩ := elemS (hl_1.mono (l3.trans l7)) hy4
                  obtain rfl := rep_str hr4
                  refine wl_ev (wn rfl) (ev_idxS (hl_1.mono (l3.trans l7)) hy4 tu31 ts9 rfl rfl) F S rfl rfl ?_; clear F a; intro a F
                  refine wl_ev (wn rfl) (ev_load1 tu9 rfl rfl (ptr_mono (cks := [[(b1, .cells #[.int .i64 0, .int .i64 0] 25 (0, 0))]]) (fr := fr) hp2 (Le.refl _))) F S rfl rfl ?_; clear F a; intro a F
                  refine wl_ev (wn rfl) (ev_lenS rfl tu9) F S rfl rfl ?_; clear F a; intro a F
                  refine wl_ev (wn rfl) (ev_int rfl rfl (bo_lss _ _ _ _)) F S rfl rfl ?_; clear F a; intro a F
                  refine wpList_nil ?_
                  replace F := F.sub (e' := [(29, .bool (decide (x3 < (y4.size : Int)))), (4, .int .i64 x3), (3, .int .i64 x1), (2, .pointer (some ⟨b1, 0, Option.none⟩)), (0, vl_1)]) ⟨rfl, rfl, rfl, rfl, rfl, trivial⟩
                  refine then_n ?_
                  obtain ⟨hc4, hm⟩ | ⟨hc4, hm⟩ := ite_or hm
                  · refine wp_condT F rfl hc4 ?_
                    refine wp_skip ?_
                    refine then_n ?_
                    refine wp_seq ?_
                    refine wp_block ?_
                    refine wp_seq ?_
                    refine wp_region_lit ?_
                    refine wl_ev (wn rfl) (ev_move rfl) F S rfl rfl ?_; clear F a; intro a F
                    refine wl_ev (wn rfl) (ev_move rfl) F S rfl rfl ?_; clear F a; intro a F
                    obtain ⟨y5, hy5, hm⟩ := bind_some hm
                    obtain ⟨cs3, hr5, hp3⟩ := elemS (hl_1.mono (l3.trans l7)) hy5
                    obtain rfl := rep_str hr5
                    refine wl_ev (wn rfl) (ev_idxS (hl_1.mono (l3.trans l7)) hy5 tu31 ts9 rfl rfl) F S rfl rfl ?_; clear F a; intro a F
                    refine wl_ev (wn rfl) (ev_load1 tu9 rfl rfl (ptr_mono (cks := [[(b1, .cells #[.int .i64 0, .int .i64 0] 25 (0, 0))]]) (fr := fr) hp3 (Le.refl _))) F S rfl rfl ?_; clear F a; intro a F
                    refine wl_ev (wn rfl) (ev_move rfl) F S rfl rfl ?_; clear F a; intro a F
                    obtain ⟨y6, hy6, hm⟩ := bind_some hm
                    refine wl_ev (wn rfl) (ev_sAt hy6 tu9 rfl rfl) F S rfl rfl ?_; clear F a; intro a F
                    refine wl_ev (wn rfl) (ev_int rfl rfl (bo_eql _ _ _ _)) F S rfl rfl ?_; clear F a; intro a F
                    refine wpList_nil ?_
                    replace F := F.sub (e' := [(38, .bool (decide (y6 = 10))), (4, .int .i64 x3), (3, .int .i64 x1), (2, .pointer (some ⟨b1, 0, Option.none⟩)), (0, vl_1)]) ⟨rfl, rfl, rfl, rfl, rfl, trivial⟩
                    refine then_n ?_
                    obtain ⟨hc5, hm⟩ | ⟨hc5, hm⟩ := ite_or hm
                    · refine wp_condT F rfl hc5 ?_
                      refine wp_seq ?_
                      refine wp_region_lit ?_
                      refine wl_ev (wn rfl) (ev_move rfl) F S rfl rfl ?_; clear F a; intro a F
                      obtain ⟨y7, hy7, hm⟩ := bind_some hm
                      refine wl_call (wn rfl) rfl (xs := [.const (.int .i64 5), .tmp 39]) (vs := [.int .i64 5, .int .i64 x1]) (cap := []) F rfl rfl tc11 (changeforgeref1_At_ok (g := g7) (fr := (fl [[(b1, .cells #[.int .i64 0, .int .i64 0] 25 (0, 0))]] fr)) (w := w) 5 x1 S hy7) rfl rfl ?_; clear F a S
                      rintro _ a w ⟨g8, l8, S, rfl⟩ F; replace S : St g8 [[(b1, .cells #[.int .i64 0, .int .i64 0] 25 (0, 0))]] fr w := S
                      refine wl_storeC (wn rfl) rfl F S rfl rfl (vs := [.int .i64 y7.Code, .int .i64 y7.Index]) rfl ts25 (one_cons rfl (one_cons rfl one_nil)) (k := 0) rfl (Nat.le_of_ble_eq_true rfl) (c' := #[.int .i64 y7.Code, .int .i64 y7.Index]) rfl rfl ?_; clear S; intro w S
                      replace S : St g8 [[(b1, .cells #[.int .i64 y7.Code, .int .i64 y7.Index] 25 (0, 0))]] fr w := S
                      refine wpList_nil ?_
                      replace F := F.sub (e' := [(2, .pointer (some ⟨b1, 0, Option.none⟩))]) ⟨rfl, trivial⟩
                      refine then_n ?_
                      refine wp_ret ?_
                      refine inb_r ?_
                      refine then_r ?_
                      refine then_r ?_
                      refine inb_r ?_
                      refine then_r ?_
                      refine inb_r ?_
                      refine then_r ?_
                      refine then_r ?_
                      refine inb_r ?_
                      refine then_r ?_
                      obtain rfl := Option.some.inj hm
                      obtain rfl := hfin2 _ rfl
                      clear hm
                      have hm : (some (Step.done (Sum.inl y7)) : Option (Step Int (Fault ⊕ Unit))) = some _ := hmo2
                      obtain rfl := Option.some.inj hm
                      obtain rfl := hfin1 _ rfl
                      clear hm
                      have hm : (some y7 : Option Fault) = some _ := hmo1
                      obtain rfl := Option.some.inj hm
                      refine post_r (fn := Try.f25) (rs := [.cell 2 25]) [.agg #[.int .i64 y7.Code, .int .i64 y7.Index]] F rfl (ar_cons (resA rfl tu25 rfl ts25 (box_ptr (cells := [.int .i64 y7.Code, .int .i64 y7.Index]) 0 rfl 0 rfl (Nat.le_of_ble_eq_true rfl) w S)) ar_nil) ?_
                      replace S : St g8 [] fr w := St.tail [] _ S
                      exact ⟨_, rfl, g8, ((l3.trans l7).trans l8), S, rfl⟩
                    · refine wp_condF F rfl hc5 ?_
                      refine wp_skip ?_
                      refine inb_n ?_
                      refine then_n ?_
                      refine wp_region_lit ?_
                      refine wl_ev (wn rfl) (ev_move rfl) F S rfl rfl ?_; clear F a; intro a F
                      obtain ⟨z2, hz2, hm⟩ := bind_some hm
                      refine wl_ev (wn rfl) (ev_int rfl rfl (bo_add hz2)) F S rfl rfl ?_; clear F a; intro a F
                      refine wl_ev (wn rfl) (ev_assign rfl) F S rfl rfl ?_; clear F a; intro a F
                      refine wpList_nil ?_
                      replace F := F.sub (e' := [(4, .int .i64 z2), (3, .int .i64 x1), (2, .pointer (some ⟨b1, 0, Option.none⟩)), (0, vl_1)]) ⟨rfl, rfl, rfl, rfl, trivial⟩
                      refine then_n ?_
                      obtain rfl := Option.some.inj hm
                      refine ⟨_, rfl, ?_⟩
                      exact ⟨g7, F.sub ⟨rfl, rfl, rfl, rfl, trivial⟩, l7, S⟩
                  · refine wp_condF F rfl hc4 ?_
                    refine wp_exit ?_
                    refine then_e ?_
                    refine then_e ?_
                    refine inb_x ?_
                    refine then_n ?_
                    obtain rfl := Option.some.inj hm
                    obtain rfl := hfin2 _ rfl
                    clear hm
                    have hm : (changeforgeref1_LinesFault.j3 x1 : Option (Step Int (Fault ⊕ Unit))) = some _ := hmo2
                    exact ⟨g7, F.sub ⟨rfl, rfl, rfl, trivial⟩, l7, S, hm⟩
              · clear F S hm; rintro a w ⟨g6, F, l6, S, hm⟩
                refine inb_n ?_
                refine then_n ?_
                exact ⟨g6, F.sub ⟨rfl, rfl, rfl, trivial⟩, l6, S, hm⟩
          · clear F S hm; rintro a w ⟨g4, F, l4, S, hm⟩
            refine wp_region_lit ?_
            refine wl_ev (wn rfl) (ev_move rfl) F S rfl rfl ?_; clear F a; intro a F
            obtain ⟨z1, hz1, hm⟩ := bind_some hm
            refine wl_ev (wn rfl) (ev_int rfl rfl (bo_add hz1)) F S rfl rfl ?_; clear F a; intro a F
            refine wl_ev (wn rfl) (ev_assign rfl) F S rfl rfl ?_; clear F a; intro a F
            refine wpList_nil ?_
            replace F := F.sub (e' := [(3, .int .i64 z1), (2, .pointer (some ⟨b1, 0, Option.none⟩)), (0, vl_1)]) ⟨rfl, rfl, rfl, trivial⟩
            refine then_n ?_
            obtain rfl := Option.some.inj hm
            refine ⟨_, rfl, ?_⟩
            exact ⟨g4, F.sub ⟨rfl, rfl, rfl, trivial⟩, (l3.trans l4), S⟩
        · refine wp_condF F rfl hc2 ?_
          refine wp_exit ?_
          refine then_e ?_
          refine then_e ?_
          refine inb_x ?_
          refine then_n ?_
          obtain rfl := Option.some.inj hm
          obtain rfl := hfin1 _ rfl
          clear hm
          have hm : (changeforgeref1_LinesFault.j1 : Option Fault) = some _ := hmo1
          exact ⟨g3, F.sub ⟨rfl, trivial⟩, l3, S, hm⟩
    · clear F S hm; rintro a w ⟨g2, F, l2, S, hm⟩
      refine wp_seq ?_
      refine wp_region_lit ?_
      refine wl_ev (wn rfl) (ev_build (parts := []) (vs := []) rfl (fun w => tb25_  w)) F S rfl rfl ?_; clear F a; intro a F
      refine wl_storeC (wn rfl) rfl F S rfl rfl (vs := [.int .i64 0, .int .i64 0]) rfl ts25 (one_cons rfl (one_cons rfl one_nil)) (k := 0) rfl (Nat.le_of_ble_eq_true rfl) (c' := #[.int .i64 0, .int .i64 0]) rfl rfl ?_; clear S; intro w S
      replace S : St g2 [[(b1, .cells #[.int .i64 0, .int .i64 0] 25 (0, 0))]] fr w := S
      refine wpList_nil ?_
      replace F := F.sub (e' := [(2, .pointer (some ⟨b1, 0, Option.none⟩))]) ⟨rfl, trivial⟩
      refine then_n ?_
      refine wp_ret ?_
      obtain rfl := Option.some.inj hm
      refine post_r (fn := Try.f25) (rs := [.cell 2 25]) [.agg #[.int .i64 0, .int .i64 0]] F rfl (ar_cons (resA rfl tu25 rfl ts25 (box_ptr (cells := [.int .i64 0, .int .i64 0]) 0 rfl 0 rfl (Nat.le_of_ble_eq_true rfl) w S)) ar_nil) ?_
      replace S : St g2 [] fr w := St.tail [] _ S
      exact ⟨_, rfl, g2, l2, S, rfl⟩

theorem changeforgeref1_LinesCode_ok {g : Gh} {fr : Hl} {w : World} {r : Int} (l_ : (List ByteArray)) (vl_1 : Value) (hl_1 : RepSl g l_ vl_1) (S : St g [] fr w) (hm : changeforgeref1_LinesCode l_ = some r) :
    Calls Try.prog 13 [vl_1].toArray w (fun en w' => ∃ v, en = .returned v ∧ ∃ (g' : Gh), Le g g' ∧ St g' [] fr w' ∧ .int .i64 r = v) := by
  unfold changeforgeref1_LinesCode at hm
  refine calls_enter (fn := Try.f13) Try.func13 rfl Try.ntmps13 (Nat.le_of_ble_eq_true rfl) ?_
  intro a F
  replace F : Fr 6 a [(0, vl_1)] := F
  refine wp_seq ?_
  refine wp_region_lit ?_
  refine wl_ev (wn rfl) (ev_assign rfl) F S rfl rfl ?_; clear F a; intro a F
  refine wpList_nil ?_
  replace F := F.sub (e' := [(0, vl_1)]) ⟨rfl, trivial⟩
  refine then_n ?_
  refine wp_seq ?_
  refine wp_region_lit ?_
  refine wl_ev (wn rfl) (ev_move rfl) F S rfl rfl ?_; clear F a; intro a F
  obtain ⟨y1, hy1, hm⟩ := bind_some hm
  refine wl_call (wn rfl) rfl (xs := [.tmp 3]) (vs := [vl_1]) (cap := []) F rfl rfl tc25 (changeforgeref1_LinesFault_ok (g := g) (fr := fr) (w := w) l_ vl_1 hl_1 S hy1) rfl rfl ?_; clear F a S
  rintro _ a w ⟨g1, l1, S, rfl⟩ F; replace S : St g1 [] fr w := S
  refine wl_ev (wn rfl) (ev_field1 tu25 tf25_0 tu3 rfl (cs := [.int .i64 y1.Code, .int .i64 y1.Index]) rfl rfl) F S rfl rfl ?_; clear F a; intro a F
  refine wl_ev (wn rfl) (ev_assign rfl) F S rfl rfl ?_; clear F a; intro a F
  refine wpList_nil ?_
  replace F := F.sub (e' := [(2, .int .i64 y1.Code)]) ⟨rfl, trivial⟩
  refine then_n ?_
  refine wp_ret ?_
  obtain rfl := Option.some.inj hm
  refine post_r (fn := Try.f13) (rs := [.tmp 2]) [.int .i64 y1.Code] F rfl (ar_cons (resT rfl) ar_nil) ?_
  exact ⟨_, rfl, g1, l1, S, rfl⟩

theorem changeforgeref1_suffixes_ok {g : Gh} {fr : Hl} {w : World} {r : (List (List Int))} (a_ : (List ByteArray)) (va_1 : Value) (ha_1 : RepSl g a_ va_1) (b_ : (List ByteArray)) (vb_1 : Value) (hb_1 : RepSl g b_ vb_1) (S : St g [] fr w) (hm : changeforgeref1_suffixes a_ b_ = some r) :
    Calls Try.prog 40 [va_1, vb_1].toArray w (fun en w' => ∃ v, en = .returned v ∧ ∃ (g' : Gh) (v1 : Value), Le g g' ∧ St g' [] fr w' ∧ RepSl g' r v1 ∧ v1 = v) := by
  unfold changeforgeref1_suffixes at hm
  refine calls_enter (fn := Try.f40) Try.func40 rfl Try.ntmps40 (Nat.le_of_ble_eq_true rfl) ?_
  intro a F
  replace F : Fr 104 a [(0, va_1), (1, vb_1)] := F
  refine wp_seq ?_
  refine wp_region_lit ?_
  refine wl_ev (wn rfl) (ev_assign rfl) F S rfl rfl ?_; clear F a; intro a F
  refine wpList_nil ?_
  replace F := F.sub (e' := [(0, va_1), (1, vb_1)]) ⟨rfl, rfl, trivial⟩
  refine then_n ?_
  refine wp_seq ?_
  refine wp_region_lit ?_
  refine wl_ev (wn rfl) (ev_move rfl) F S rfl rfl ?_; clear F a; intro a F
  refine wl_ev (wn rfl) (ev_lenSh hb_1 rfl tu31) F S rfl rfl ?_; clear F a; intro a F
  obtain ⟨z1, hz1, hm⟩ := bind_some hm
  refine wl_ev (wn rfl) (ev_int rfl rfl (bo_add hz1)) F S rfl rfl ?_; clear F a; intro a F
  obtain ⟨y1, hy1, hm⟩ := bind_some hm
  refine wl_makeN (wn rfl) rfl tu70 te23 (fun g => orep_list_mk (OwnS.nil g)) rfl hy1 (by decide) F S rfl rfl ?_; clear F a S; rintro v1 c1 a w h1 F S
  refine wl_ev (wn rfl) (ev_assign rfl) F S rfl rfl ?_; clear F a; intro a F
  refine wpList_nil ?_
  replace F := F.sub (e' := [(5, v1), (0, va_1), (1, vb_1)]) ⟨rfl, rfl, rfl, trivial⟩
  refine then_n ?_
  refine wp_cut (fun a w => ∃ (x1 : List (List Int)) (v2 : Value) (c2 : Hl) (g1 : Gh), Fr 104 a [(5, v2)] ∧ Le g g1 ∧ St g1 [c2] fr w ∧ OwnN g1 x1 v2 c2 ∧ changeforgeref1_suffixes.j1 x1 = some r) ?_ ?_
  · refine wp_seq ?_
    refine wp_region_lit ?_
    refine wl_ev (wn rfl) (ev_move rfl) F S rfl rfl ?_; clear F a; intro a F
    refine wl_ev (wn rfl) (ev_lenSh hb_1 rfl tu31) F S rfl rfl ?_; clear F a; intro a F
    refine wl_ev (wn rfl) (ev_assign rfl) F S rfl rfl ?_; clear F a; intro a F
    refine wpList_nil ?_
    replace F := F.sub (e' := [(6, .int .i64 (b_.length : Int)), (5, v1), (0, va_1), (1, vb_1)]) ⟨rfl, rfl, rfl, rfl, trivial⟩
    refine then_n ?_
    refine wp_block ?_
    obtain ⟨r1, hr1, hm⟩ := bind_some hm
    have hmo1 := hm; clear hm
    refine wp_iter (σ := Int × (List (List Int))) (ρ := (List (List Int))) (m := fun s => changeforgeref1_suffixes.l1 a_ b_ s.1 s.2) (I := fun s a w => match s with | (x2, x3) => ∃ (v3 : Value) (c3 : Hl) (g3 : Gh), Fr 104 a [(6, .int .i64 x2), (5, v3), (0, va_1), (1, vb_1)] ∧ Le g g3 ∧ St g3 [c3] fr w ∧ OwnN g3 x3 v3 c3) hr1 ?_ ?_
    · dsimp only
      exact ⟨v1, c1, g, F.sub ⟨rfl, rfl, rfl, rfl, trivial⟩, (Le.refl _), S, h1⟩
    · clear F S; rintro ⟨x2, x3⟩ a w x4 ⟨v3, c3, g3, F, l3, S, h4⟩ hx1 hfin1
      have hm : changeforgeref1_suffixes.l1 a_ b_ x2 x3 = some x4 := hx1; clear hx1
      unfold changeforgeref1_suffixes.l1 at hm
      refine wp_seq ?_
      refine wp_seq ?_
      refine wp_region_lit ?_
      refine wl_ev (wn rfl) (ev_move rfl) F S rfl rfl ?_; clear F a; intro a F
      refine wl_ev (wn rfl) (ev_int rfl rfl (bo_geq _ _ _ _)) F S rfl rfl ?_; clear F a; intro a F
      refine wpList_nil ?_
      replace F := F.sub (e' := [(16, .bool (decide (x2 ≥ 0))), (6, .int .i64 x2), (5, v3), (0, va_1), (1, vb_1)]) ⟨rfl, rfl, rfl, rfl, rfl, trivial⟩
      refine then_n ?_
      obtain ⟨hc1, hm⟩ | ⟨hc1, hm⟩ := ite_or hm
      · refine wp_condT F rfl hc1 ?_
        refine wp_skip ?_
        refine then_n ?_
        refine wp_cut (fun a w => ∃ (x5 : List (List Int)) (v4 : Value) (c4 : Hl) (g4 : Gh), Fr 104 a [(6, .int .i64 x2), (5, v4), (0, va_1), (1, vb_1)] ∧ Le g3 g4 ∧ St g4 [c4] fr w ∧ OwnN g4 x5 v4 c4 ∧ changeforgeref1_suffixes.j2 x2 x5 = some x4) ?_ ?_
        · refine wp_block ?_
          refine wp_seq ?_
          refine wp_region_lit ?_
          refine wl_ev (wn rfl) (ev_move rfl) F S rfl rfl ?_; clear F a; intro a F
          refine wl_ev (wn rfl) (ev_move rfl) F S rfl rfl ?_; clear F a; intro a F
          refine wl_ev (wn rfl) (ev_move rfl) F S rfl rfl ?_; clear F a; intro a F
          refine wl_ev (wn rfl) (ev_lenSh ha_1 rfl tu31) F S rfl rfl ?_; clear F a; intro a F
          obtain ⟨z3, hz3, hm⟩ := bind_some hm
          refine wl_ev (wn rfl) (ev_int rfl rfl (bo_add hz3)) F S rfl rfl ?_; clear F a; intro a F
          obtain ⟨y2, hy2, hm⟩ := bind_some hm
          refine wl_make (wn rfl) rfl tu23 te3 (fun g => (show Rep.rep g (0 : Int) _ from rfl)) rfl hy2 (by decide) F S rfl rfl ?_; clear F a S; rintro v5 c5 a w h6 F S
          obtain ⟨y3, hy3, hm⟩ := bind_some hm
          refine wl_ev (wn rfl) (ev_idxN h4 hy3 tu70 ts23 rfl rfl) F S rfl rfl ?_; clear F a; intro a F
          replace S : St g3 [c3, c5] fr w := ((S.frontC 0 rfl).frontC 2 rfl)
          obtain ⟨cs1, ca1, cr1, ci1, hH1, hR1, hP1⟩ := OwnN.hole h4 hy3
          replace S : St g3 [ca1, cr1, ci1, c5] fr w := St.split3 hP1 S
          obtain ⟨v6, rfl, h7⟩ := orep_list hR1
          refine wl_storeH 0 (wn rfl) rfl F S hH1 addP_zero rfl rfl (us := [v5]) (OwnS.cl h6) ts23 (one_cons (OwnS.one h6) one_nil) (k := 0) rfl (Nat.le_of_ble_eq_true rfl) (cs' := [v5]) rfl rfl ?_; clear S
          rintro ca2 w hH2 S; replace S : St g3 [ca2, cr1, ci1, c5] fr w := S
          refine wpList_nil ?_
          replace F := F.sub (e' := [(6, .int .i64 x2), (5, v3), (0, va_1), (1, vb_1)]) ⟨rfl, rfl, rfl, rfl, trivial⟩
          refine then_n ?_
          refine wp_seq ?_
          refine wp_seq ?_
          refine wp_region_lit ?_
          refine wl_ev (wn rfl) (ev_move rfl) F S rfl rfl ?_; clear F a; intro a F
          refine wl_ev (wn rfl) (ev_move rfl) F S rfl rfl ?_; clear F a; intro a F
          refine wl_ev (wn rfl) (ev_lenSh hb_1 rfl tu31) F S rfl rfl ?_; clear F a; intro a F
          refine wl_ev (wn rfl) (ev_int rfl rfl (bo_eql _ _ _ _)) F S rfl rfl ?_; clear F a; intro a F
          refine wpList_nil ?_
          replace F := F.sub (e' := [(29, .bool (decide (x2 = (b_.length : Int)))), (6, .int .i64 x2), (5, v3), (0, va_1), (1, vb_1)]) ⟨rfl, rfl, rfl, rfl, rfl, trivial⟩
          refine then_n ?_
          obtain ⟨hc2, hm⟩ | ⟨hc2, hm⟩ := ite_or hm
          · refine wp_condT F rfl hc2 ?_
            refine wp_exit ?_
            refine then_e ?_
            refine inb_x ?_
            refine then_n ?_
            replace S : St g3 [ca2, cr1, c5, ci1] fr w := ((((S.frontC 2 rfl).frontC 4 rfl).frontC 3 rfl).frontC 3 rfl)
            obtain ⟨y4, hy4, hm⟩ := bind_some hm
            have h8 := HoleN.shut hH2 (orep_list_mk h6); replace h8 : OwnN g3 y4 v3 (ca2 ++ (cr1 ++ c5)) := Option.some.inj hy4 ▸ h8
            replace S : St g3 [(ca2 ++ (cr1 ++ c5)), ci1] fr w := S.of_eq (by simp only [fl, List.append_assoc, List.append_nil, List.nil_append])
            generalize (ca2 ++ (cr1 ++ c5)) = c6 at S h8
            replace S : St g3 [c6] fr w := St.tail [c6] _ (S.frontC 0 rfl)
            exact ⟨y4, v3, c6, g3, F.sub ⟨rfl, rfl, rfl, rfl, trivial⟩, (Le.refl _), S, h8, hm⟩
          · refine wp_condF F rfl hc2 ?_
            refine wp_skip ?_
            refine then_n ?_
            refine wp_seq ?_
            refine wp_region_lit ?_
            refine wl_ev (wn rfl) (ev_move rfl) F S rfl rfl ?_; clear F a; intro a F
            refine wl_ev (wn rfl) (ev_lenSh ha_1 rfl tu31) F S rfl rfl ?_; clear F a; intro a F
            obtain ⟨z4, hz4, hm⟩ := bind_some hm
            refine wl_ev (wn rfl) (ev_int rfl rfl (bo_sub hz4)) F S rfl rfl ?_; clear F a; intro a F
            refine wl_ev (wn rfl) (ev_assign rfl) F S rfl rfl ?_; clear F a; intro a F
            refine wpList_nil ?_
            replace F := F.sub (e' := [(7, .int .i64 z4), (6, .int .i64 x2), (5, v3), (0, va_1), (1, vb_1)]) ⟨rfl, rfl, rfl, rfl, rfl, trivial⟩
            refine then_n ?_
            replace S : St g3 [ca2, cr1, c5, ci1] fr w := ((((S.frontC 2 rfl).frontC 4 rfl).frontC 3 rfl).frontC 3 rfl)
            obtain ⟨y5, hy5, hm⟩ := bind_some hm
            have h9 := HoleN.shut hH2 (orep_list_mk h6); replace h9 : OwnN g3 y5 v3 (ca2 ++ (cr1 ++ c5)) := Option.some.inj hy5 ▸ h9
            replace S : St g3 [(ca2 ++ (cr1 ++ c5)), ci1] fr w := S.of_eq (by simp only [fl, List.append_assoc, List.append_nil, List.nil_append])
            generalize (ca2 ++ (cr1 ++ c5)) = c7 at S h9
            refine wp_cut1 (fun a w => ∃ (x6 : List (List Int)) (v7 : Value) (c8 : Hl) (g5 : Gh), Fr 104 a [(6, .int .i64 x2), (5, v7), (0, va_1), (1, vb_1)] ∧ Le g3 g5 ∧ St g5 [c8] fr w ∧ OwnN g5 x6 v7 c8 ∧ changeforgeref1_suffixes.j3 x2 x6 = some x4) ?_ ?_
            · refine wp_block ?_
              obtain ⟨r2, hr2, hm⟩ := bind_some hm
              have hmo2 := hm; clear hm
              refine wp_iter (σ := Int × (List (List Int))) (ρ := (List (List Int))) (m := fun s => changeforgeref1_suffixes.l2 a_ b_ x2 s.1 s.2) (I := fun s a w => match s with | (x7, x8) => ∃ (v8 : Value) (c9 : Hl) (g6 : Gh), Fr 104 a [(7, .int .i64 x7), (6, .int .i64 x2), (5, v8), (0, va_1), (1, vb_1)] ∧ Le g3 g6 ∧ St g6 [c9] fr w ∧ OwnN g6 x8 v8 c9) hr2 ?_ ?_
              · dsimp only
                replace S : St g3 [c7] fr w := St.tail [c7] _ (S.frontC 0 rfl)
                exact ⟨v3, c7, g3, F.sub ⟨rfl, rfl, rfl, rfl, rfl, trivial⟩, (Le.refl _), S, h9⟩
              · clear F S; rintro ⟨x7, x8⟩ a w x9 ⟨v8, c9, g6, F, l6, S, h11⟩ hx2 hfin2
                have hm : changeforgeref1_suffixes.l2 a_ b_ x2 x7 x8 = some x9 := hx2; clear hx2
                unfold changeforgeref1_suffixes.l2 at hm
                refine wp_seq ?_
                refine wp_seq ?_
                refine wp_region_lit ?_
                refine wl_ev (wn rfl) (ev_move rfl) F S rfl rfl ?_; clear F a; intro a F
                refine wl_ev (wn rfl) (ev_int rfl rfl (bo_geq _ _ _ _)) F S rfl rfl ?_; clear F a; intro a F
                refine wpList_nil ?_
                replace F := F.sub (e' := [(34, .bool (decide (x7 ≥ 0))), (7, .int .i64 x7), (6, .int .i64 x2), (5, v8), (0, va_1), (1, vb_1)]) ⟨rfl, rfl, rfl, rfl, rfl, rfl, trivial⟩
                refine then_n ?_
                obtain ⟨hc3, hm⟩ | ⟨hc3, hm⟩ := ite_or hm
                · refine wp_condT F rfl hc3 ?_
                  refine wp_skip ?_
                  refine then_n ?_
                  refine wp_seq ?_
                  refine wp_block ?_
                  refine wp_seq ?_
                  refine wp_region_lit ?_
                  refine wl_ev (wn rfl) (ev_move rfl) F S rfl rfl ?_; clear F a; intro a F
                  refine wl_ev (wn rfl) (ev_move rfl) F S rfl rfl ?_; clear F a; intro a F
                  obtain ⟨z5, hz5, hm⟩ := bind_some hm
                  refine wl_ev (wn rfl) (ev_int rfl rfl (bo_add hz5)) F S rfl rfl ?_; clear F a; intro a F
                  obtain ⟨y6, hy6, hm⟩ := bind_some hm
                  refine wl_ev (wn rfl) (ev_idxN h11 hy6 tu70 ts23 rfl rfl) F S rfl rfl ?_; clear F a; intro a F
                  obtain ⟨cs2, ca3, cr2, ci2, hH3, hR2, hP2⟩ := OwnN.hole h11 hy6
                  replace S : St g6 [ca3, cr2, ci2] fr w := St.split3 hP2 S
                  obtain ⟨v9, rfl, h12⟩ := orep_list hR2
                  refine wl_ev (wn rfl) (ev_load1 tu23 rfl rfl (HoleN.ptr hH3 _ _ 0 rfl)) F S rfl rfl ?_; clear F a; intro a F
                  refine wl_ev (wn rfl) (ev_move rfl) F S rfl rfl ?_; clear F a; intro a F
                  obtain ⟨y7, hy7, hm⟩ := bind_some hm
                  refine wl_ev (wn rfl) (ev_idxO h12 hy7 tu23 ts3 rfl rfl) F S rfl rfl ?_; clear F a; intro a F
                  obtain ⟨cs3, hr3, hq1⟩ := elemO h12 hy7
                  obtain rfl := rep_int hr3
                  refine wl_ev (wn rfl) (ev_load1 tu3 rfl rfl (hq1 _ _ 2 rfl)) F S rfl rfl ?_; clear F a; intro a F
                  refine wl_ev (wn rfl) (ev_assign rfl) F S rfl rfl ?_; clear F a; intro a F
                  refine wpList_nil ?_
                  replace F := F.sub (e' := [(8, .int .i64 y7), (7, .int .i64 x7), (6, .int .i64 x2), (5, v8), (0, va_1), (1, vb_1)]) ⟨rfl, rfl, rfl, rfl, rfl, rfl, trivial⟩
                  refine then_n ?_
                  have h13 : OwnN g6 x8 v8 (ca3 ++ (cr2 ++ ci2)) := HoleN.shut0 hH3 hy6 (orep_list_mk h12)
                  replace S : St g6 [(ca3 ++ (cr2 ++ ci2))] fr w := S.of_eq (by simp only [fl, List.append_assoc, List.append_nil, List.nil_append])
                  generalize (ca3 ++ (cr2 ++ ci2)) = c10 at S h13
                  refine wp_cut (fun a w => ∃ (x10 : Int) (x11 : List (List Int)) (v10 : Value) (c11 : Hl) (g7 : Gh), Fr 104 a [(8, .int .i64 x10), (7, .int .i64 x7), (6, .int .i64 x2), (5, v10), (0, va_1), (1, vb_1)] ∧ Le g6 g7 ∧ St g7 [c11] fr w ∧ OwnN g7 x11 v10 c11 ∧ changeforgeref1_suffixes.j4 a_ b_ x2 x7 x10 x11 = some x9) ?_ ?_
                  · refine wp_seq ?_
                    refine wp_region_lit ?_
                    refine wl_ev (wn rfl) (ev_move rfl) F S rfl rfl ?_; clear F a; intro a F
                    refine wl_ev (wn rfl) (ev_move rfl) F S rfl rfl ?_; clear F a; intro a F
                    obtain ⟨y18, hy18, hm⟩ := bind_some hm
                    refine wl_ev (wn rfl) (ev_idxN h13 hy18 tu70 ts23 rfl rfl) F S rfl rfl ?_; clear F a; intro a F
                    obtain ⟨cs11, ca7, cr6, ci6, hH7, hR6, hP6⟩ := OwnN.hole h13 hy18
                    replace S : St g6 [ca7, cr6, ci6] fr w := St.split3 hP6 S
                    obtain ⟨v15, rfl, h22⟩ := orep_list hR6
                    refine wl_ev (wn rfl) (ev_load1 tu23 rfl rfl (HoleN.ptr hH7 _ _ 0 rfl)) F S rfl rfl ?_; clear F a; intro a F
                    refine wl_ev (wn rfl) (ev_move rfl) F S rfl rfl ?_; clear F a; intro a F
                    obtain ⟨z13, hz13, hm⟩ := bind_some hm
                    refine wl_ev (wn rfl) (ev_int rfl rfl (bo_add hz13)) F S rfl rfl ?_; clear F a; intro a F
                    obtain ⟨y19, hy19, hm⟩ := bind_some hm
                    refine wl_ev (wn rfl) (ev_idxO h22 hy19 tu23 ts3 rfl rfl) F S rfl rfl ?_; clear F a; intro a F
                    obtain ⟨cs12, hr8, hq4⟩ := elemO h22 hy19
                    obtain rfl := rep_int hr8
                    refine wl_ev (wn rfl) (ev_load1 tu3 rfl rfl (hq4 _ _ 2 rfl)) F S rfl rfl ?_; clear F a; intro a F
                    refine wl_ev (wn rfl) (ev_move rfl) F S rfl rfl ?_; clear F a; intro a F
                    refine wl_ev (wn rfl) (ev_int rfl rfl (bo_gtr _ _ _ _)) F S rfl rfl ?_; clear F a; intro a F
                    refine wpList_nil ?_
                    replace F := F.sub (e' := [(54, .bool (decide (y19 > y7))), (8, .int .i64 y7), (7, .int .i64 x7), (6, .int .i64 x2), (5, v8), (0, va_1), (1, vb_1)]) ⟨rfl, rfl, rfl, rfl, rfl, rfl, rfl, trivial⟩
                    refine then_n ?_
                    obtain ⟨hc6, hm⟩ | ⟨hc6, hm⟩ := ite_or hm
                    · refine wp_condT F rfl hc6 ?_
                      refine wp_region_lit ?_
                      refine wl_ev (wn rfl) (ev_move rfl) F S rfl rfl ?_; clear F a; intro a F
                      refine wl_ev (wn rfl) (ev_move rfl) F S rfl rfl ?_; clear F a; intro a F
                      refine wl_ev (wn rfl) (ev_idxH hH7 hy18 tu70 ts23 rfl rfl) F S rfl rfl ?_; clear F a; intro a F
                      refine wl_ev (wn rfl) (ev_load1 tu23 rfl rfl (HoleN.ptr hH7 _ _ 0 rfl)) F S rfl rfl ?_; clear F a; intro a F
                      refine wl_ev (wn rfl) (ev_move rfl) F S rfl rfl ?_; clear F a; intro a F
                      obtain ⟨z14, hz14, hm⟩ := bind_some hm
                      refine wl_ev (wn rfl) (ev_int rfl rfl (bo_add hz14)) F S rfl rfl ?_; clear F a; intro a F
                      obtain ⟨y20, hy20, hm⟩ := bind_some hm
                      refine wl_ev (wn rfl) (ev_idxO h22 hy20 tu23 ts3 rfl rfl) F S rfl rfl ?_; clear F a; intro a F
                      obtain ⟨cs13, hr9, hq5⟩ := elemO h22 hy20
                      obtain rfl := rep_int hr9
                      refine wl_ev (wn rfl) (ev_load1 tu3 rfl rfl (hq5 _ _ 2 rfl)) F S rfl rfl ?_; clear F a; intro a F
                      refine wl_ev (wn rfl) (ev_assign rfl) F S rfl rfl ?_; clear F a; intro a F
                      refine wpList_nil ?_
                      replace F := F.sub (e' := [(8, .int .i64 y20), (7, .int .i64 x7), (6, .int .i64 x2), (5, v8), (0, va_1), (1, vb_1)]) ⟨rfl, rfl, rfl, rfl, rfl, rfl, trivial⟩
                      refine then_n ?_
                      have h23 : OwnN g6 x8 v8 (ca7 ++ (cr6 ++ ci6)) := HoleN.shut0 hH7 hy18 (orep_list_mk h22)
                      replace S : St g6 [(ca7 ++ (cr6 ++ ci6))] fr w := S.of_eq (by simp only [fl, List.append_assoc, List.append_nil, List.nil_append])
                      generalize (ca7 ++ (cr6 ++ ci6)) = c16 at S h23
                      exact ⟨y20, x8, v8, c16, g6, F.sub ⟨rfl, rfl, rfl, rfl, rfl, rfl, trivial⟩, (Le.refl _), S, h23, hm⟩
                    · refine wp_condF F rfl hc6 ?_
                      refine wp_skip ?_
                      refine then_n ?_
                      have h24 : OwnN g6 x8 v8 (ca7 ++ (cr6 ++ ci6)) := HoleN.shut0 hH7 hy18 (orep_list_mk h22)
                      replace S : St g6 [(ca7 ++ (cr6 ++ ci6))] fr w := S.of_eq (by simp only [fl, List.append_assoc, List.append_nil, List.nil_append])
                      generalize (ca7 ++ (cr6 ++ ci6)) = c17 at S h24
                      exact ⟨y7, x8, v8, c17, g6, F.sub ⟨rfl, rfl, rfl, rfl, rfl, rfl, trivial⟩, (Le.refl _), S, h24, hm⟩
                  · clear F S hm; rintro a w ⟨x10, x11, v10, c11, g7, F, l7, S, h14, hm⟩
                    refine wp_cut (fun a w => ∃ (x12 : Int) (x13 : List (List Int)) (v11 : Value) (c12 : Hl) (g8 : Gh), Fr 104 a [(8, .int .i64 x12), (7, .int .i64 x7), (6, .int .i64 x2), (5, v11), (0, va_1), (1, vb_1)] ∧ Le g7 g8 ∧ St g8 [c12] fr w ∧ OwnN g8 x13 v11 c12 ∧ changeforgeref1_suffixes.j5 x2 x7 x12 x13 = some x9) ?_ ?_
                    · refine wp_seq ?_
                      refine wp_quiet mo (by kernel_rfl) S ?_
                      refine wq_ev (wn rfl) (ev_move rfl) F rfl rfl ?_; clear F a; intro a F
                      refine wq_ev (wn rfl) (ev_move rfl) F rfl rfl ?_; clear F a; intro a F
                      obtain ⟨y12, hy12, hm⟩ := bind_some hm
                      obtain ⟨cs5, hr4, hp1⟩ := elemS (ha_1.mono ((l3.trans l6).trans l7)) hy12
                      obtain rfl := rep_str hr4
                      refine wq_ev (wn rfl) (ev_idxS (ha_1.mono ((l3.trans l6).trans l7)) hy12 tu31 ts9 rfl rfl) F rfl rfl ?_; clear F a; intro a F
                      refine wq_ev (wn rfl) (ev_load1 tu9 rfl rfl (ptr_mono (cks := [c11]) (fr := fr) hp1 (Le.refl _))) F rfl rfl ?_; clear F a; intro a F
                      refine wq_ev (wn rfl) (ev_move rfl) F rfl rfl ?_; clear F a; intro a F
                      refine wq_ev (wn rfl) (ev_move rfl) F rfl rfl ?_; clear F a; intro a F
                      obtain ⟨y13, hy13, hm⟩ := bind_some hm
                      obtain ⟨cs6, hr5, hp2⟩ := elemS (hb_1.mono ((l3.trans l6).trans l7)) hy13
                      obtain rfl := rep_str hr5
                      refine wq_ev (wn rfl) (ev_idxS (hb_1.mono ((l3.trans l6).trans l7)) hy13 tu31 ts9 rfl rfl) F rfl rfl ?_; clear F a; intro a F
                      refine wq_ev (wn rfl) (ev_load1 tu9 rfl rfl (ptr_mono (cks := [c11]) (fr := fr) hp2 (Le.refl _))) F rfl rfl ?_; clear F a; intro a F
                      refine wq_ev (wn rfl) (ev_str rfl rfl (bs_eql _ _ _)) F rfl rfl ?_; clear F a; intro a F
                      refine wq_ev (wn rfl) (ev_move rfl) F rfl rfl ?_; clear F a; intro a F
                      obtain ⟨x14, hx3, hm⟩ := bind_some hm
                      refine wq_cut 13 (fun a => Fr 104 a [(85, .bool x14), (8, .int .i64 x10), (7, .int .i64 x7), (6, .int .i64 x2), (5, v10), (0, va_1), (1, vb_1)]) ?_ ?_
                      · clear hm; obtain ⟨hc4, hm⟩ | ⟨hc4, hm⟩ := ite_or hx3
                        · refine wq_ev (wg F rfl rfl rfl rfl hc4) (ev_move rfl) F rfl rfl ?_; clear F a; intro a F
                          refine wq_ev (wg F rfl rfl rfl rfl hc4) (ev_move rfl) F rfl rfl ?_; clear F a; intro a F
                          obtain ⟨z7, hz7, hm⟩ := bind_some hm
                          refine wq_ev (wg F rfl rfl rfl rfl hc4) (ev_int rfl rfl (bo_add hz7)) F rfl rfl ?_; clear F a; intro a F
                          obtain ⟨y14, hy14, hm⟩ := bind_some hm
                          refine wq_ev (wg F rfl rfl rfl rfl hc4) (ev_idxN h14 hy14 tu70 ts23 rfl rfl) F rfl rfl ?_; clear F a; intro a F
                          obtain ⟨cs7, ca5, cr4, ci4, hH5, hR4, hP4⟩ := OwnN.hole h14 hy14
                          obtain ⟨v13, rfl, h19⟩ := orep_list hR4
                          have hV1 : ∀ w, St g7 [c11] fr w → St g7 [ca5, cr4, ci4] fr w := fun w S => by replace S : St g7 [ca5, cr4, ci4] fr w := St.split3 hP4 S; exact S
                          refine wq_ev (wg F rfl rfl rfl rfl hc4) (ev_load1 tu23 rfl rfl (fun w s => (HoleN.ptr hH5 _ _ 0 rfl) w (hV1 w s))) F rfl rfl ?_; clear F a; intro a F
                          refine wq_ev (wg F rfl rfl rfl rfl hc4) (ev_move rfl) F rfl rfl ?_; clear F a; intro a F
                          obtain ⟨z8, hz8, hm⟩ := bind_some hm
                          refine wq_ev (wg F rfl rfl rfl rfl hc4) (ev_int rfl rfl (bo_add hz8)) F rfl rfl ?_; clear F a; intro a F
                          obtain ⟨y15, hy15, hm⟩ := bind_some hm
                          refine wq_ev (wg F rfl rfl rfl rfl hc4) (ev_idxO h19 hy15 tu23 ts3 rfl rfl) F rfl rfl ?_; clear F a; intro a F
                          obtain ⟨cs8, hr6, hq2⟩ := elemO h19 hy15
                          obtain rfl := rep_int hr6
                          refine wq_ev (wg F rfl rfl rfl rfl hc4) (ev_load1 tu3 rfl rfl (fun w s => (hq2 _ _ 2 rfl) w (hV1 w s))) F rfl rfl ?_; clear F a; intro a F
                          obtain ⟨z9, hz9, hm⟩ := bind_some hm
                          refine wq_ev (wg F rfl rfl rfl rfl hc4) (ev_int rfl rfl (bo_add hz9)) F rfl rfl ?_; clear F a; intro a F
                          refine wq_ev (wg F rfl rfl rfl rfl hc4) (ev_move rfl) F rfl rfl ?_; clear F a; intro a F
                          refine wq_ev (wg F rfl rfl rfl rfl hc4) (ev_int rfl rfl (bo_gtr _ _ _ _)) F rfl rfl ?_; clear F a; intro a F
                          refine wq_ev (wn rfl) (ev_pickT rfl hc4 rfl) F rfl rfl ?_; clear F a; intro a F
                          obtain rfl := Option.some.inj hm
                          refine wq_nil ?_; exact F.sub ⟨rfl, rfl, rfl, rfl, rfl, rfl, rfl, trivial⟩
                        · refine wq_skip rfl rfl rfl rfl (ne_tf hc4) F rfl rfl ?_; clear F a; intro a F
                          refine wq_skip rfl rfl rfl rfl (ne_tf hc4) F rfl rfl ?_; clear F a; intro a F
                          refine wq_skip rfl rfl rfl rfl (ne_tf hc4) F rfl rfl ?_; clear F a; intro a F
                          refine wq_skip rfl rfl rfl rfl (ne_tf hc4) F rfl rfl ?_; clear F a; intro a F
                          refine wq_skip rfl rfl rfl rfl (ne_tf hc4) F rfl rfl ?_; clear F a; intro a F
                          refine wq_skip rfl rfl rfl rfl (ne_tf hc4) F rfl rfl ?_; clear F a; intro a F
                          refine wq_skip rfl rfl rfl rfl (ne_tf hc4) F rfl rfl ?_; clear F a; intro a F
                          refine wq_skip rfl rfl rfl rfl (ne_tf hc4) F rfl rfl ?_; clear F a; intro a F
                          refine wq_skip rfl rfl rfl rfl (ne_tf hc4) F rfl rfl ?_; clear F a; intro a F
                          refine wq_skip rfl rfl rfl rfl (ne_tf hc4) F rfl rfl ?_; clear F a; intro a F
                          refine wq_skip rfl rfl rfl rfl (ne_tf hc4) F rfl rfl ?_; clear F a; intro a F
                          refine wq_skip rfl rfl rfl rfl (ne_tf hc4) F rfl rfl ?_; clear F a; intro a F
                          refine wq_ev (wn rfl) (ev_pickF rfl hc4 rfl) F rfl rfl ?_; clear F a; intro a F
                          obtain rfl := Option.some.inj hm
                          refine wq_nil ?_; exact F.sub ⟨rfl, rfl, rfl, rfl, rfl, rfl, rfl, trivial⟩
                      clear F; intro a F
                      refine wq_nil ?_; clear S; intro w S
                      refine then_n ?_
                      obtain ⟨hc5, hm⟩ | ⟨hc5, hm⟩ := ite_or hm
                      · refine wp_condT F rfl hc5 ?_
                        refine wp_region_lit ?_
                        refine wl_ev (wn rfl) (ev_move rfl) F S rfl rfl ?_; clear F a; intro a F
                        refine wl_ev (wn rfl) (ev_move rfl) F S rfl rfl ?_; clear F a; intro a F
                        obtain ⟨z10, hz10, hm⟩ := bind_some hm
                        refine wl_ev (wn rfl) (ev_int rfl rfl (bo_add hz10)) F S rfl rfl ?_; clear F a; intro a F
                        obtain ⟨y16, hy16, hm⟩ := bind_some hm
                        refine wl_ev (wn rfl) (ev_idxN h14 hy16 tu70 ts23 rfl rfl) F S rfl rfl ?_; clear F a; intro a F
                        obtain ⟨cs9, ca6, cr5, ci5, hH6, hR5, hP5⟩ := OwnN.hole h14 hy16
                        replace S : St g7 [ca6, cr5, ci5] fr w := St.split3 hP5 S
                        obtain ⟨v14, rfl, h20⟩ := orep_list hR5
                        refine wl_ev (wn rfl) (ev_load1 tu23 rfl rfl (HoleN.ptr hH6 _ _ 0 rfl)) F S rfl rfl ?_; clear F a; intro a F
                        refine wl_ev (wn rfl) (ev_move rfl) F S rfl rfl ?_; clear F a; intro a F
                        obtain ⟨z11, hz11, hm⟩ := bind_some hm
                        refine wl_ev (wn rfl) (ev_int rfl rfl (bo_add hz11)) F S rfl rfl ?_; clear F a; intro a F
                        obtain ⟨y17, hy17, hm⟩ := bind_some hm
                        refine wl_ev (wn rfl) (ev_idxO h20 hy17 tu23 ts3 rfl rfl) F S rfl rfl ?_; clear F a; intro a F
                        obtain ⟨cs10, hr7, hq3⟩ := elemO h20 hy17
                        obtain rfl := rep_int hr7
                        refine wl_ev (wn rfl) (ev_load1 tu3 rfl rfl (hq3 _ _ 2 rfl)) F S rfl rfl ?_; clear F a; intro a F
                        obtain ⟨z12, hz12, hm⟩ := bind_some hm
                        refine wl_ev (wn rfl) (ev_int rfl rfl (bo_add hz12)) F S rfl rfl ?_; clear F a; intro a F
                        refine wl_ev (wn rfl) (ev_assign rfl) F S rfl rfl ?_; clear F a; intro a F
                        refine wpList_nil ?_
                        replace F := F.sub (e' := [(8, .int .i64 z12), (7, .int .i64 x7), (6, .int .i64 x2), (5, v10), (0, va_1), (1, vb_1)]) ⟨rfl, rfl, rfl, rfl, rfl, rfl, trivial⟩
                        refine then_n ?_
                        have h21 : OwnN g7 x11 v10 (ca6 ++ (cr5 ++ ci5)) := HoleN.shut0 hH6 hy16 (orep_list_mk h20)
                        replace S : St g7 [(ca6 ++ (cr5 ++ ci5))] fr w := S.of_eq (by simp only [fl, List.append_assoc, List.append_nil, List.nil_append])
                        generalize (ca6 ++ (cr5 ++ ci5)) = c15 at S h21
                        exact ⟨z12, x11, v10, c15, g7, F.sub ⟨rfl, rfl, rfl, rfl, rfl, rfl, trivial⟩, (Le.refl _), S, h21, hm⟩
                      · refine wp_condF F rfl hc5 ?_
                        refine wp_skip ?_
                        refine then_n ?_
                        exact ⟨x10, x11, v10, c11, g7, F.sub ⟨rfl, rfl, rfl, rfl, rfl, rfl, trivial⟩, (Le.refl _), S, h14, hm⟩
                    · clear F S hm; rintro a w ⟨x12, x13, v11, c12, g8, F, l8, S, h15, hm⟩
                      refine wp_region_lit ?_
                      refine wl_ev (wn rfl) (ev_move rfl) F S rfl rfl ?_; clear F a; intro a F
                      refine wl_ev (wn rfl) (ev_move rfl) F S rfl rfl ?_; clear F a; intro a F
                      obtain ⟨y8, hy8, hm⟩ := bind_some hm
                      refine wl_ev (wn rfl) (ev_idxN h15 hy8 tu70 ts23 rfl rfl) F S rfl rfl ?_; clear F a; intro a F
                      obtain ⟨cs4, ca4, cr3, ci3, hH4, hR3, hP3⟩ := OwnN.hole h15 hy8
                      replace S : St g8 [ca4, cr3, ci3] fr w := St.split3 hP3 S
                      obtain ⟨v12, rfl, h16⟩ := orep_list hR3
                      refine wl_ev (wn rfl) (ev_load1 tu23 rfl rfl (HoleN.ptr hH4 _ _ 0 rfl)) F S rfl rfl ?_; clear F a; intro a F
                      refine wl_ev (wn rfl) (ev_move rfl) F S rfl rfl ?_; clear F a; intro a F
                      refine wl_ev (wn rfl) (ev_move rfl) F S rfl rfl ?_; clear F a; intro a F
                      obtain ⟨y9, hy9, hm⟩ := bind_some hm
                      refine wl_ev (wn rfl) (ev_idxO h16 hy9 tu23 ts3 rfl rfl) F S rfl rfl ?_; clear F a; intro a F
                      obtain ⟨y10, hy10, hm⟩ := bind_some hm
                      refine wl_storeW (z' := x12) (wn rfl) rfl F S h16 hy9 rfl rfl (us := [.int .i64 x12]) rfl ts3 (one_cons rfl one_nil) (k := 2) rfl rfl (show Rep.rep _ x12 _ from rfl) rfl ?_; clear S
                      rintro c13 w h17 S; replace S : St g8 [ca4, cr3, c13] fr w := S; replace h17 : OwnS g8 y10 v12 c13 := Option.some.inj hy10 ▸ h17
                      replace F := F.sub (e' := [(101, .int .i64 x12), (100, .int .i64 x7), (99, v12), (98, elemP v11 x2 1), (97, .int .i64 x2), (96, v11), (8, .int .i64 x12), (7, .int .i64 x7), (6, .int .i64 x2), (5, v11), (0, va_1), (1, vb_1)]) ⟨rfl, rfl, rfl, rfl, rfl, rfl, rfl, rfl, rfl, rfl, rfl, rfl, trivial⟩
                      refine wpList_nil ?_
                      replace F := F.sub (e' := [(7, .int .i64 x7), (6, .int .i64 x2), (5, v11), (0, va_1), (1, vb_1)]) ⟨rfl, rfl, rfl, rfl, rfl, trivial⟩
                      refine inb_n ?_
                      refine then_n ?_
                      refine wp_region_lit ?_
                      refine wl_ev (wn rfl) (ev_move rfl) F S rfl rfl ?_; clear F a; intro a F
                      obtain ⟨z6, hz6, hm⟩ := bind_some hm
                      refine wl_ev (wn rfl) (ev_int rfl rfl (bo_sub hz6)) F S rfl rfl ?_; clear F a; intro a F
                      refine wl_ev (wn rfl) (ev_assign rfl) F S rfl rfl ?_; clear F a; intro a F
                      refine wpList_nil ?_
                      replace F := F.sub (e' := [(7, .int .i64 z6), (6, .int .i64 x2), (5, v11), (0, va_1), (1, vb_1)]) ⟨rfl, rfl, rfl, rfl, rfl, trivial⟩
                      refine then_n ?_
                      obtain ⟨y11, hy11, hm⟩ := bind_some hm
                      have h18 := HoleN.shut hH4 (orep_list_mk h17); replace h18 : OwnN g8 y11 v11 (ca4 ++ (cr3 ++ c13)) := Option.some.inj hy11 ▸ h18
                      replace S : St g8 [(ca4 ++ (cr3 ++ c13))] fr w := S.of_eq (by simp only [fl, List.append_assoc, List.append_nil, List.nil_append])
                      generalize (ca4 ++ (cr3 ++ c13)) = c14 at S h18
                      obtain rfl := Option.some.inj hm
                      refine ⟨_, rfl, ?_⟩
                      dsimp only
                      exact ⟨v11, c14, g8, F.sub ⟨rfl, rfl, rfl, rfl, rfl, trivial⟩, ((l6.trans l7).trans l8), S, h18⟩
                · refine wp_condF F rfl hc3 ?_
                  refine wp_exit ?_
                  refine then_e ?_
                  refine then_e ?_
                  refine inb_x ?_
                  refine then_n ?_
                  obtain rfl := Option.some.inj hm
                  obtain rfl := hfin2 _ rfl
                  clear hm
                  have hm : (changeforgeref1_suffixes.j3 x2 x8 : Option (Step (Int × (List (List Int))) (List (List Int)))) = some _ := hmo2
                  exact ⟨x8, v8, c9, g6, F.sub ⟨rfl, rfl, rfl, rfl, trivial⟩, l6, S, h11, hm⟩
            · clear F S hm; rintro a w ⟨x6, v7, c8, g5, F, l5, S, h10, hm⟩
              refine inb_n ?_
              refine then_n ?_
              exact ⟨x6, v7, c8, g5, F.sub ⟨rfl, rfl, rfl, rfl, trivial⟩, l5, S, h10, hm⟩
        · clear F S hm; rintro a w ⟨x5, v4, c4, g4, F, l4, S, h5, hm⟩
          refine wp_region_lit ?_
          refine wl_ev (wn rfl) (ev_move rfl) F S rfl rfl ?_; clear F a; intro a F
          obtain ⟨z2, hz2, hm⟩ := bind_some hm
          refine wl_ev (wn rfl) (ev_int rfl rfl (bo_sub hz2)) F S rfl rfl ?_; clear F a; intro a F
          refine wl_ev (wn rfl) (ev_assign rfl) F S rfl rfl ?_; clear F a; intro a F
          refine wpList_nil ?_
          replace F := F.sub (e' := [(6, .int .i64 z2), (5, v4), (0, va_1), (1, vb_1)]) ⟨rfl, rfl, rfl, rfl, trivial⟩
          refine then_n ?_
          obtain rfl := Option.some.inj hm
          refine ⟨_, rfl, ?_⟩
          dsimp only
          exact ⟨v4, c4, g4, F.sub ⟨rfl, rfl, rfl, rfl, trivial⟩, (l3.trans l4), S, h5⟩
      · refine wp_condF F rfl hc1 ?_
        refine wp_exit ?_
        refine then_e ?_
        refine then_e ?_
        refine inb_x ?_
        refine then_n ?_
        obtain rfl := Option.some.inj hm
        obtain rfl := hfin1 _ rfl
        clear hm
        have hm : (changeforgeref1_suffixes.j1 x3 : Option (List (List Int))) = some _ := hmo1
        exact ⟨x3, v3, c3, g3, F.sub ⟨rfl, trivial⟩, l3, S, h4, hm⟩
  · clear F S hm; rintro a w ⟨x1, v2, c2, g1, F, l1, S, h2, hm⟩
    refine wp_seq ?_
    refine wp_region_lit ?_
    refine wl_ev (wn rfl) (ev_move rfl) F S rfl rfl ?_; clear F a; intro a F
    refine wl_ev (wn rfl) (ev_assign rfl) F S rfl rfl ?_; clear F a; intro a F
    refine wpList_nil ?_
    replace F := F.sub (e' := [(4, v2)]) ⟨rfl, trivial⟩
    refine then_n ?_
    refine wp_ret ?_
    obtain rfl := Option.some.inj hm
    obtain ⟨g2, l2, S, h3⟩ : ∃ gz, Le g1 gz ∧ St gz [] fr w ∧ RepSl gz x1 v2 := ⟨_, Le.add _ _, S.freeze 0 rfl, OwnN.freeze (S.front 0 rfl) h2⟩
    refine post_r (fn := Try.f40) (rs := [.tmp 4]) [v2] F rfl (ar_cons (resT rfl) ar_nil) ?_
    exact ⟨_, rfl, g2, v2, (l1.trans l2), S, h3, rfl⟩

theorem changeforgeref1_Align_ok {g : Gh} {fr : Hl} {w : World} {r : (List Step_changeforgeref1)} (a_ : (List ByteArray)) (va_1 : Value) (ha_1 : RepSl g a_ va_1) (b_ : (List ByteArray)) (vb_1 : Value) (hb_1 : RepSl g b_ vb_1) (S : St g [] fr w) (hm : changeforgeref1_Align a_ b_ = some r) :
    Calls Try.prog 26 [va_1, vb_1].toArray w (fun en w' => ∃ v, en = .returned v ∧ ∃ (g' : Gh) (v1 : Value), Le g g' ∧ St g' [] fr w' ∧ RepSl g' r v1 ∧ v1 = v) := by
  unfold changeforgeref1_Align at hm
  refine calls_enter (fn := Try.f26) Try.func26 rfl Try.ntmps26 (Nat.le_of_ble_eq_true rfl) ?_
  intro a F
  replace F : Fr 105 a [(0, va_1), (1, vb_1)] := F
  refine wp_seq ?_
  refine wp_region_lit ?_
  refine wl_ev (wn rfl) (ev_assign rfl) F S rfl rfl ?_; clear F a; intro a F
  refine wpList_nil ?_
  replace F := F.sub (e' := [(0, va_1), (1, vb_1)]) ⟨rfl, rfl, trivial⟩
  refine then_n ?_
  refine wp_seq ?_
  refine wp_region_lit ?_
  refine wl_ev (wn rfl) (ev_move rfl) F S rfl rfl ?_; clear F a; intro a F
  refine wl_ev (wn rfl) (ev_move rfl) F S rfl rfl ?_; clear F a; intro a F
  obtain ⟨y1, hy1, hm⟩ := bind_some hm
  refine wl_call (wn rfl) rfl (xs := [.tmp 9, .tmp 10]) (vs := [va_1, vb_1]) (cap := []) F rfl rfl tc40 (changeforgeref1_suffixes_ok (g := g) (fr := fr) (w := w) a_ va_1 ha_1 b_ vb_1 hb_1 S hy1) rfl rfl ?_; clear F a S
  rintro _ a w ⟨g1, v1, l1, S, h1, rfl⟩ F; replace S : St g1 [] fr w := S
  refine wl_ev (wn rfl) (ev_assign rfl) F S rfl rfl ?_; clear F a; intro a F
  refine wpList_nil ?_
  replace F := F.sub (e' := [(5, v1), (0, va_1), (1, vb_1)]) ⟨rfl, rfl, rfl, trivial⟩
  refine then_n ?_
  refine wp_seq ?_
  refine wp_region_lit ?_
  refine wl_ev (wn rfl) (ev_assign rfl) F S rfl rfl ?_; clear F a; intro a F
  refine wpList_nil ?_
  refine then_n ?_
  refine wp_seq ?_
  refine wp_region_lit ?_
  refine wl_ev (wn rfl) (ev_assign rfl) F S rfl rfl ?_; clear F a; intro a F
  refine wpList_nil ?_
  refine then_n ?_
  refine wp_seq ?_
  refine wp_region_lit ?_
  refine wl_ev (wn rfl) (ev_assign rfl) F S rfl rfl ?_; clear F a; intro a F
  refine wpList_nil ?_
  refine then_n ?_
  refine wp_cut (fun a w => ∃ (x1 : List Step_changeforgeref1) (v2 : Value) (c1 : Hl) (g2 : Gh), Fr 105 a [(6, v2)] ∧ Le g1 g2 ∧ St g2 [c1] fr w ∧ OwnS g2 x1 v2 c1 ∧ changeforgeref1_Align.j1 x1 = some r) ?_ ?_
  · refine wp_block ?_
    obtain ⟨r1, hr1, hm⟩ := bind_some hm
    have hmo1 := hm; clear hm
    refine wp_iter (σ := Int × Int × (List Step_changeforgeref1)) (ρ := (List Step_changeforgeref1)) (m := fun s => changeforgeref1_Align.l1 a_ b_ y1 s.1 s.2.1 s.2.2) (I := fun s a w => match s with | (x2, x3, x4) => ∃ (v3 : Value) (c2 : Hl) (g4 : Gh), Fr 105 a [(8, .int .i64 x2), (7, .int .i64 x3), (6, v3), (5, v1), (0, va_1), (1, vb_1)] ∧ Le g1 g4 ∧ St g4 [c2] fr w ∧ OwnS g4 x4 v3 c2) hr1 ?_ ?_
    · dsimp only
      replace S : St g1 [[]] fr w := S
      exact ⟨(.slice Option.none 0 0), [], g1, F.sub ⟨rfl, rfl, rfl, rfl, rfl, rfl, trivial⟩, (Le.refl _), S, (OwnS.nil _)⟩
    · clear F S; rintro ⟨x2, x3, x4⟩ a w x5 ⟨v3, c2, g4, F, l4, S, h4⟩ hx1 hfin1
      have hm : changeforgeref1_Align.l1 a_ b_ y1 x2 x3 x4 = some x5 := hx1; clear hx1
      unfold changeforgeref1_Align.l1 at hm
      refine wp_seq ?_
      refine wp_seq ?_
      refine wp_region_lit ?_
      refine wl_ev (wn rfl) (ev_move rfl) F S rfl rfl ?_; clear F a; intro a F
      refine wl_ev (wn rfl) (ev_move rfl) F S rfl rfl ?_; clear F a; intro a F
      refine wl_ev (wn rfl) (ev_lenSh ha_1 rfl tu31) F S rfl rfl ?_; clear F a; intro a F
      refine wl_ev (wn rfl) (ev_int rfl rfl (bo_lss _ _ _ _)) F S rfl rfl ?_; clear F a; intro a F
      refine wl_ev (wn rfl) (ev_move rfl) F S rfl rfl ?_; clear F a; intro a F
      obtain ⟨x6, hx2, hm⟩ := bind_some hm
      refine wl_cut 5 (fun a w' => w = w' ∧ Fr 105 a [(21, .bool x6), (8, .int .i64 x2), (7, .int .i64 x3), (6, v3), (5, v1), (0, va_1), (1, vb_1)]) ?_ ?_
      · clear hm; obtain ⟨hc1, hm⟩ | ⟨hc1, hm⟩ := ite_or hx2
        · refine wl_skip rfl rfl rfl rfl (ne_ft hc1) F rfl rfl ?_; clear F a; intro a F
          refine wl_skip rfl rfl rfl rfl (ne_ft hc1) F rfl rfl ?_; clear F a; intro a F
          refine wl_skip rfl rfl rfl rfl (ne_ft hc1) F rfl rfl ?_; clear F a; intro a F
          refine wl_skip rfl rfl rfl rfl (ne_ft hc1) F rfl rfl ?_; clear F a; intro a F
          refine wl_ev (wn rfl) (ev_pickT rfl hc1 rfl) F S rfl rfl ?_; clear F a; intro a F
          obtain rfl := Option.some.inj hm
          refine wpList_nil (then_n ?_); exact ⟨rfl, F.sub ⟨rfl, rfl, rfl, rfl, rfl, rfl, rfl, trivial⟩⟩
        · refine wl_ev (wg F rfl rfl rfl rfl hc1) (ev_move rfl) F S rfl rfl ?_; clear F a; intro a F
          refine wl_ev (wg F rfl rfl rfl rfl hc1) (ev_move rfl) F S rfl rfl ?_; clear F a; intro a F
          refine wl_ev (wg F rfl rfl rfl rfl hc1) (ev_lenSh hb_1 rfl tu31) F S rfl rfl ?_; clear F a; intro a F
          refine wl_ev (wg F rfl rfl rfl rfl hc1) (ev_int rfl rfl (bo_lss _ _ _ _)) F S rfl rfl ?_; clear F a; intro a F
          refine wl_ev (wn rfl) (ev_pickF rfl hc1 rfl) F S rfl rfl ?_; clear F a; intro a F
          obtain rfl := Option.some.inj hm
          refine wpList_nil (then_n ?_); exact ⟨rfl, F.sub ⟨rfl, rfl, rfl, rfl, rfl, rfl, rfl, trivial⟩⟩
      clear F; rintro a w' ⟨rfl, F⟩
      refine wpList_nil ?_
      refine then_n ?_
      obtain ⟨hc2, hm⟩ | ⟨hc2, hm⟩ := ite_or hm
      · refine wp_condT F rfl hc2 ?_
        refine wp_skip ?_
        refine then_n ?_
        refine wp_block ?_
        refine wp_seq ?_
        refine wp_seq ?_
        refine wp_quiet mo (by kernel_rfl) S ?_
        refine wq_ev (wn rfl) (ev_move rfl) F rfl rfl ?_; clear F a; intro a F
        refine wq_ev (wn rfl) (ev_move rfl) F rfl rfl ?_; clear F a; intro a F
        refine wq_ev (wn rfl) (ev_lenSh ha_1 rfl tu31) F rfl rfl ?_; clear F a; intro a F
        refine wq_ev (wn rfl) (ev_int rfl rfl (bo_lss _ _ _ _)) F rfl rfl ?_; clear F a; intro a F
        refine wq_ev (wn rfl) (ev_move rfl) F rfl rfl ?_; clear F a; intro a F
        obtain ⟨x7, hx3, hm⟩ := bind_some hm
        refine wq_cut 5 (fun a => Fr 105 a [(31, .bool x7), (8, .int .i64 x2), (7, .int .i64 x3), (6, v3), (5, v1), (0, va_1), (1, vb_1)]) ?_ ?_
        · clear hm; obtain ⟨hc3, hm⟩ | ⟨hc3, hm⟩ := ite_or hx3
          · refine wq_ev (wg F rfl rfl rfl rfl hc3) (ev_move rfl) F rfl rfl ?_; clear F a; intro a F
            refine wq_ev (wg F rfl rfl rfl rfl hc3) (ev_move rfl) F rfl rfl ?_; clear F a; intro a F
            refine wq_ev (wg F rfl rfl rfl rfl hc3) (ev_lenSh hb_1 rfl tu31) F rfl rfl ?_; clear F a; intro a F
            refine wq_ev (wg F rfl rfl rfl rfl hc3) (ev_int rfl rfl (bo_lss _ _ _ _)) F rfl rfl ?_; clear F a; intro a F
            refine wq_ev (wn rfl) (ev_pickT rfl hc3 rfl) F rfl rfl ?_; clear F a; intro a F
            obtain rfl := Option.some.inj hm
            refine wq_nil ?_; exact F.sub ⟨rfl, rfl, rfl, rfl, rfl, rfl, rfl, trivial⟩
          · refine wq_skip rfl rfl rfl rfl (ne_tf hc3) F rfl rfl ?_; clear F a; intro a F
            refine wq_skip rfl rfl rfl rfl (ne_tf hc3) F rfl rfl ?_; clear F a; intro a F
            refine wq_skip rfl rfl rfl rfl (ne_tf hc3) F rfl rfl ?_; clear F a; intro a F
            refine wq_skip rfl rfl rfl rfl (ne_tf hc3) F rfl rfl ?_; clear F a; intro a F
            refine wq_ev (wn rfl) (ev_pickF rfl hc3 rfl) F rfl rfl ?_; clear F a; intro a F
            obtain rfl := Option.some.inj hm
            refine wq_nil ?_; exact F.sub ⟨rfl, rfl, rfl, rfl, rfl, rfl, rfl, trivial⟩
        clear F; intro a F
        refine wq_ev (wn rfl) (ev_move rfl) F rfl rfl ?_; clear F a; intro a F
        obtain ⟨x8, hx4, hm⟩ := bind_some hm
        refine wq_cut 10 (fun a => Fr 105 a [(42, .bool x8), (8, .int .i64 x2), (7, .int .i64 x3), (6, v3), (5, v1), (0, va_1), (1, vb_1)]) ?_ ?_
        · clear hm; obtain ⟨hc4, hm⟩ | ⟨hc4, hm⟩ := ite_or hx4
          · refine wq_ev (wg F rfl rfl rfl rfl hc4) (ev_move rfl) F rfl rfl ?_; clear F a; intro a F
            refine wq_ev (wg F rfl rfl rfl rfl hc4) (ev_move rfl) F rfl rfl ?_; clear F a; intro a F
            obtain ⟨y2, hy2, hm⟩ := bind_some hm
            obtain ⟨cs1, hr2, hp1⟩ := elemS (ha_1.mono (l1.trans l4)) hy2
            obtain rfl := rep_str hr2
            refine wq_ev (wg F rfl rfl rfl rfl hc4) (ev_idxS (ha_1.mono (l1.trans l4)) hy2 tu31 ts9 rfl rfl) F rfl rfl ?_; clear F a; intro a F
            refine wq_ev (wg F rfl rfl rfl rfl hc4) (ev_load1 tu9 rfl rfl (ptr_mono (cks := [c2]) (fr := fr) hp1 (Le.refl _))) F rfl rfl ?_; clear F a; intro a F
            refine wq_ev (wg F rfl rfl rfl rfl hc4) (ev_move rfl) F rfl rfl ?_; clear F a; intro a F
            refine wq_ev (wg F rfl rfl rfl rfl hc4) (ev_move rfl) F rfl rfl ?_; clear F a; intro a F
            obtain ⟨y3, hy3, hm⟩ := bind_some hm
            obtain ⟨cs2, hr3, hp2⟩ := elemS (hb_1.mono (l1.trans l4)) hy3
            obtain rfl := rep_str hr3
            refine wq_ev (wg F rfl rfl rfl rfl hc4) (ev_idxS (hb_1.mono (l1.trans l4)) hy3 tu31 ts9 rfl rfl) F rfl rfl ?_; clear F a; intro a F
            refine wq_ev (wg F rfl rfl rfl rfl hc4) (ev_load1 tu9 rfl rfl (ptr_mono (cks := [c2]) (fr := fr) hp2 (Le.refl _))) F rfl rfl ?_; clear F a; intro a F
            refine wq_ev (wg F rfl rfl rfl rfl hc4) (ev_str rfl rfl (bs_eql _ _ _)) F rfl rfl ?_; clear F a; intro a F
            refine wq_ev (wn rfl) (ev_pickT rfl hc4 rfl) F rfl rfl ?_; clear F a; intro a F
            obtain rfl := Option.some.inj hm
            refine wq_nil ?_; exact F.sub ⟨rfl, rfl, rfl, rfl, rfl, rfl, rfl, trivial⟩
          · refine wq_skip rfl rfl rfl rfl (ne_tf hc4) F rfl rfl ?_; clear F a; intro a F
            refine wq_skip rfl rfl rfl rfl (ne_tf hc4) F rfl rfl ?_; clear F a; intro a F
            refine wq_skip rfl rfl rfl rfl (ne_tf hc4) F rfl rfl ?_; clear F a; intro a F
            refine wq_skip rfl rfl rfl rfl (ne_tf hc4) F rfl rfl ?_; clear F a; intro a F
            refine wq_skip rfl rfl rfl rfl (ne_tf hc4) F rfl rfl ?_; clear F a; intro a F
            refine wq_skip rfl rfl rfl rfl (ne_tf hc4) F rfl rfl ?_; clear F a; intro a F
            refine wq_skip rfl rfl rfl rfl (ne_tf hc4) F rfl rfl ?_; clear F a; intro a F
            refine wq_skip rfl rfl rfl rfl (ne_tf hc4) F rfl rfl ?_; clear F a; intro a F
            refine wq_skip rfl rfl rfl rfl (ne_tf hc4) F rfl rfl ?_; clear F a; intro a F
            refine wq_ev (wn rfl) (ev_pickF rfl hc4 rfl) F rfl rfl ?_; clear F a; intro a F
            obtain rfl := Option.some.inj hm
            refine wq_nil ?_; exact F.sub ⟨rfl, rfl, rfl, rfl, rfl, rfl, rfl, trivial⟩
        clear F; intro a F
        refine wq_nil ?_; clear S; intro w S
        refine then_n ?_
        obtain ⟨hc5, hm⟩ | ⟨hc5, hm⟩ := ite_or hm
        · refine wp_condT F rfl hc5 ?_
          refine wp_seq ?_
          refine wp_region_lit ?_
          refine wl_ev (wn rfl) (ev_move rfl) F S rfl rfl ?_; clear F a; intro a F
          refine wl_ev (wn rfl) (ev_move rfl) F S rfl rfl ?_; clear F a; intro a F
          refine wl_ev (wn rfl) (ev_move rfl) F S rfl rfl ?_; clear F a; intro a F
          obtain ⟨y4, hy4, hm⟩ := bind_some hm
          obtain ⟨cs3, hr4, hp3⟩ := elemS (ha_1.mono (l1.trans l4)) hy4
          obtain rfl := rep_str hr4
          refine wl_ev (wn rfl) (ev_idxS (ha_1.mono (l1.trans l4)) hy4 tu31 ts9 rfl rfl) F S rfl rfl ?_; clear F a; intro a F
          refine wl_ev (wn rfl) (ev_load1 tu9 rfl rfl (ptr_mono (cks := [c2]) (fr := fr) hp3 (Le.refl _))) F S rfl rfl ?_; clear F a; intro a F
          refine wl_ev (wn rfl) (ev_build (parts := [(0, .const (.int .i64 0)), (1, .tmp 47)]) (vs := [(0, .int .i64 0), (1, .string y4)]) rfl (fun w => tb55_0_1 0 y4 w)) F S rfl rfl ?_; clear F a; intro a F
          refine wl_lit (l := ([({ Kind := 0, Text := y4 } : Step_changeforgeref1)] : List Step_changeforgeref1)) (vs := [.agg #[.int .i64 0, .string y4]]) (parts := [(0, .tmp 48)]) (wn rfl) rfl rfl rfl tu52 te55 (sz_cons rfl sz_nil) rfl (Cat.cons (rep_Step_changeforgeref1_mk (x := ({ Kind := 0, Text := y4 } : Step_changeforgeref1)) ) (Cat.nil _)) (coa_cons rfl coa_nil) rfl F S rfl rfl ?_; clear F a S
          rintro v4 c3 a w h5 F S
          obtain ⟨cs4, hk1, hr5⟩ := OwnS.reads h5
          obtain ⟨y5, hy5, hm⟩ := bind_some hm
          refine wl_append (wn rfl) rfl tu52 tu52 te55 (by decide) (by decide) F S rfl rfl (k := 1) rfl h4 hk1 rfl (hr5 _ _ _ 0 rfl S) hy5 rfl rfl ?_; clear F a S
          rintro v5 c4 a w h6 S F; replace S : St g4 [c3, c4] fr w := S
          refine wl_ev (wn rfl) (ev_assign rfl) F S rfl rfl ?_; clear F a; intro a F
          refine wpList_nil ?_
          replace F := F.sub (e' := [(6, v5), (8, .int .i64 x2), (7, .int .i64 x3), (5, v1), (0, va_1), (1, vb_1)]) ⟨rfl, rfl, rfl, rfl, rfl, rfl, trivial⟩
          refine then_n ?_
          refine wp_seq ?_
          refine wp_region_lit ?_
          refine wl_ev (wn rfl) (ev_move rfl) F S rfl rfl ?_; clear F a; intro a F
          obtain ⟨z1, hz1, hm⟩ := bind_some hm
          refine wl_ev (wn rfl) (ev_int rfl rfl (bo_add hz1)) F S rfl rfl ?_; clear F a; intro a F
          refine wl_ev (wn rfl) (ev_assign rfl) F S rfl rfl ?_; clear F a; intro a F
          refine wpList_nil ?_
          replace F := F.sub (e' := [(7, .int .i64 z1), (6, v5), (8, .int .i64 x2), (5, v1), (0, va_1), (1, vb_1)]) ⟨rfl, rfl, rfl, rfl, rfl, rfl, trivial⟩
          refine then_n ?_
          refine wp_seq ?_
          refine wp_region_lit ?_
          refine wl_ev (wn rfl) (ev_move rfl) F S rfl rfl ?_; clear F a; intro a F
          obtain ⟨z2, hz2, hm⟩ := bind_some hm
          refine wl_ev (wn rfl) (ev_int rfl rfl (bo_add hz2)) F S rfl rfl ?_; clear F a; intro a F
          refine wl_ev (wn rfl) (ev_assign rfl) F S rfl rfl ?_; clear F a; intro a F
          refine wpList_nil ?_
          replace F := F.sub (e' := [(8, .int .i64 z2), (7, .int .i64 z1), (6, v5), (5, v1), (0, va_1), (1, vb_1)]) ⟨rfl, rfl, rfl, rfl, rfl, rfl, trivial⟩
          refine then_n ?_
          refine wp_exit ?_
          refine then_e ?_
          refine inb_x ?_
          refine then_n ?_
          obtain rfl := Option.some.inj hm
          refine ⟨_, rfl, ?_⟩
          dsimp only
          replace S : St g4 [c4] fr w := St.tail [c4] _ (S.frontC 1 rfl)
          exact ⟨v5, c4, g4, F.sub ⟨rfl, rfl, rfl, rfl, rfl, rfl, trivial⟩, l4, S, h6⟩
        · refine wp_condF F rfl hc5 ?_
          refine wp_skip ?_
          refine then_n ?_
          refine wp_seq ?_
          refine wp_quiet mo (by kernel_rfl) S ?_
          refine wq_ev (wn rfl) (ev_move rfl) F rfl rfl ?_; clear F a; intro a F
          refine wq_ev (wn rfl) (ev_move rfl) F rfl rfl ?_; clear F a; intro a F
          refine wq_ev (wn rfl) (ev_lenSh hb_1 rfl tu31) F rfl rfl ?_; clear F a; intro a F
          refine wq_ev (wn rfl) (ev_int rfl rfl (bo_eql _ _ _ _)) F rfl rfl ?_; clear F a; intro a F
          refine wq_ev (wn rfl) (ev_move rfl) F rfl rfl ?_; clear F a; intro a F
          obtain ⟨x9, hx5, hm⟩ := bind_some hm
          refine wq_cut 24 (fun a => Fr 105 a [(83, .bool x9), (8, .int .i64 x2), (7, .int .i64 x3), (6, v3), (5, v1), (0, va_1), (1, vb_1)]) ?_ ?_
          · clear hm; obtain ⟨hc6, hm⟩ | ⟨hc6, hm⟩ := ite_or hx5
            · refine wq_skip rfl rfl rfl rfl (ne_ft hc6) F rfl rfl ?_; clear F a; intro a F
              refine wq_skip rfl rfl rfl rfl (ne_ft hc6) F rfl rfl ?_; clear F a; intro a F
              refine wq_skip rfl rfl rfl rfl (ne_ft hc6) F rfl rfl ?_; clear F a; intro a F
              refine wq_skip rfl rfl rfl rfl (ne_ft hc6) F rfl rfl ?_; clear F a; intro a F
              refine wq_skip rfl rfl rfl rfl (ne_ft hc6) F rfl rfl ?_; clear F a; intro a F
              refine wq_skipu rfl rfl rfl rfl F rfl rfl ?_; clear F a; intro a F
              refine wq_skipu rfl rfl rfl rfl F rfl rfl ?_; clear F a; intro a F
              refine wq_skipu rfl rfl rfl rfl F rfl rfl ?_; clear F a; intro a F
              refine wq_skipu rfl rfl rfl rfl F rfl rfl ?_; clear F a; intro a F
              refine wq_skipu rfl rfl rfl rfl F rfl rfl ?_; clear F a; intro a F
              refine wq_skipu rfl rfl rfl rfl F rfl rfl ?_; clear F a; intro a F
              refine wq_skipu rfl rfl rfl rfl F rfl rfl ?_; clear F a; intro a F
              refine wq_skipu rfl rfl rfl rfl F rfl rfl ?_; clear F a; intro a F
              refine wq_skipu rfl rfl rfl rfl F rfl rfl ?_; clear F a; intro a F
              refine wq_skipu rfl rfl rfl rfl F rfl rfl ?_; clear F a; intro a F
              refine wq_skipu rfl rfl rfl rfl F rfl rfl ?_; clear F a; intro a F
              refine wq_skipu rfl rfl rfl rfl F rfl rfl ?_; clear F a; intro a F
              refine wq_skipu rfl rfl rfl rfl F rfl rfl ?_; clear F a; intro a F
              refine wq_skipu rfl rfl rfl rfl F rfl rfl ?_; clear F a; intro a F
              refine wq_skipu rfl rfl rfl rfl F rfl rfl ?_; clear F a; intro a F
              refine wq_skipu rfl rfl rfl rfl F rfl rfl ?_; clear F a; intro a F
              refine wq_skipu rfl rfl rfl rfl F rfl rfl ?_; clear F a; intro a F
              refine wq_skip rfl rfl rfl rfl (ne_ft hc6) F rfl rfl ?_; clear F a; intro a F
              refine wq_ev (wn rfl) (ev_pickT rfl hc6 rfl) F rfl rfl ?_; clear F a; intro a F
              obtain rfl := Option.some.inj hm
              refine wq_nil ?_; exact F.sub ⟨rfl, rfl, rfl, rfl, rfl, rfl, rfl, trivial⟩
            · refine wq_ev (wg F rfl rfl rfl rfl hc6) (ev_move rfl) F rfl rfl ?_; clear F a; intro a F
              refine wq_ev (wg F rfl rfl rfl rfl hc6) (ev_move rfl) F rfl rfl ?_; clear F a; intro a F
              refine wq_ev (wg F rfl rfl rfl rfl hc6) (ev_lenSh ha_1 rfl tu31) F rfl rfl ?_; clear F a; intro a F
              refine wq_ev (wg F rfl rfl rfl rfl hc6) (ev_int rfl rfl (bo_lss _ _ _ _)) F rfl rfl ?_; clear F a; intro a F
              refine wq_ev (wg F rfl rfl rfl rfl hc6) (ev_move rfl) F rfl rfl ?_; clear F a; intro a F
              obtain ⟨x10, hx6, hm⟩ := bind_some hm
              refine wq_cut 18 (fun a => Fr 105 a [(82, .bool x10), (64, .bool (decide (x3 < (a_.length : Int)))), (63, .bool (decide (x3 < (a_.length : Int)))), (62, .int .i64 (a_.length : Int)), (61, va_1), (60, .int .i64 x3), (59, .bool (decide (x2 = (b_.length : Int)))), (8, .int .i64 x2), (7, .int .i64 x3), (6, v3), (5, v1), (0, va_1), (1, vb_1)]) ?_ ?_
              · clear hm; obtain ⟨hc7, hm⟩ | ⟨hc7, hm⟩ := ite_or hx6
                · refine wq_ev (wg F rfl rfl rfl rfl hc7) (ev_move rfl) F rfl rfl ?_; clear F a; intro a F
                  refine wq_ev (wg F rfl rfl rfl rfl hc7) (ev_move rfl) F rfl rfl ?_; clear F a; intro a F
                  obtain ⟨y6, hy6, hm⟩ := bind_some hm
                  obtain ⟨cs5, hr6, hp4⟩ := elemS (h1.mono l4) hy6
                  obtain ⟨v6, rfl, h7⟩ := rep_list hr6
                  refine wq_ev (wg F rfl rfl rfl rfl hc7) (ev_idxS (h1.mono l4) hy6 tu70 ts23 rfl rfl) F rfl rfl ?_; clear F a; intro a F
                  refine wq_ev (wg F rfl rfl rfl rfl hc7) (ev_load1 tu23 rfl rfl (ptr_mono (cks := [c2]) (fr := fr) hp4 (Le.refl _))) F rfl rfl ?_; clear F a; intro a F
                  refine wq_ev (wg F rfl rfl rfl rfl hc7) (ev_move rfl) F rfl rfl ?_; clear F a; intro a F
                  obtain ⟨z3, hz3, hm⟩ := bind_some hm
                  refine wq_ev (wg F rfl rfl rfl rfl hc7) (ev_int rfl rfl (bo_add hz3)) F rfl rfl ?_; clear F a; intro a F
                  obtain ⟨y7, hy7, hm⟩ := bind_some hm
                  obtain ⟨cs6, hr7, hp5⟩ := elemS h7 hy7
                  obtain rfl := rep_int hr7
                  refine wq_ev (wg F rfl rfl rfl rfl hc7) (ev_idxS h7 hy7 tu23 ts3 rfl rfl) F rfl rfl ?_; clear F a; intro a F
                  refine wq_ev (wg F rfl rfl rfl rfl hc7) (ev_load1 tu3 rfl rfl (ptr_mono (cks := [c2]) (fr := fr) hp5 (Le.refl _))) F rfl rfl ?_; clear F a; intro a F
                  refine wq_ev (wg F rfl rfl rfl rfl hc7) (ev_move rfl) F rfl rfl ?_; clear F a; intro a F
                  refine wq_ev (wg F rfl rfl rfl rfl hc7) (ev_move rfl) F rfl rfl ?_; clear F a; intro a F
                  obtain ⟨z4, hz4, hm⟩ := bind_some hm
                  refine wq_ev (wg F rfl rfl rfl rfl hc7) (ev_int rfl rfl (bo_add hz4)) F rfl rfl ?_; clear F a; intro a F
                  obtain ⟨y8, hy8, hm⟩ := bind_some hm
                  obtain ⟨cs7, hr8, hp6⟩ := elemS (h1.mono l4) hy8
                  obtain ⟨v7, rfl, h8⟩ := rep_list hr8
                  refine wq_ev (wg F rfl rfl rfl rfl hc7) (ev_idxS (h1.mono l4) hy8 tu70 ts23 rfl rfl) F rfl rfl ?_; clear F a; intro a F
                  refine wq_ev (wg F rfl rfl rfl rfl hc7) (ev_load1 tu23 rfl rfl (ptr_mono (cks := [c2]) (fr := fr) hp6 (Le.refl _))) F rfl rfl ?_; clear F a; intro a F
                  refine wq_ev (wg F rfl rfl rfl rfl hc7) (ev_move rfl) F rfl rfl ?_; clear F a; intro a F
                  obtain ⟨y9, hy9, hm⟩ := bind_some hm
                  obtain ⟨cs8, hr9, hp7⟩ := elemS h8 hy9
                  obtain rfl := rep_int hr9
                  refine wq_ev (wg F rfl rfl rfl rfl hc7) (ev_idxS h8 hy9 tu23 ts3 rfl rfl) F rfl rfl ?_; clear F a; intro a F
                  refine wq_ev (wg F rfl rfl rfl rfl hc7) (ev_load1 tu3 rfl rfl (ptr_mono (cks := [c2]) (fr := fr) hp7 (Le.refl _))) F rfl rfl ?_; clear F a; intro a F
                  refine wq_ev (wg F rfl rfl rfl rfl hc7) (ev_int rfl rfl (bo_geq _ _ _ _)) F rfl rfl ?_; clear F a; intro a F
                  refine wq_ev (wg F rfl rfl rfl rfl hc6) (ev_pickT rfl hc7 rfl) F rfl rfl ?_; clear F a; intro a F
                  obtain rfl := Option.some.inj hm
                  refine wq_nil ?_; exact F.sub ⟨rfl, rfl, rfl, rfl, rfl, rfl, rfl, rfl, rfl, rfl, rfl, rfl, rfl, trivial⟩
                · refine wq_skip rfl rfl rfl rfl (ne_tf hc7) F rfl rfl ?_; clear F a; intro a F
                  refine wq_skip rfl rfl rfl rfl (ne_tf hc7) F rfl rfl ?_; clear F a; intro a F
                  refine wq_skip rfl rfl rfl rfl (ne_tf hc7) F rfl rfl ?_; clear F a; intro a F
                  refine wq_skip rfl rfl rfl rfl (ne_tf hc7) F rfl rfl ?_; clear F a; intro a F
                  refine wq_skip rfl rfl rfl rfl (ne_tf hc7) F rfl rfl ?_; clear F a; intro a F
                  refine wq_skip rfl rfl rfl rfl (ne_tf hc7) F rfl rfl ?_; clear F a; intro a F
                  refine wq_skip rfl rfl rfl rfl (ne_tf hc7) F rfl rfl ?_; clear F a; intro a F
                  refine wq_skip rfl rfl rfl rfl (ne_tf hc7) F rfl rfl ?_; clear F a; intro a F
                  refine wq_skip rfl rfl rfl rfl (ne_tf hc7) F rfl rfl ?_; clear F a; intro a F
                  refine wq_skip rfl rfl rfl rfl (ne_tf hc7) F rfl rfl ?_; clear F a; intro a F
                  refine wq_skip rfl rfl rfl rfl (ne_tf hc7) F rfl rfl ?_; clear F a; intro a F
                  refine wq_skip rfl rfl rfl rfl (ne_tf hc7) F rfl rfl ?_; clear F a; intro a F
                  refine wq_skip rfl rfl rfl rfl (ne_tf hc7) F rfl rfl ?_; clear F a; intro a F
                  refine wq_skip rfl rfl rfl rfl (ne_tf hc7) F rfl rfl ?_; clear F a; intro a F
                  refine wq_skip rfl rfl rfl rfl (ne_tf hc7) F rfl rfl ?_; clear F a; intro a F
                  refine wq_skip rfl rfl rfl rfl (ne_tf hc7) F rfl rfl ?_; clear F a; intro a F
                  refine wq_skip rfl rfl rfl rfl (ne_tf hc7) F rfl rfl ?_; clear F a; intro a F
                  refine wq_ev (wg F rfl rfl rfl rfl hc6) (ev_pickF rfl hc7 rfl) F rfl rfl ?_; clear F a; intro a F
                  obtain rfl := Option.some.inj hm
                  refine wq_nil ?_; exact F.sub ⟨rfl, rfl, rfl, rfl, rfl, rfl, rfl, rfl, rfl, rfl, rfl, rfl, rfl, trivial⟩
              clear F; intro a F
              refine wq_ev (wn rfl) (ev_pickF rfl hc6 rfl) F rfl rfl ?_; clear F a; intro a F
              obtain rfl := Option.some.inj hm
              refine wq_nil ?_; exact F.sub ⟨rfl, rfl, rfl, rfl, rfl, rfl, rfl, trivial⟩
          clear F; intro a F
          refine wq_nil ?_; clear S; intro w S
          refine then_n ?_
          obtain ⟨hc8, hm⟩ | ⟨hc8, hm⟩ := ite_or hm
          · refine wp_condT F rfl hc8 ?_
            refine wp_seq ?_
            refine wp_region_lit ?_
            refine wl_ev (wn rfl) (ev_move rfl) F S rfl rfl ?_; clear F a; intro a F
            refine wl_ev (wn rfl) (ev_move rfl) F S rfl rfl ?_; clear F a; intro a F
            refine wl_ev (wn rfl) (ev_move rfl) F S rfl rfl ?_; clear F a; intro a F
            obtain ⟨y10, hy10, hm⟩ := bind_some hm
            obtain ⟨cs9, hr10, hp8⟩ := elemS (ha_1.mono (l1.trans l4)) hy10
            obtain rfl := rep_str hr10
            refine wl_ev (wn rfl) (ev_idxS (ha_1.mono (l1.trans l4)) hy10 tu31 ts9 rfl rfl) F S rfl rfl ?_; clear F a; intro a F
            refine wl_ev (wn rfl) (ev_load1 tu9 rfl rfl (ptr_mono (cks := [c2]) (fr := fr) hp8 (Le.refl _))) F S rfl rfl ?_; clear F a; intro a F
            refine wl_ev (wn rfl) (ev_build (parts := [(0, .const (.int .i64 1)), (1, .tmp 88)]) (vs := [(0, .int .i64 1), (1, .string y10)]) rfl (fun w => tb55_0_1 1 y10 w)) F S rfl rfl ?_; clear F a; intro a F
            refine wl_lit (l := ([({ Kind := 1, Text := y10 } : Step_changeforgeref1)] : List Step_changeforgeref1)) (vs := [.agg #[.int .i64 1, .string y10]]) (parts := [(0, .tmp 89)]) (wn rfl) rfl rfl rfl tu52 te55 (sz_cons rfl sz_nil) rfl (Cat.cons (rep_Step_changeforgeref1_mk (x := ({ Kind := 1, Text := y10 } : Step_changeforgeref1)) ) (Cat.nil _)) (coa_cons rfl coa_nil) rfl F S rfl rfl ?_; clear F a S
            rintro v8 c5 a w h9 F S
            obtain ⟨cs10, hk2, hr11⟩ := OwnS.reads h9
            obtain ⟨y11, hy11, hm⟩ := bind_some hm
            refine wl_append (wn rfl) rfl tu52 tu52 te55 (by decide) (by decide) F S rfl rfl (k := 1) rfl h4 hk2 rfl (hr11 _ _ _ 0 rfl S) hy11 rfl rfl ?_; clear F a S
            rintro v9 c6 a w h10 S F; replace S : St g4 [c5, c6] fr w := S
            refine wl_ev (wn rfl) (ev_assign rfl) F S rfl rfl ?_; clear F a; intro a F
            refine wpList_nil ?_
            replace F := F.sub (e' := [(6, v9), (8, .int .i64 x2), (7, .int .i64 x3), (5, v1), (0, va_1), (1, vb_1)]) ⟨rfl, rfl, rfl, rfl, rfl, rfl, trivial⟩
            refine then_n ?_
            refine wp_region_lit ?_
            refine wl_ev (wn rfl) (ev_move rfl) F S rfl rfl ?_; clear F a; intro a F
            obtain ⟨z5, hz5, hm⟩ := bind_some hm
            refine wl_ev (wn rfl) (ev_int rfl rfl (bo_add hz5)) F S rfl rfl ?_; clear F a; intro a F
            refine wl_ev (wn rfl) (ev_assign rfl) F S rfl rfl ?_; clear F a; intro a F
            refine wpList_nil ?_
            replace F := F.sub (e' := [(7, .int .i64 z5), (6, v9), (8, .int .i64 x2), (5, v1), (0, va_1), (1, vb_1)]) ⟨rfl, rfl, rfl, rfl, rfl, rfl, trivial⟩
            refine inb_n ?_
            refine then_n ?_
            obtain rfl := Option.some.inj hm
            refine ⟨_, rfl, ?_⟩
            dsimp only
            replace S : St g4 [c6] fr w := St.tail [c6] _ (S.frontC 1 rfl)
            exact ⟨v9, c6, g4, F.sub ⟨rfl, rfl, rfl, rfl, rfl, rfl, trivial⟩, l4, S, h10⟩
          · refine wp_condF F rfl hc8 ?_
            refine wp_seq ?_
            refine wp_region_lit ?_
            refine wl_ev (wn rfl) (ev_move rfl) F S rfl rfl ?_; clear F a; intro a F
            refine wl_ev (wn rfl) (ev_move rfl) F S rfl rfl ?_; clear F a; intro a F
            refine wl_ev (wn rfl) (ev_move rfl) F S rfl rfl ?_; clear F a; intro a F
            obtain ⟨y12, hy12, hm⟩ := bind_some hm
            obtain ⟨cs11, hr12, hp9⟩ := elemS (hb_1.mono (l1.trans l4)) hy12
            obtain rfl := rep_str hr12
            refine wl_ev (wn rfl) (ev_idxS (hb_1.mono (l1.trans l4)) hy12 tu31 ts9 rfl rfl) F S rfl rfl ?_; clear F a; intro a F
            refine wl_ev (wn rfl) (ev_load1 tu9 rfl rfl (ptr_mono (cks := [c2]) (fr := fr) hp9 (Le.refl _))) F S rfl rfl ?_; clear F a; intro a F
            refine wl_ev (wn rfl) (ev_build (parts := [(0, .const (.int .i64 2)), (1, .tmp 98)]) (vs := [(0, .int .i64 2), (1, .string y12)]) rfl (fun w => tb55_0_1 2 y12 w)) F S rfl rfl ?_; clear F a; intro a F
            refine wl_lit (l := ([({ Kind := 2, Text := y12 } : Step_changeforgeref1)] : List Step_changeforgeref1)) (vs := [.agg #[.int .i64 2, .string y12]]) (parts := [(0, .tmp 99)]) (wn rfl) rfl rfl rfl tu52 te55 (sz_cons rfl sz_nil) rfl (Cat.cons (rep_Step_changeforgeref1_mk (x := ({ Kind := 2, Text := y12 } : Step_changeforgeref1)) ) (Cat.nil _)) (coa_cons rfl coa_nil) rfl F S rfl rfl ?_; clear F a S
            rintro v10 c7 a w h11 F S
            obtain ⟨cs12, hk3, hr13⟩ := OwnS.reads h11
            obtain ⟨y13, hy13, hm⟩ := bind_some hm
            refine wl_append (wn rfl) rfl tu52 tu52 te55 (by decide) (by decide) F S rfl rfl (k := 1) rfl h4 hk3 rfl (hr13 _ _ _ 0 rfl S) hy13 rfl rfl ?_; clear F a S
            rintro v11 c8 a w h12 S F; replace S : St g4 [c7, c8] fr w := S
            refine wl_ev (wn rfl) (ev_assign rfl) F S rfl rfl ?_; clear F a; intro a F
            refine wpList_nil ?_
            replace F := F.sub (e' := [(6, v11), (8, .int .i64 x2), (7, .int .i64 x3), (5, v1), (0, va_1), (1, vb_1)]) ⟨rfl, rfl, rfl, rfl, rfl, rfl, trivial⟩
            refine then_n ?_
            refine wp_region_lit ?_
            refine wl_ev (wn rfl) (ev_move rfl) F S rfl rfl ?_; clear F a; intro a F
            obtain ⟨z6, hz6, hm⟩ := bind_some hm
            refine wl_ev (wn rfl) (ev_int rfl rfl (bo_add hz6)) F S rfl rfl ?_; clear F a; intro a F
            refine wl_ev (wn rfl) (ev_assign rfl) F S rfl rfl ?_; clear F a; intro a F
            refine wpList_nil ?_
            replace F := F.sub (e' := [(8, .int .i64 z6), (6, v11), (7, .int .i64 x3), (5, v1), (0, va_1), (1, vb_1)]) ⟨rfl, rfl, rfl, rfl, rfl, rfl, trivial⟩
            refine inb_n ?_
            refine then_n ?_
            obtain rfl := Option.some.inj hm
            refine ⟨_, rfl, ?_⟩
            dsimp only
            replace S : St g4 [c8] fr w := St.tail [c8] _ (S.frontC 1 rfl)
            exact ⟨v11, c8, g4, F.sub ⟨rfl, rfl, rfl, rfl, rfl, rfl, trivial⟩, l4, S, h12⟩
      · refine wp_condF F rfl hc2 ?_
        refine wp_exit ?_
        refine then_e ?_
        refine then_e ?_
        refine inb_x ?_
        refine then_n ?_
        obtain rfl := Option.some.inj hm
        obtain rfl := hfin1 _ rfl
        clear hm
        have hm : (changeforgeref1_Align.j1 x4 : Option (List Step_changeforgeref1)) = some _ := hmo1
        exact ⟨x4, v3, c2, g4, F.sub ⟨rfl, trivial⟩, l4, S, h4, hm⟩
  · clear F S hm; rintro a w ⟨x1, v2, c1, g2, F, l2, S, h2, hm⟩
    refine wp_seq ?_
    refine wp_region_lit ?_
    refine wl_ev (wn rfl) (ev_move rfl) F S rfl rfl ?_; clear F a; intro a F
    refine wl_ev (wn rfl) (ev_assign rfl) F S rfl rfl ?_; clear F a; intro a F
    refine wpList_nil ?_
    replace F := F.sub (e' := [(4, v2)]) ⟨rfl, trivial⟩
    refine then_n ?_
    refine wp_ret ?_
    obtain rfl := Option.some.inj hm
    obtain ⟨g3, l3, S, h3⟩ : ∃ gz, Le g2 gz ∧ St gz [] fr w ∧ RepSl gz x1 v2 := ⟨_, Le.add _ _, S.freeze 0 rfl, OwnS.freeze (S.front 0 rfl) h2⟩
    refine post_r (fn := Try.f26) (rs := [.tmp 4]) [v2] F rfl (ar_cons (resT rfl) ar_nil) ?_
    exact ⟨_, rfl, g3, v2, ((l1.trans l2).trans l3), S, h3, rfl⟩

theorem changeforgeref2_Annotated_ok {g : Gh} {fr : Hl} {w : World} {r : (List Int)} (versions : (List (List ByteArray))) (vversions1 : Value) (hversions1 : RepSl g versions vversions1) (S : St g [] fr w) (hm : changeforgeref2_Annotated versions = some r) :
    Calls Try.prog 15 [vversions1].toArray w (fun en w' => ∃ v, en = .returned v ∧ ∃ (g' : Gh) (v1 : Value), Le g g' ∧ St g' [] fr w' ∧ RepSl g' r v1 ∧ v1 = v) := by
  unfold changeforgeref2_Annotated at hm
  refine calls_enter (fn := Try.f15) Try.func15 rfl Try.ntmps15 (Nat.le_of_ble_eq_true rfl) ?_
  intro a F
  replace F : Fr 59 a [(0, vversions1)] := F
  refine wp_seq ?_
  refine wp_region_lit ?_
  refine wl_ev (wn rfl) (ev_assign rfl) F S rfl rfl ?_; clear F a; intro a F
  refine wpList_nil ?_
  replace F := F.sub (e' := [(0, vversions1)]) ⟨rfl, trivial⟩
  refine then_n ?_
  refine wp_seq ?_
  refine wp_region_lit ?_
  refine wl_ev (wn rfl) (ev_assign rfl) F S rfl rfl ?_; clear F a; intro a F
  refine wpList_nil ?_
  refine then_n ?_
  refine wp_seq ?_
  refine wp_region_lit ?_
  refine wl_ev (wn rfl) (ev_assign rfl) F S rfl rfl ?_; clear F a; intro a F
  refine wpList_nil ?_
  refine then_n ?_
  refine wp_cut (fun a w => ∃ (x1 : List Int) (v1 : Value) (c1 : Hl) (g1 : Gh), Fr 59 a [(3, v1)] ∧ Le g g1 ∧ St g1 [c1] fr w ∧ OwnS g1 x1 v1 c1 ∧ changeforgeref2_Annotated.j1 x1 = some r) ?_ ?_
  · refine wp_seq ?_
    refine wp_region_lit ?_
    refine wl_ev (wn rfl) (ev_assign rfl) F S rfl rfl ?_; clear F a; intro a F
    refine wpList_nil ?_
    refine then_n ?_
    refine wp_block ?_
    obtain ⟨r1, hr1, hm⟩ := bind_some hm
    have hmo1 := hm; clear hm
    refine wp_iter (σ := Int × (List ByteArray) × (List Int)) (ρ := (List Int)) (m := fun s => changeforgeref2_Annotated.l1 versions s.1 s.2.1 s.2.2) (I := fun s a w => match s with | (x2, x3, x4) => ∃ (v2 v3 : Value) (c2 : Hl) (g3 : Gh), Fr 59 a [(5, .int .i64 x2), (4, v2), (3, v3), (0, vversions1)] ∧ Le g g3 ∧ St g3 [c2] fr w ∧ RepSl g3 x3 v2 ∧ OwnS g3 x4 v3 c2) hr1 ?_ ?_
    · dsimp only
      replace S : St g [[]] fr w := S
      exact ⟨(.slice Option.none 0 0), (.slice Option.none 0 0), [], g, F.sub ⟨rfl, rfl, rfl, rfl, trivial⟩, (Le.refl _), S, (RepSl.nil _), (OwnS.nil _)⟩
    · clear F S; rintro ⟨x2, x3, x4⟩ a w x5 ⟨v2, v3, c2, g3, F, l3, S, h3, h4⟩ hx1 hfin1
      have hm : changeforgeref2_Annotated.l1 versions x2 x3 x4 = some x5 := hx1; clear hx1
      unfold changeforgeref2_Annotated.l1 at hm
      refine wp_seq ?_
      refine wp_seq ?_
      refine wp_region_lit ?_
      refine wl_ev (wn rfl) (ev_move rfl) F S rfl rfl ?_; clear F a; intro a F
      refine wl_ev (wn rfl) (ev_move rfl) F S rfl rfl ?_; clear F a; intro a F
      refine wl_ev (wn rfl) (ev_lenSh hversions1 rfl tu22) F S rfl rfl ?_; clear F a; intro a F
      refine wl_ev (wn rfl) (ev_int rfl rfl (bo_lss _ _ _ _)) F S rfl rfl ?_; clear F a; intro a F
      refine wpList_nil ?_
      replace F := F.sub (e' := [(13, .bool (decide (x2 < (versions.length : Int)))), (5, .int .i64 x2), (4, v2), (3, v3), (0, vversions1)]) ⟨rfl, rfl, rfl, rfl, rfl, trivial⟩
      refine then_n ?_
      obtain ⟨hc1, hm⟩ | ⟨hc1, hm⟩ := ite_or hm
      · refine wp_condT F rfl hc1 ?_
        refine wp_skip ?_
        refine then_n ?_
        refine wp_cut (fun a w => ∃ (x6 : List ByteArray) (x7 : List Int) (v4 v5 : Value) (c3 : Hl) (g4 : Gh), Fr 59 a [(4, v4), (3, v5), (5, .int .i64 x2), (0, vversions1)] ∧ Le g3 g4 ∧ St g4 [c3] fr w ∧ RepSl g4 x6 v4 ∧ OwnS g4 x7 v5 c3 ∧ changeforgeref2_Annotated.j2 x2 x6 x7 = some x5) ?_ ?_
        · refine wp_block ?_
          refine wp_seq ?_
          refine wp_region_lit ?_
          refine wl_ev (wn rfl) (ev_move rfl) F S rfl rfl ?_; clear F a; intro a F
          refine wl_ev (wn rfl) (ev_move rfl) F S rfl rfl ?_; clear F a; intro a F
          refine wl_ev (wn rfl) (ev_move rfl) F S rfl rfl ?_; clear F a; intro a F
          obtain ⟨y1, hy1, hm⟩ := bind_some hm
          obtain ⟨cs1, hr2, hp1⟩ := elemS (hversions1.mono l3) hy1
          obtain ⟨v6, rfl, h7⟩ := rep_list hr2
          refine wl_ev (wn rfl) (ev_idxS (hversions1.mono l3) hy1 tu22 ts31 rfl rfl) F S rfl rfl ?_; clear F a; intro a F
          refine wl_ev (wn rfl) (ev_load1 tu31 rfl rfl (ptr_mono (cks := [c2]) (fr := fr) hp1 (Le.refl _))) F S rfl rfl ?_; clear F a; intro a F
          obtain ⟨y2, hy2, hm⟩ := bind_some hm
          refine wl_call (wn rfl) rfl (xs := [.tmp 16, .tmp 20]) (vs := [v2, v6]) (cap := []) F rfl rfl tc26 (changeforgeref1_Align_ok (g := g3) (fr := (fl [c2] fr)) (w := w) x3 v2 h3 y1 v6 h7 S hy2) rfl rfl ?_; clear F a S
          rintro _ a w ⟨g5, v7, l5, S, h8, rfl⟩ F; replace S : St g5 [c2] fr w := S
          refine wl_ev (wn rfl) (ev_assign rfl) F S rfl rfl ?_; clear F a; intro a F
          refine wpList_nil ?_
          replace F := F.sub (e' := [(6, v7), (5, .int .i64 x2), (3, v3), (0, vversions1)]) ⟨rfl, rfl, rfl, rfl, trivial⟩
          refine then_n ?_
          refine wp_seq ?_
          refine wp_region_lit ?_
          refine wl_ev (wn rfl) (ev_assign rfl) F S rfl rfl ?_; clear F a; intro a F
          refine wpList_nil ?_
          refine then_n ?_
          refine wp_seq ?_
          refine wp_region_lit ?_
          refine wl_ev (wn rfl) (ev_assign rfl) F S rfl rfl ?_; clear F a; intro a F
          refine wpList_nil ?_
          refine then_n ?_
          refine wp_cut (fun a w => ∃ (x8 : List Int) (v8 : Value) (c4 : Hl) (g6 : Gh), Fr 59 a [(7, v8), (5, .int .i64 x2), (0, vversions1)] ∧ Le g5 g6 ∧ St g6 [c4] fr w ∧ OwnS g6 x8 v8 c4 ∧ changeforgeref2_Annotated.j3 versions x2 x8 = some x5) ?_ ?_
          · refine wp_seq ?_
            refine wp_region_lit ?_
            refine wl_ev (wn rfl) (ev_assign rfl) F S rfl rfl ?_; clear F a; intro a F
            refine wpList_nil ?_
            refine then_n ?_
            refine wp_block ?_
            obtain ⟨r2, hr4, hm⟩ := bind_some hm
            have hmo2 := hm; clear hm
            refine wp_iter (σ := Int × Int × (List Int)) (ρ := (List Int)) (m := fun s => changeforgeref2_Annotated.l2 x2 x4 y2 s.1 s.2.1 s.2.2) (I := fun s a w => match s with | (x9, x10, x11) => ∃ (v10 : Value) (c5 : Hl) (g7 : Gh), Fr 59 a [(9, .int .i64 x9), (8, .int .i64 x10), (7, v10), (6, v7), (5, .int .i64 x2), (3, v3), (0, vversions1)] ∧ Le g5 g7 ∧ St g7 [c5, c2] fr w ∧ OwnS g7 x11 v10 c5) hr4 ?_ ?_
            · dsimp only
              replace S : St g5 [[], c2] fr w := S
              exact ⟨(.slice Option.none 0 0), [], g5, F.sub ⟨rfl, rfl, rfl, rfl, rfl, rfl, rfl, trivial⟩, (Le.refl _), S, (OwnS.nil _)⟩
            · clear F S; rintro ⟨x9, x10, x11⟩ a w x12 ⟨v10, c5, g7, F, l7, S, h11⟩ hx2 hfin2
              have hm : changeforgeref2_Annotated.l2 x2 x4 y2 x9 x10 x11 = some x12 := hx2; clear hx2
              unfold changeforgeref2_Annotated.l2 at hm
              refine wp_seq ?_
              refine wp_seq ?_
              refine wp_region_lit ?_
              refine wl_ev (wn rfl) (ev_move rfl) F S rfl rfl ?_; clear F a; intro a F
              refine wl_ev (wn rfl) (ev_move rfl) F S rfl rfl ?_; clear F a; intro a F
              refine wl_ev (wn rfl) (ev_lenSh h8 rfl tu52) F S rfl rfl ?_; clear F a; intro a F
              refine wl_ev (wn rfl) (ev_int rfl rfl (bo_lss _ _ _ _)) F S rfl rfl ?_; clear F a; intro a F
              refine wpList_nil ?_
              replace F := F.sub (e' := [(25, .bool (decide (x9 < (y2.length : Int)))), (9, .int .i64 x9), (8, .int .i64 x10), (7, v10), (6, v7), (5, .int .i64 x2), (3, v3), (0, vversions1)]) ⟨rfl, rfl, rfl, rfl, rfl, rfl, rfl, rfl, trivial⟩
              refine then_n ?_
              obtain ⟨hc2, hm⟩ | ⟨hc2, hm⟩ := ite_or hm
              · refine wp_condT F rfl hc2 ?_
                refine wp_skip ?_
                refine then_n ?_
                refine wp_cut (fun a w => ∃ (x13 : List Int) (x14 : Int) (v11 : Value) (c6 : Hl) (g8 : Gh), Fr 59 a [(7, v11), (9, .int .i64 x9), (8, .int .i64 x14), (6, v7), (5, .int .i64 x2), (3, v3), (0, vversions1)] ∧ Le g7 g8 ∧ St g8 [c6, c2] fr w ∧ OwnS g8 x13 v11 c6 ∧ changeforgeref2_Annotated.j4 x9 x13 x14 = some x12) ?_ ?_
                · refine wp_block ?_
                  refine wp_cut (fun a w => ∃ (x15 : List Int) (v12 : Value) (c7 : Hl) (g9 : Gh), Fr 59 a [(7, v12), (9, .int .i64 x9), (8, .int .i64 x10), (6, v7), (5, .int .i64 x2), (3, v3), (0, vversions1)] ∧ Le g7 g9 ∧ St g9 [c7, c2] fr w ∧ OwnS g9 x15 v12 c7 ∧ changeforgeref2_Annotated.j5 x2 y2 x9 x10 x15 = some x12) ?_ ?_
                  · refine wp_seq ?_
                    refine wp_region_lit ?_
                    refine wl_ev (wn rfl) (ev_move rfl) F S rfl rfl ?_; clear F a; intro a F
                    refine wl_ev (wn rfl) (ev_move rfl) F S rfl rfl ?_; clear F a; intro a F
                    obtain ⟨y6, hy6, hm⟩ := bind_some hm
                    obtain ⟨cs5, hr7, hp5⟩ := elemS (h8.mono l7) hy6
                    obtain rfl := rep_Step_changeforgeref1 hr7
                    refine wl_ev (wn rfl) (ev_idxS (h8.mono l7) hy6 tu52 ts55 rfl rfl) F S rfl rfl ?_; clear F a; intro a F
                    have hp6 := PtrC.field hp5 0 1 (Nat.le_of_ble_eq_true rfl)
                    have hp6 : PtrC g7 (addP (elemP v7 x9 2) 0) [.int .i64 y6.Kind] := hp6
                    refine wl_ev (wn rfl) (ev_fieldAddr' tu55 tf55_0 (z := 0) ts3 rfl hp5.ptr rfl) F S rfl rfl ?_; clear F a; intro a F
                    refine wl_ev (wn rfl) (ev_load1 tu3 rfl rfl (ptr_mono (cks := [c5, c2]) (fr := fr) hp6 (Le.refl _))) F S rfl rfl ?_; clear F a; intro a F
                    refine wl_ev (wn rfl) (ev_int rfl rfl (bo_eql _ _ _ _)) F S rfl rfl ?_; clear F a; intro a F
                    refine wpList_nil ?_
                    replace F := F.sub (e' := [(33, .bool (decide (y6.Kind = 0))), (9, .int .i64 x9), (8, .int .i64 x10), (7, v10), (6, v7), (5, .int .i64 x2), (3, v3), (0, vversions1)]) ⟨rfl, rfl, rfl, rfl, rfl, rfl, rfl, rfl, trivial⟩
                    refine then_n ?_
                    obtain ⟨hc4, hm⟩ | ⟨hc4, hm⟩ := ite_or hm
                    · refine wp_condT F rfl hc4 ?_
                      refine wp_region_lit ?_
                      refine wl_ev (wn rfl) (ev_move rfl) F S rfl rfl ?_; clear F a; intro a F
                      refine wl_ev (wn rfl) (ev_move rfl) F S rfl rfl ?_; clear F a; intro a F
                      refine wl_ev (wn rfl) (ev_move rfl) F S rfl rfl ?_; clear F a; intro a F
                      obtain ⟨y7, hy7, hm⟩ := bind_some hm
                      refine wl_ev (wn rfl) (ev_idxO (h4.mono (l5.trans l7)) hy7 tu23 ts3 rfl rfl) F S rfl rfl ?_; clear F a; intro a F
                      obtain ⟨cs6, hr8, hq1⟩ := elemO (h4.mono (l5.trans l7)) hy7
                      obtain rfl := rep_int hr8
                      refine wl_ev (wn rfl) (ev_load1 tu3 rfl rfl (hq1 _ _ 1 rfl)) F S rfl rfl ?_; clear F a; intro a F
                      refine wl_lit (l := ([y7] : List Int)) (vs := [.int .i64 y7]) (parts := [(0, .tmp 38)]) (wn rfl) rfl rfl rfl tu23 te3 (sz_cons rfl sz_nil) rfl (Cat.cons (show Rep.rep _ y7 _ from rfl) (Cat.nil _)) (coa_cons rfl coa_nil) rfl F S rfl rfl ?_; clear F a S
                      rintro v15 c10 a w h16 F S
                      obtain ⟨cs7, hk2, hr9⟩ := OwnS.reads h16
                      obtain ⟨y8, hy8, hm⟩ := bind_some hm
                      refine wl_append (wn rfl) rfl tu23 tu23 te3 (by decide) (by decide) F S rfl rfl (k := 1) rfl h11 hk2 rfl (hr9 _ _ _ 0 rfl S) hy8 rfl rfl ?_; clear F a S
                      rintro v16 c11 a w h17 S F; replace S : St g7 [c10, c11, c2] fr w := S
                      refine wl_ev (wn rfl) (ev_assign rfl) F S rfl rfl ?_; clear F a; intro a F
                      refine wpList_nil ?_
                      replace F := F.sub (e' := [(7, v16), (9, .int .i64 x9), (8, .int .i64 x10), (6, v7), (5, .int .i64 x2), (3, v3), (0, vversions1)]) ⟨rfl, rfl, rfl, rfl, rfl, rfl, rfl, trivial⟩
                      refine then_n ?_
                      replace S : St g7 [c11, c2] fr w := St.tail [c11, c2] _ ((S.frontC 2 rfl).frontC 2 rfl)
                      exact ⟨y8, v16, c11, g7, F.sub ⟨rfl, rfl, rfl, rfl, rfl, rfl, rfl, trivial⟩, (Le.refl _), S, h17, hm⟩
                    · refine wp_condF F rfl hc4 ?_
                      refine wp_skip ?_
                      refine then_n ?_
                      exact ⟨x11, v10, c5, g7, F.sub ⟨rfl, rfl, rfl, rfl, rfl, rfl, rfl, trivial⟩, (Le.refl _), S, h11, hm⟩
                  · clear F S hm; rintro a w ⟨x15, v12, c7, g9, F, l9, S, h13, hm⟩
                    refine wp_seq ?_
                    refine wp_region_lit ?_
                    refine wl_ev (wn rfl) (ev_move rfl) F S rfl rfl ?_; clear F a; intro a F
                    refine wl_ev (wn rfl) (ev_move rfl) F S rfl rfl ?_; clear F a; intro a F
                    obtain ⟨y4, hy4, hm⟩ := bind_some hm
                    obtain ⟨cs3, hr5, hp3⟩ := elemS (h8.mono (l7.trans l9)) hy4
                    obtain rfl := rep_Step_changeforgeref1 hr5
                    refine wl_ev (wn rfl) (ev_idxS (h8.mono (l7.trans l9)) hy4 tu52 ts55 rfl rfl) F S rfl rfl ?_; clear F a; intro a F
                    have hp4 := PtrC.field hp3 0 1 (Nat.le_of_ble_eq_true rfl)
                    have hp4 : PtrC g9 (addP (elemP v7 x9 2) 0) [.int .i64 y4.Kind] := hp4
                    refine wl_ev (wn rfl) (ev_fieldAddr' tu55 tf55_0 (z := 0) ts3 rfl hp3.ptr rfl) F S rfl rfl ?_; clear F a; intro a F
                    refine wl_ev (wn rfl) (ev_load1 tu3 rfl rfl (ptr_mono (cks := [c7, c2]) (fr := fr) hp4 (Le.refl _))) F S rfl rfl ?_; clear F a; intro a F
                    refine wl_ev (wn rfl) (ev_int rfl rfl (bo_eql _ _ _ _)) F S rfl rfl ?_; clear F a; intro a F
                    refine wpList_nil ?_
                    replace F := F.sub (e' := [(46, .bool (decide (y4.Kind = 2))), (7, v12), (9, .int .i64 x9), (8, .int .i64 x10), (6, v7), (5, .int .i64 x2), (3, v3), (0, vversions1)]) ⟨rfl, rfl, rfl, rfl, rfl, rfl, rfl, rfl, trivial⟩
                    refine then_n ?_
                    obtain ⟨hc3, hm⟩ | ⟨hc3, hm⟩ := ite_or hm
                    · refine wp_condT F rfl hc3 ?_
                      refine wp_region_lit ?_
                      refine wl_ev (wn rfl) (ev_move rfl) F S rfl rfl ?_; clear F a; intro a F
                      refine wl_ev (wn rfl) (ev_move rfl) F S rfl rfl ?_; clear F a; intro a F
                      refine wl_lit (l := ([x2] : List Int)) (vs := [.int .i64 x2]) (parts := [(0, .tmp 48)]) (wn rfl) rfl rfl rfl tu23 te3 (sz_cons rfl sz_nil) rfl (Cat.cons (show Rep.rep _ x2 _ from rfl) (Cat.nil _)) (coa_cons rfl coa_nil) rfl F S rfl rfl ?_; clear F a S
                      rintro v13 c8 a w h14 F S
                      obtain ⟨cs4, hk1, hr6⟩ := OwnS.reads h14
                      obtain ⟨y5, hy5, hm⟩ := bind_some hm
                      refine wl_append (wn rfl) rfl tu23 tu23 te3 (by decide) (by decide) F S rfl rfl (k := 1) rfl h13 hk1 rfl (hr6 _ _ _ 0 rfl S) hy5 rfl rfl ?_; clear F a S
                      rintro v14 c9 a w h15 S F; replace S : St g9 [c8, c9, c2] fr w := S
                      refine wl_ev (wn rfl) (ev_assign rfl) F S rfl rfl ?_; clear F a; intro a F
                      refine wpList_nil ?_
                      replace F := F.sub (e' := [(7, v14), (9, .int .i64 x9), (8, .int .i64 x10), (6, v7), (5, .int .i64 x2), (3, v3), (0, vversions1)]) ⟨rfl, rfl, rfl, rfl, rfl, rfl, rfl, trivial⟩
                      refine inb_n ?_
                      refine then_n ?_
                      replace S : St g9 [c9, c2] fr w := St.tail [c9, c2] _ ((S.frontC 2 rfl).frontC 2 rfl)
                      exact ⟨y5, x10, v14, c9, g9, F.sub ⟨rfl, rfl, rfl, rfl, rfl, rfl, rfl, trivial⟩, l9, S, h15, hm⟩
                    · refine wp_condF F rfl hc3 ?_
                      refine wp_region_lit ?_
                      refine wl_ev (wn rfl) (ev_move rfl) F S rfl rfl ?_; clear F a; intro a F
                      obtain ⟨z3, hz3, hm⟩ := bind_some hm
                      refine wl_ev (wn rfl) (ev_int rfl rfl (bo_add hz3)) F S rfl rfl ?_; clear F a; intro a F
                      refine wl_ev (wn rfl) (ev_assign rfl) F S rfl rfl ?_; clear F a; intro a F
                      refine wpList_nil ?_
                      replace F := F.sub (e' := [(8, .int .i64 z3), (7, v12), (9, .int .i64 x9), (6, v7), (5, .int .i64 x2), (3, v3), (0, vversions1)]) ⟨rfl, rfl, rfl, rfl, rfl, rfl, rfl, trivial⟩
                      refine inb_n ?_
                      refine then_n ?_
                      exact ⟨x15, z3, v12, c7, g9, F.sub ⟨rfl, rfl, rfl, rfl, rfl, rfl, rfl, trivial⟩, l9, S, h13, hm⟩
                · clear F S hm; rintro a w ⟨x13, x14, v11, c6, g8, F, l8, S, h12, hm⟩
                  refine wp_region_lit ?_
                  refine wl_ev (wn rfl) (ev_move rfl) F S rfl rfl ?_; clear F a; intro a F
                  obtain ⟨z2, hz2, hm⟩ := bind_some hm
                  refine wl_ev (wn rfl) (ev_int rfl rfl (bo_add hz2)) F S rfl rfl ?_; clear F a; intro a F
                  refine wl_ev (wn rfl) (ev_assign rfl) F S rfl rfl ?_; clear F a; intro a F
                  refine wpList_nil ?_
                  replace F := F.sub (e' := [(9, .int .i64 z2), (7, v11), (8, .int .i64 x14), (6, v7), (5, .int .i64 x2), (3, v3), (0, vversions1)]) ⟨rfl, rfl, rfl, rfl, rfl, rfl, rfl, trivial⟩
                  refine then_n ?_
                  obtain rfl := Option.some.inj hm
                  refine ⟨_, rfl, ?_⟩
                  dsimp only
                  exact ⟨v11, c6, g8, F.sub ⟨rfl, rfl, rfl, rfl, rfl, rfl, rfl, trivial⟩, (l7.trans l8), S, h12⟩
              · refine wp_condF F rfl hc2 ?_
                refine wp_exit ?_
                refine then_e ?_
                refine then_e ?_
                refine inb_x ?_
                refine then_n ?_
                obtain rfl := Option.some.inj hm
                obtain rfl := hfin2 _ rfl
                clear hm
                have hm : (changeforgeref2_Annotated.j3 versions x2 x11 : Option (Step (Int × (List ByteArray) × (List Int)) (List Int))) = some _ := hmo2
                replace S : St g7 [c5] fr w := St.tail [c5] _ (S.frontC 0 rfl)
                exact ⟨x11, v10, c5, g7, F.sub ⟨rfl, rfl, rfl, trivial⟩, l7, S, h11, hm⟩
          · clear F S hm; rintro a w ⟨x8, v8, c4, g6, F, l6, S, h9, hm⟩
            refine wp_seq ?_
            refine wp_region_lit ?_
            refine wl_ev (wn rfl) (ev_move rfl) F S rfl rfl ?_; clear F a; intro a F
            refine wl_ev (wn rfl) (ev_assign rfl) F S rfl rfl ?_; clear F a; intro a F
            refine wpList_nil ?_
            replace F := F.sub (e' := [(3, v8), (5, .int .i64 x2), (0, vversions1)]) ⟨rfl, rfl, rfl, trivial⟩
            refine then_n ?_
            refine wp_region_lit ?_
            refine wl_ev (wn rfl) (ev_move rfl) F S rfl rfl ?_; clear F a; intro a F
            refine wl_ev (wn rfl) (ev_move rfl) F S rfl rfl ?_; clear F a; intro a F
            obtain ⟨y3, hy3, hm⟩ := bind_some hm
            obtain ⟨cs2, hr3, hp2⟩ := elemS (hversions1.mono ((l3.trans l5).trans l6)) hy3
            obtain ⟨v9, rfl, h10⟩ := rep_list hr3
            refine wl_ev (wn rfl) (ev_idxS (hversions1.mono ((l3.trans l5).trans l6)) hy3 tu22 ts31 rfl rfl) F S rfl rfl ?_; clear F a; intro a F
            refine wl_ev (wn rfl) (ev_load1 tu31 rfl rfl (ptr_mono (cks := [c4]) (fr := fr) hp2 (Le.refl _))) F S rfl rfl ?_; clear F a; intro a F
            refine wl_ev (wn rfl) (ev_assign rfl) F S rfl rfl ?_; clear F a; intro a F
            refine wpList_nil ?_
            replace F := F.sub (e' := [(4, v9), (3, v8), (5, .int .i64 x2), (0, vversions1)]) ⟨rfl, rfl, rfl, rfl, trivial⟩
            refine inb_n ?_
            refine then_n ?_
            exact ⟨y3, x8, v9, v8, c4, g6, F.sub ⟨rfl, rfl, rfl, rfl, trivial⟩, (l5.trans l6), S, h10, h9, hm⟩
        · clear F S hm; rintro a w ⟨x6, x7, v4, v5, c3, g4, F, l4, S, h5, h6, hm⟩
          refine wp_region_lit ?_
          refine wl_ev (wn rfl) (ev_move rfl) F S rfl rfl ?_; clear F a; intro a F
          obtain ⟨z1, hz1, hm⟩ := bind_some hm
          refine wl_ev (wn rfl) (ev_int rfl rfl (bo_add hz1)) F S rfl rfl ?_; clear F a; intro a F
          refine wl_ev (wn rfl) (ev_assign rfl) F S rfl rfl ?_; clear F a; intro a F
          refine wpList_nil ?_
          replace F := F.sub (e' := [(5, .int .i64 z1), (4, v4), (3, v5), (0, vversions1)]) ⟨rfl, rfl, rfl, rfl, trivial⟩
          refine then_n ?_
          obtain rfl := Option.some.inj hm
          refine ⟨_, rfl, ?_⟩
          dsimp only
          exact ⟨v4, v5, c3, g4, F.sub ⟨rfl, rfl, rfl, rfl, trivial⟩, (l3.trans l4), S, h5, h6⟩
      · refine wp_condF F rfl hc1 ?_
        refine wp_exit ?_
        refine then_e ?_
        refine then_e ?_
        refine inb_x ?_
        refine then_n ?_
        obtain rfl := Option.some.inj hm
        obtain rfl := hfin1 _ rfl
        clear hm
        have hm : (changeforgeref2_Annotated.j1 x4 : Option (List Int)) = some _ := hmo1
        exact ⟨x4, v3, c2, g3, F.sub ⟨rfl, trivial⟩, l3, S, h4, hm⟩
  · clear F S hm; rintro a w ⟨x1, v1, c1, g1, F, l1, S, h1, hm⟩
    refine wp_seq ?_
    refine wp_region_lit ?_
    refine wl_ev (wn rfl) (ev_move rfl) F S rfl rfl ?_; clear F a; intro a F
    refine wl_ev (wn rfl) (ev_assign rfl) F S rfl rfl ?_; clear F a; intro a F
    refine wpList_nil ?_
    replace F := F.sub (e' := [(2, v1)]) ⟨rfl, trivial⟩
    refine then_n ?_
    refine wp_ret ?_
    obtain rfl := Option.some.inj hm
    obtain ⟨g2, l2, S, h2⟩ : ∃ gz, Le g1 gz ∧ St gz [] fr w ∧ RepSl gz x1 v1 := ⟨_, Le.add _ _, S.freeze 0 rfl, OwnS.freeze (S.front 0 rfl) h1⟩
    refine post_r (fn := Try.f15) (rs := [.tmp 2]) [v1] F rfl (ar_cons (resT rfl) ar_nil) ?_
    exact ⟨_, rfl, g2, v1, (l1.trans l2), S, h2, rfl⟩

theorem changeforgelaw2_BlameMatchesSpec_ok {g : Gh} {fr : Hl} {w : World} {r : Bool} (versions : (List (List ByteArray))) (vversions1 : Value) (hversions1 : RepSl g versions vversions1) (S : St g [] fr w) (hm : changeforgelaw2_BlameMatchesSpec versions = some r) :
    Calls Try.prog 3 [vversions1].toArray w (fun en w' => ∃ v, en = .returned v ∧ ∃ (g' : Gh), Le g g' ∧ St g' [] fr w' ∧ .bool r = v) := by
  unfold changeforgelaw2_BlameMatchesSpec at hm
  refine calls_enter (fn := Try.f3) Try.func3 rfl Try.ntmps3 (Nat.le_of_ble_eq_true rfl) ?_
  intro a F
  replace F : Fr 64 a [(0, vversions1)] := F
  refine wp_seq ?_
  refine wp_region_lit ?_
  refine wl_ev (wn rfl) (ev_assign rfl) F S rfl rfl ?_; clear F a; intro a F
  refine wpList_nil ?_
  replace F := F.sub (e' := [(0, vversions1)]) ⟨rfl, trivial⟩
  refine then_n ?_
  refine wp_seq ?_
  refine wp_region_lit ?_
  refine wl_ev (wn rfl) (ev_move rfl) F S rfl rfl ?_; clear F a; intro a F
  obtain ⟨y1, hy1, hm⟩ := bind_some hm
  refine wl_call (wn rfl) rfl (xs := [.tmp 8]) (vs := [vversions1]) (cap := []) F rfl rfl tc10 (blame_Annotate_ok (g := g) (fr := fr) (w := w) versions vversions1 hversions1 S hy1) rfl rfl ?_; clear F a S
  rintro _ a w ⟨g1, v1, l1, S, h1, rfl⟩ F; replace S : St g1 [] fr w := S
  refine wl_ev (wn rfl) (ev_move rfl) F S rfl rfl ?_; clear F a; intro a F
  refine wl_ev (wn rfl) (ev_extract (vs := [v1, .agg #[.int .i64 y1.2.Code, .int .i64 y1.2.Index]]) rfl rfl) F S rfl rfl ?_; clear F a; intro a F
  refine wl_ev (wn rfl) (ev_extract (vs := [v1, .agg #[.int .i64 y1.2.Code, .int .i64 y1.2.Index]]) rfl rfl) F S rfl rfl ?_; clear F a; intro a F
  refine wl_alloc (wn rfl) rfl tz25 (cs := [.int .i64 0, .int .i64 0]) rfl F S rfl rfl ?_; clear F a S; rintro b1 a w F S
  refine wl_ev (wn rfl) (ev_assign rfl) F S rfl rfl ?_; clear F a; intro a F
  refine wl_storeC (wn rfl) rfl F S rfl rfl (vs := [.int .i64 y1.2.Code, .int .i64 y1.2.Index]) rfl ts25 (one_cons rfl (one_cons rfl one_nil)) (k := 0) rfl (Nat.le_of_ble_eq_true rfl) (c' := #[.int .i64 y1.2.Code, .int .i64 y1.2.Index]) rfl rfl ?_; clear S; intro w S
  replace S : St g1 [[(b1, .cells #[.int .i64 y1.2.Code, .int .i64 y1.2.Index] 25 (0, 0))]] fr w := S
  refine wpList_nil ?_
  replace F := F.sub (e' := [(3, v1), (4, .pointer (some ⟨b1, 0, Option.none⟩)), (0, vversions1)]) ⟨rfl, rfl, rfl, trivial⟩
  refine then_n ?_
  refine wp_seq ?_
  refine wp_seq ?_
  refine wp_region_lit ?_
  refine wl_ev (wn rfl) (ev_move rfl) F S rfl rfl ?_; clear F a; intro a F
  refine wl_ev (wn rfl) (ev_lenSh hversions1 rfl tu22) F S rfl rfl ?_; clear F a; intro a F
  refine wl_ev (wn rfl) (ev_int rfl rfl (bo_gtr _ _ _ _)) F S rfl rfl ?_; clear F a; intro a F
  refine wpList_nil ?_
  replace F := F.sub (e' := [(14, .bool (decide ((versions.length : Int) > 16))), (3, v1), (4, .pointer (some ⟨b1, 0, Option.none⟩)), (0, vversions1)]) ⟨rfl, rfl, rfl, rfl, trivial⟩
  refine then_n ?_
  obtain ⟨hc1, hm⟩ | ⟨hc1, hm⟩ := ite_or hm
  · refine wp_condT F rfl hc1 ?_
    refine wp_seq ?_
    refine wp_quiet mo (by kernel_rfl) S ?_
    refine wq_ev (wn rfl) (ev_loadA tu25 rfl (cs := [.int .i64 y1.2.Code, .int .i64 y1.2.Index]) ts25 rfl (box_ptr (cells := [.int .i64 y1.2.Code, .int .i64 y1.2.Index]) 0 rfl 0 rfl (Nat.le_of_ble_eq_true rfl))) F rfl rfl ?_; clear F a; intro a F
    obtain ⟨y2, hy2, hm⟩ := bind_some hm
    refine wq_call (wn rfl) rfl (xs := [.const (.int .i64 2), .const (.int .i64 (-1))]) (vs := [.int .i64 2, .int .i64 (-1)]) (cap := []) F rfl rfl tc11 (v := .agg #[.int .i64 y2.Code, .int .i64 y2.Index]) (fun w S => (changeforgeref1_At_ok (g := g1) (fr := (fl [[(b1, .cells #[.int .i64 y1.2.Code, .int .i64 y1.2.Index] 25 (0, 0))]] fr)) (w := w) 2 (-1) S hy2).mono (by rintro en w' ⟨_, rfl, g2, l2, S2, rfl⟩; exact ⟨rfl, S2.weak l2⟩)) rfl rfl ?_; clear F a; intro a F
    refine wq_ev (wn rfl) (ev_eqS tu25 tqa25 tqb25 tqc25 (xs := [.int .i64 y1.2.Code, .int .i64 y1.2.Index]) (ys := [.int .i64 y2.Code, .int .i64 y2.Index]) rfl rfl ⟨_, _, rfl, by decide, ⟨_, _, rfl, rfl, leaf_int tu3⟩, ⟨_, _, rfl, by decide, ⟨_, _, rfl, rfl, leaf_int tu3⟩, rfl⟩⟩) F rfl rfl ?_; clear F a; intro a F
    refine wq_ev (wn rfl) (ev_move rfl) F rfl rfl ?_; clear F a; intro a F
    obtain ⟨x1, hx1, hm⟩ := bind_some hm
    refine wq_cut 4 (fun a => Fr 64 a [(22, .bool x1)]) ?_ ?_
    · clear hm; obtain ⟨hc2, hm⟩ | ⟨hc2, hm⟩ := ite_or hx1
      · refine wq_ev (wg F rfl rfl rfl rfl hc2) (ev_move rfl) F rfl rfl ?_; clear F a; intro a F
        refine wq_ev (wg F rfl rfl rfl rfl hc2) (ev_lenSh h1 rfl tu23) F rfl rfl ?_; clear F a; intro a F
        refine wq_ev (wg F rfl rfl rfl rfl hc2) (ev_int rfl rfl (bo_eql _ _ _ _)) F rfl rfl ?_; clear F a; intro a F
        refine wq_ev (wn rfl) (ev_pickT rfl hc2 rfl) F rfl rfl ?_; clear F a; intro a F
        obtain rfl := Option.some.inj hm
        refine wq_nil ?_; exact F.sub ⟨rfl, trivial⟩
      · refine wq_skip rfl rfl rfl rfl (ne_tf hc2) F rfl rfl ?_; clear F a; intro a F
        refine wq_skip rfl rfl rfl rfl (ne_tf hc2) F rfl rfl ?_; clear F a; intro a F
        refine wq_skip rfl rfl rfl rfl (ne_tf hc2) F rfl rfl ?_; clear F a; intro a F
        refine wq_ev (wn rfl) (ev_pickF rfl hc2 rfl) F rfl rfl ?_; clear F a; intro a F
        obtain rfl := Option.some.inj hm
        refine wq_nil ?_; exact F.sub ⟨rfl, trivial⟩
    clear F; intro a F
    refine wq_ev (wn rfl) (ev_move rfl) F rfl rfl ?_; clear F a; intro a F
    obtain ⟨x2, hx2, hm⟩ := bind_some hm
    refine wq_cut 2 (fun a => Fr 64 a [(25, .bool x2)]) ?_ ?_
    · clear hm; obtain ⟨hc3, hm⟩ | ⟨hc3, hm⟩ := ite_or hx2
      · obtain ⟨y3, hy3, hm⟩ := bind_some hm
        refine wq_call (wg F rfl rfl rfl rfl hc3) rfl (xs := []) (vs := []) (cap := []) F rfl rfl tc12 (v := .bool y3) (fun w S => (changeforgelaw2_added_ok (g := g1) (fr := (fl [[(b1, .cells #[.int .i64 y1.2.Code, .int .i64 y1.2.Index] 25 (0, 0))]] fr)) (w := w)  S hy3).mono (by rintro en w' ⟨_, rfl, g2, l2, S2, rfl⟩; exact ⟨rfl, S2.weak l2⟩)) rfl rfl ?_; clear F a; intro a F
        refine wq_ev (wn rfl) (ev_pickT rfl hc3 rfl) F rfl rfl ?_; clear F a; intro a F
        obtain rfl := Option.some.inj hm
        refine wq_nil ?_; exact F.sub ⟨rfl, trivial⟩
      · refine wq_skip rfl rfl rfl rfl (ne_tf hc3) F rfl rfl ?_; clear F a; intro a F
        refine wq_ev (wn rfl) (ev_pickF rfl hc3 rfl) F rfl rfl ?_; clear F a; intro a F
        obtain rfl := Option.some.inj hm
        refine wq_nil ?_; exact F.sub ⟨rfl, trivial⟩
    clear F; intro a F
    refine wq_ev (wn rfl) (ev_assign rfl) F rfl rfl ?_; clear F a; intro a F
    refine wq_nil ?_; clear S; intro w S
    replace F := F.sub (e' := [(2, .bool x2)]) ⟨rfl, trivial⟩
    refine then_n ?_
    refine wp_ret ?_
    refine then_r ?_
    obtain rfl := Option.some.inj hm
    refine post_r (fn := Try.f3) (rs := [.tmp 2]) [.bool x2] F rfl (ar_cons (resT rfl) ar_nil) ?_
    replace S : St g1 [] fr w := St.tail [] _ S
    exact ⟨_, rfl, g1, l1, S, rfl⟩
  · refine wp_condF F rfl hc1 ?_
    refine wp_skip ?_
    refine then_n ?_
    refine wp_cut (fun a w => ∃ (g4 : Gh), Fr 64 a [(3, v1), (4, .pointer (some ⟨b1, 0, Option.none⟩)), (0, vversions1)] ∧ Le g1 g4 ∧ St g4 [[(b1, .cells #[.int .i64 y1.2.Code, .int .i64 y1.2.Index] 25 (0, 0))]] fr w ∧ changeforgelaw2_BlameMatchesSpec.j1 versions y1 = some r) ?_ ?_
    · refine wp_seq ?_
      refine wp_region_lit ?_
      refine wl_ev (wn rfl) (ev_assign rfl) F S rfl rfl ?_; clear F a; intro a F
      refine wpList_nil ?_
      replace F := F.sub (e' := [(5, .int .i64 0), (3, v1), (4, .pointer (some ⟨b1, 0, Option.none⟩)), (0, vversions1)]) ⟨rfl, rfl, rfl, rfl, trivial⟩
      refine then_n ?_
      refine wp_block ?_
      obtain ⟨r1, hr1, hm⟩ := bind_some hm
      have hmo1 := hm; clear hm
      refine wp_iter (σ := Int) (ρ := Bool ⊕ Unit) (m := fun s => changeforgelaw2_BlameMatchesSpec.l1 versions y1 s) (I := fun x5 a w => ∃ (g10 : Gh), Fr 64 a [(5, .int .i64 x5), (3, v1), (4, .pointer (some ⟨b1, 0, Option.none⟩)), (0, vversions1)] ∧ Le g1 g10 ∧ St g10 [[(b1, .cells #[.int .i64 y1.2.Code, .int .i64 y1.2.Index] 25 (0, 0))]] fr w) hr1 ?_ ?_
      · exact ⟨g1, F.sub ⟨rfl, rfl, rfl, rfl, trivial⟩, (Le.refl _), S⟩
      · clear F S; rintro x5 a w x6 ⟨g10, F, l10, S⟩ hx5 hfin1
        have hm : changeforgelaw2_BlameMatchesSpec.l1 versions y1 x5 = some x6 := hx5; clear hx5
        unfold changeforgelaw2_BlameMatchesSpec.l1 at hm
        refine wp_seq ?_
        refine wp_seq ?_
        refine wp_region_lit ?_
        refine wl_ev (wn rfl) (ev_move rfl) F S rfl rfl ?_; clear F a; intro a F
        refine wl_ev (wn rfl) (ev_move rfl) F S rfl rfl ?_; clear F a; intro a F
        refine wl_ev (wn rfl) (ev_lenSh hversions1 rfl tu22) F S rfl rfl ?_; clear F a; intro a F
        refine wl_ev (wn rfl) (ev_int rfl rfl (bo_lss _ _ _ _)) F S rfl rfl ?_; clear F a; intro a F
        refine wpList_nil ?_
        replace F := F.sub (e' := [(29, .bool (decide (x5 < (versions.length : Int)))), (5, .int .i64 x5), (3, v1), (4, .pointer (some ⟨b1, 0, Option.none⟩)), (0, vversions1)]) ⟨rfl, rfl, rfl, rfl, rfl, trivial⟩
        refine then_n ?_
        obtain ⟨hc6, hm⟩ | ⟨hc6, hm⟩ := ite_or hm
        · refine wp_condT F rfl hc6 ?_
          refine wp_skip ?_
          refine then_n ?_
          refine wp_seq ?_
          refine wp_block ?_
          refine wp_seq ?_
          refine wp_region_lit ?_
          refine wl_ev (wn rfl) (ev_move rfl) F S rfl rfl ?_; clear F a; intro a F
          refine wl_ev (wn rfl) (ev_move rfl) F S rfl rfl ?_; clear F a; intro a F
          obtain ⟨y7, hy7, hm⟩ := bind_some hm
          obtain ⟨cs1, hr2, hp1⟩ := elemS (hversions1.mono (l1.trans l10)) hy7
          obtain ⟨v3, rfl, h3⟩ := rep_list hr2
          refine wl_ev (wn rfl) (ev_idxS (hversions1.mono (l1.trans l10)) hy7 tu22 ts31 rfl rfl) F S rfl rfl ?_; clear F a; intro a F
          refine wl_ev (wn rfl) (ev_load1 tu31 rfl rfl (ptr_mono (cks := [[(b1, .cells #[.int .i64 y1.2.Code, .int .i64 y1.2.Index] 25 (0, 0))]]) (fr := fr) hp1 (Le.refl _))) F S rfl rfl ?_; clear F a; intro a F
          obtain ⟨y8, hy8, hm⟩ := bind_some hm
          refine wl_call (wn rfl) rfl (xs := [.tmp 35]) (vs := [v3]) (cap := []) F rfl rfl tc13 (changeforgeref1_LinesCode_ok (g := g10) (fr := (fl [[(b1, .cells #[.int .i64 y1.2.Code, .int .i64 y1.2.Index] 25 (0, 0))]] fr)) (w := w) y7 v3 h3 S hy8) rfl rfl ?_; clear F a S
          rintro _ a w ⟨g11, l11, S, rfl⟩ F; replace S : St g11 [[(b1, .cells #[.int .i64 y1.2.Code, .int .i64 y1.2.Index] 25 (0, 0))]] fr w := S
          refine wl_ev (wn rfl) (ev_assign rfl) F S rfl rfl ?_; clear F a; intro a F
          refine wpList_nil ?_
          replace F := F.sub (e' := [(6, .int .i64 y8), (5, .int .i64 x5), (3, v1), (4, .pointer (some ⟨b1, 0, Option.none⟩)), (0, vversions1)]) ⟨rfl, rfl, rfl, rfl, rfl, trivial⟩
          refine then_n ?_
          refine wp_seq ?_
          refine wp_region_lit ?_
          refine wl_ev (wn rfl) (ev_move rfl) F S rfl rfl ?_; clear F a; intro a F
          refine wl_ev (wn rfl) (ev_int rfl rfl (bo_neq _ _ _ _)) F S rfl rfl ?_; clear F a; intro a F
          refine wpList_nil ?_
          replace F := F.sub (e' := [(38, .bool (!decide (y8 = 0))), (6, .int .i64 y8), (5, .int .i64 x5), (3, v1), (4, .pointer (some ⟨b1, 0, Option.none⟩)), (0, vversions1)]) ⟨rfl, rfl, rfl, rfl, rfl, rfl, trivial⟩
          refine then_n ?_
          obtain ⟨hc7, hm⟩ | ⟨hc7, hm⟩ := ite_or hm
          · refine wp_condT F rfl hc7 ?_
            refine wp_seq ?_
            refine wp_quiet mo (by kernel_rfl) S ?_
            refine wq_ev (wn rfl) (ev_loadA tu25 rfl (cs := [.int .i64 y1.2.Code, .int .i64 y1.2.Index]) ts25 rfl (box_ptr (cells := [.int .i64 y1.2.Code, .int .i64 y1.2.Index]) 0 rfl 0 rfl (Nat.le_of_ble_eq_true rfl))) F rfl rfl ?_; clear F a; intro a F
            refine wq_ev (wn rfl) (ev_move rfl) F rfl rfl ?_; clear F a; intro a F
            refine wq_ev (wn rfl) (ev_move rfl) F rfl rfl ?_; clear F a; intro a F
            obtain ⟨y9, hy9, hm⟩ := bind_some hm
            refine wq_call (wn rfl) rfl (xs := [.tmp 40, .tmp 41]) (vs := [.int .i64 y8, .int .i64 x5]) (cap := []) F rfl rfl tc11 (v := .agg #[.int .i64 y9.Code, .int .i64 y9.Index]) (fun w S => (changeforgeref1_At_ok (g := g11) (fr := (fl [[(b1, .cells #[.int .i64 y1.2.Code, .int .i64 y1.2.Index] 25 (0, 0))]] fr)) (w := w) y8 x5 S hy9).mono (by rintro en w' ⟨_, rfl, g2, l2, S2, rfl⟩; exact ⟨rfl, S2.weak l2⟩)) rfl rfl ?_; clear F a; intro a F
            refine wq_ev (wn rfl) (ev_eqS tu25 tqa25 tqb25 tqc25 (xs := [.int .i64 y1.2.Code, .int .i64 y1.2.Index]) (ys := [.int .i64 y9.Code, .int .i64 y9.Index]) rfl rfl ⟨_, _, rfl, by decide, ⟨_, _, rfl, rfl, leaf_int tu3⟩, ⟨_, _, rfl, by decide, ⟨_, _, rfl, rfl, leaf_int tu3⟩, rfl⟩⟩) F rfl rfl ?_; clear F a; intro a F
            refine wq_ev (wn rfl) (ev_move rfl) F rfl rfl ?_; clear F a; intro a F
            obtain ⟨x7, hx6, hm⟩ := bind_some hm
            refine wq_cut 4 (fun a => Fr 64 a [(48, .bool x7)]) ?_ ?_
            · clear hm; obtain ⟨hc8, hm⟩ | ⟨hc8, hm⟩ := ite_or hx6
              · refine wq_ev (wg F rfl rfl rfl rfl hc8) (ev_move rfl) F rfl rfl ?_; clear F a; intro a F
                refine wq_ev (wg F rfl rfl rfl rfl hc8) (ev_lenSh h1 rfl tu23) F rfl rfl ?_; clear F a; intro a F
                refine wq_ev (wg F rfl rfl rfl rfl hc8) (ev_int rfl rfl (bo_eql _ _ _ _)) F rfl rfl ?_; clear F a; intro a F
                refine wq_ev (wn rfl) (ev_pickT rfl hc8 rfl) F rfl rfl ?_; clear F a; intro a F
                obtain rfl := Option.some.inj hm
                refine wq_nil ?_; exact F.sub ⟨rfl, trivial⟩
              · refine wq_skip rfl rfl rfl rfl (ne_tf hc8) F rfl rfl ?_; clear F a; intro a F
                refine wq_skip rfl rfl rfl rfl (ne_tf hc8) F rfl rfl ?_; clear F a; intro a F
                refine wq_skip rfl rfl rfl rfl (ne_tf hc8) F rfl rfl ?_; clear F a; intro a F
                refine wq_ev (wn rfl) (ev_pickF rfl hc8 rfl) F rfl rfl ?_; clear F a; intro a F
                obtain rfl := Option.some.inj hm
                refine wq_nil ?_; exact F.sub ⟨rfl, trivial⟩
            clear F; intro a F
            refine wq_ev (wn rfl) (ev_move rfl) F rfl rfl ?_; clear F a; intro a F
            obtain ⟨x8, hx7, hm⟩ := bind_some hm
            refine wq_cut 2 (fun a => Fr 64 a [(51, .bool x8)]) ?_ ?_
            · clear hm; obtain ⟨hc9, hm⟩ | ⟨hc9, hm⟩ := ite_or hx7
              · obtain ⟨y10, hy10, hm⟩ := bind_some hm
                refine wq_call (wg F rfl rfl rfl rfl hc9) rfl (xs := []) (vs := []) (cap := []) F rfl rfl tc12 (v := .bool y10) (fun w S => (changeforgelaw2_added_ok (g := g11) (fr := (fl [[(b1, .cells #[.int .i64 y1.2.Code, .int .i64 y1.2.Index] 25 (0, 0))]] fr)) (w := w)  S hy10).mono (by rintro en w' ⟨_, rfl, g2, l2, S2, rfl⟩; exact ⟨rfl, S2.weak l2⟩)) rfl rfl ?_; clear F a; intro a F
                refine wq_ev (wn rfl) (ev_pickT rfl hc9 rfl) F rfl rfl ?_; clear F a; intro a F
                obtain rfl := Option.some.inj hm
                refine wq_nil ?_; exact F.sub ⟨rfl, trivial⟩
              · refine wq_skip rfl rfl rfl rfl (ne_tf hc9) F rfl rfl ?_; clear F a; intro a F
                refine wq_ev (wn rfl) (ev_pickF rfl hc9 rfl) F rfl rfl ?_; clear F a; intro a F
                obtain rfl := Option.some.inj hm
                refine wq_nil ?_; exact F.sub ⟨rfl, trivial⟩
            clear F; intro a F
            refine wq_ev (wn rfl) (ev_assign rfl) F rfl rfl ?_; clear F a; intro a F
            refine wq_nil ?_; clear S; intro w S
            replace F := F.sub (e' := [(2, .bool x8)]) ⟨rfl, trivial⟩
            refine then_n ?_
            refine wp_ret ?_
            refine inb_r ?_
            refine then_r ?_
            refine then_r ?_
            refine inb_r ?_
            refine then_r ?_
            obtain rfl := Option.some.inj hm
            obtain rfl := hfin1 _ rfl
            clear hm
            have hm : (some x8 : Option Bool) = some _ := hmo1
            obtain rfl := Option.some.inj hm
            refine post_r (fn := Try.f3) (rs := [.tmp 2]) [.bool x8] F rfl (ar_cons (resT rfl) ar_nil) ?_
            replace S : St g11 [] fr w := St.tail [] _ S
            exact ⟨_, rfl, g11, ((l1.trans l10).trans l11), S, rfl⟩
          · refine wp_condF F rfl hc7 ?_
            refine wp_skip ?_
            refine inb_n ?_
            refine then_n ?_
            refine wp_region_lit ?_
            refine wl_ev (wn rfl) (ev_move rfl) F S rfl rfl ?_; clear F a; intro a F
            obtain ⟨z1, hz1, hm⟩ := bind_some hm
            refine wl_ev (wn rfl) (ev_int rfl rfl (bo_add hz1)) F S rfl rfl ?_; clear F a; intro a F
            refine wl_ev (wn rfl) (ev_assign rfl) F S rfl rfl ?_; clear F a; intro a F
            refine wpList_nil ?_
            replace F := F.sub (e' := [(5, .int .i64 z1), (3, v1), (4, .pointer (some ⟨b1, 0, Option.none⟩)), (0, vversions1)]) ⟨rfl, rfl, rfl, rfl, trivial⟩
            refine then_n ?_
            obtain rfl := Option.some.inj hm
            refine ⟨_, rfl, ?_⟩
            exact ⟨g11, F.sub ⟨rfl, rfl, rfl, rfl, trivial⟩, (l10.trans l11), S⟩
        · refine wp_condF F rfl hc6 ?_
          refine wp_exit ?_
          refine then_e ?_
          refine then_e ?_
          refine inb_x ?_
          refine then_n ?_
          obtain rfl := Option.some.inj hm
          obtain rfl := hfin1 _ rfl
          clear hm
          have hm : (changeforgelaw2_BlameMatchesSpec.j1 versions y1 : Option Bool) = some _ := hmo1
          exact ⟨g10, F.sub ⟨rfl, rfl, rfl, trivial⟩, l10, S, hm⟩
    · clear F S hm; rintro a w ⟨g4, F, l4, S, hm⟩
      refine wp_seq ?_
      refine wp_region_lit ?_
      refine wl_ev (wn rfl) (ev_fieldAddr' tu25 tf25_0 (z := 0) ts3 rfl ⟨_, rfl⟩ rfl) F S rfl rfl ?_; clear F a; intro a F
      refine wl_ev (wn rfl) (ev_load1 tu3 rfl rfl (box_ptr (cells := [.int .i64 y1.2.Code]) 0 rfl 0 rfl (Nat.le_of_ble_eq_true rfl))) F S rfl rfl ?_; clear F a; intro a F
      refine wl_ev (wn rfl) (ev_int rfl rfl (bo_eql _ _ _ _)) F S rfl rfl ?_; clear F a; intro a F
      refine wl_ev (wn rfl) (ev_move rfl) F S rfl rfl ?_; clear F a; intro a F
      obtain ⟨x3, hx3, hm⟩ := bind_some hm
      refine wl_cut 5 (fun a w => ∃ g5, Fr 64 a [(60, .bool x3)] ∧ Le g4 g5 ∧ St g5 [[(b1, .cells #[.int .i64 y1.2.Code, .int .i64 y1.2.Index] 25 (0, 0))]] fr w) ?_ ?_
      · clear hm; obtain ⟨hc4, hm⟩ | ⟨hc4, hm⟩ := ite_or hx3
        · refine wl_ev (wg F rfl rfl rfl rfl hc4) (ev_move rfl) F S rfl rfl ?_; clear F a; intro a F
          refine wl_ev (wg F rfl rfl rfl rfl hc4) (ev_move rfl) F S rfl rfl ?_; clear F a; intro a F
          obtain ⟨y4, hy4, hm⟩ := bind_some hm
          refine wl_call (wg F rfl rfl rfl rfl hc4) rfl (xs := [.tmp 57]) (vs := [vversions1]) (cap := []) F rfl rfl tc15 (changeforgeref2_Annotated_ok (g := g4) (fr := (fl [[(b1, .cells #[.int .i64 y1.2.Code, .int .i64 y1.2.Index] 25 (0, 0))]] fr)) (w := w) versions vversions1 (hversions1.mono (l1.trans l4)) S hy4) rfl rfl ?_; clear F a S
          rintro _ a w ⟨g6, v2, l6, S, h2, rfl⟩ F; replace S : St g6 [[(b1, .cells #[.int .i64 y1.2.Code, .int .i64 y1.2.Index] 25 (0, 0))]] fr w := S
          obtain ⟨y5, hy5, hm⟩ := bind_some hm
          refine wl_call (wg F rfl rfl rfl rfl hc4) rfl (xs := [.tmp 56, .tmp 58]) (vs := [v1, v2]) (cap := []) F rfl rfl tc14 (changeforgeequal_Ints_ok (g := g6) (fr := (fl [[(b1, .cells #[.int .i64 y1.2.Code, .int .i64 y1.2.Index] 25 (0, 0))]] fr)) (w := w) y1.1 v1 (h1.mono (l4.trans l6)) y4 v2 h2 S hy5) rfl rfl ?_; clear F a S
          rintro _ a w ⟨g7, l7, S, rfl⟩ F; replace S : St g7 [[(b1, .cells #[.int .i64 y1.2.Code, .int .i64 y1.2.Index] 25 (0, 0))]] fr w := S
          refine wl_ev (wn rfl) (ev_pickT rfl hc4 rfl) F S rfl rfl ?_; clear F a; intro a F
          obtain rfl := Option.some.inj hm
          refine wpList_nil (then_n ?_); exact ⟨g7, F.sub ⟨rfl, trivial⟩, (l6.trans l7), S⟩
        · refine wl_skip rfl rfl rfl rfl (ne_tf hc4) F rfl rfl ?_; clear F a; intro a F
          refine wl_skip rfl rfl rfl rfl (ne_tf hc4) F rfl rfl ?_; clear F a; intro a F
          refine wl_skip rfl rfl rfl rfl (ne_tf hc4) F rfl rfl ?_; clear F a; intro a F
          refine wl_skip rfl rfl rfl rfl (ne_tf hc4) F rfl rfl ?_; clear F a; intro a F
          refine wl_ev (wn rfl) (ev_pickF rfl hc4 rfl) F S rfl rfl ?_; clear F a; intro a F
          obtain rfl := Option.some.inj hm
          refine wpList_nil (then_n ?_); exact ⟨g4, F.sub ⟨rfl, trivial⟩, (Le.refl _), S⟩
      clear F S; rintro a w ⟨g5, F, l5, S⟩
      refine wl_ev (wn rfl) (ev_move rfl) F S rfl rfl ?_; clear F a; intro a F
      obtain ⟨x4, hx4, hm⟩ := bind_some hm
      refine wl_cut 2 (fun a w => ∃ g8, Fr 64 a [(63, .bool x4)] ∧ Le g5 g8 ∧ St g8 [[(b1, .cells #[.int .i64 y1.2.Code, .int .i64 y1.2.Index] 25 (0, 0))]] fr w) ?_ ?_
      · clear hm; obtain ⟨hc5, hm⟩ | ⟨hc5, hm⟩ := ite_or hx4
        · obtain ⟨y6, hy6, hm⟩ := bind_some hm
          refine wl_call (wg F rfl rfl rfl rfl hc5) rfl (xs := []) (vs := []) (cap := []) F rfl rfl tc12 (changeforgelaw2_added_ok (g := g5) (fr := (fl [[(b1, .cells #[.int .i64 y1.2.Code, .int .i64 y1.2.Index] 25 (0, 0))]] fr)) (w := w)  S hy6) rfl rfl ?_; clear F a S
          rintro _ a w ⟨g9, l9, S, rfl⟩ F; replace S : St g9 [[(b1, .cells #[.int .i64 y1.2.Code, .int .i64 y1.2.Index] 25 (0, 0))]] fr w := S
          refine wl_ev (wn rfl) (ev_pickT rfl hc5 rfl) F S rfl rfl ?_; clear F a; intro a F
          obtain rfl := Option.some.inj hm
          refine wpList_nil (then_n ?_); exact ⟨g9, F.sub ⟨rfl, trivial⟩, l9, S⟩
        · refine wl_skip rfl rfl rfl rfl (ne_tf hc5) F rfl rfl ?_; clear F a; intro a F
          refine wl_ev (wn rfl) (ev_pickF rfl hc5 rfl) F S rfl rfl ?_; clear F a; intro a F
          obtain rfl := Option.some.inj hm
          refine wpList_nil (then_n ?_); exact ⟨g5, F.sub ⟨rfl, trivial⟩, (Le.refl _), S⟩
      clear F S; rintro a w ⟨g8, F, l8, S⟩
      refine wl_ev (wn rfl) (ev_assign rfl) F S rfl rfl ?_; clear F a; intro a F
      refine wpList_nil ?_
      replace F := F.sub (e' := [(2, .bool x4)]) ⟨rfl, trivial⟩
      refine then_n ?_
      refine wp_ret ?_
      obtain rfl := Option.some.inj hm
      refine post_r (fn := Try.f3) (rs := [.tmp 2]) [.bool x4] F rfl (ar_cons (resT rfl) ar_nil) ?_
      replace S : St g8 [] fr w := St.tail [] _ S
      exact ⟨_, rfl, g8, (((l1.trans l4).trans l5).trans l8), S, rfl⟩
end Go.Dc
