/- Walks: each function comes to what its model says. -/
import Derived.Test.YtgcjgmfdnhimmaaDcTab
import Derived.Test.YtgcjgmfdnhimmaaDcM
namespace Go.Dc
open Go Go.Proofs
set_option maxRecDepth 100000
set_option maxHeartbeats 4000000
set_option linter.unusedVariables false
theorem textpatch_End_ok {g : Gh} {fr : Hl} {w : World} {r : Int} (h_ : Hunk) (vh_1 : Value) (hh_1 : RepSl g h_.Old vh_1) (vh_2 : Value) (hh_2 : RepSl g h_.New vh_2) (S : St g [] fr w) (hm : textpatch_End h_ = some r) :
  Calls Try.prog 51 [.agg #[.int .i64 h_.At, vh_1, vh_2]].toArray w (fun en w' => ∃ v, en = .returned v ∧ ∃ (g' : Gh), Le g g' ∧ St g' [] fr w' ∧ .int .i64 r = v) := by
 unfold textpatch_End at hm
 refine calls_enter (fn := Try.f51) Try.func51 rfl Try.ntmps51 (lb rfl) ?_
 intro a F
 replace F : Fr 9 a [(0, .agg #[.int .i64 h_.At, vh_1, vh_2])] := F
 refine wp_seq ?_
 refine wp_region_lit ?_
 refine wl_boxC (wn rfl) rfl rfl rfl F S rfl rfl ?_; clear F a S; rintro b1 a w F S
 refine wl_ev (wn rfl) (ev_assign rfl) F S rfl rfl ?_; clear F a; intro a F
 refine wpList_nil ?_
 replace F := F.sub (e' := [(1, bp b1 0)]) ⟨rfl, trivial⟩
 refine then_n ?_
 refine wp_seq ?_
 refine wp_region_lit ?_
 refine wl_ev (wn rfl) (ev_fieldAddr' tu60 tf60_0 (z := 0) ts3 rfl ⟨_, rfl⟩ rfl) F S rfl rfl ?_; clear F a; intro a F
 refine wl_ev (wn rfl) (ev_load1 tu3 rfl rfl (box_ptr (cells := [.int .i64 h_.At]) 0 rfl 0 rfl (lb rfl))) F S rfl rfl ?_; clear F a; intro a F
 refine wl_ev (wn rfl) (ev_fieldAddr' tu60 tf60_1 (z := 0) ts31 rfl ⟨_, rfl⟩ rfl) F S rfl rfl ?_; clear F a; intro a F
 refine wl_ev (wn rfl) (ev_load1 tu31 rfl rfl (box_ptr (cells := [vh_1]) 0 rfl 1 rfl (lb rfl))) F S rfl rfl ?_; clear F a; intro a F
 refine wl_ev (wn rfl) (ev_lenSh hh_1 rfl tu31) F S rfl rfl ?_; clear F a; intro a F
 obtain ⟨z1, hz1, hm⟩ := bind_some hm
 refine wl_ev (wn rfl) (ev_int rfl rfl (bo_add hz1)) F S rfl rfl ?_; clear F a; intro a F
 refine wl_ev (wn rfl) (ev_assign rfl) F S rfl rfl ?_; clear F a; intro a F
 refine wpList_nil ?_
 replace F := F.sub (e' := [(2, .int .i64 z1)]) ⟨rfl, trivial⟩
 refine then_n ?_
 refine wp_ret ?_
 obtain rfl := sinj hm
 refine post_r (fn := Try.f51) (rs := [.tmp 2]) [.int .i64 z1] F rfl (ar_cons (resT rfl) ar_nil) ?_
 replace S : St g [] fr w := St.tail [] _ S
 exact ⟨_, rfl, g, (Le.refl _), S, rfl⟩

theorem stringslite_IndexByte_ok {g : Gh} {fr : Hl} {w : World} {r : Int} (s_ : ByteArray) (c_ : Int) (S : St g [] fr w) (hm : stringslite_IndexByte s_ c_ = some r) :
  Calls Try.prog 74 [.string s_, .int .u8 c_].toArray w (fun en w' => ∃ v, en = .returned v ∧ ∃ (g' : Gh), Le g g' ∧ St g' [] fr w' ∧ .int .i64 r = v) := by
 unfold stringslite_IndexByte at hm
 refine calls_enter (fn := Try.f74) Try.func74 rfl Try.ntmps74 (lb rfl) ?_
 intro a F
 replace F : Fr 8 a [(0, .string s_), (1, .int .u8 c_)] := F
 refine wp_seq ?_
 refine wp_region_lit ?_
 refine wl_ev (wn rfl) (ev_assign rfl) F S rfl rfl ?_; clear F a; intro a F
 refine wpList_nil ?_
 replace F := F.sub (e' := [(0, .string s_), (1, .int .u8 c_)]) ⟨rfl, rfl, trivial⟩
 refine then_n ?_
 refine wp_seq ?_
 refine wp_region_lit ?_
 refine wl_ev (wn rfl) (ev_move rfl) F S rfl rfl ?_; clear F a; intro a F
 refine wl_ev (wn rfl) (ev_move rfl) F S rfl rfl ?_; clear F a; intro a F
 refine wl_ev (wn rfl) (ev_callx (xs := [.tmp 5, .tmp 6]) (vs := [.string s_, .int .u8 c_]) rfl rfl (fun w => tx76 s_ c_ w)) F S rfl rfl ?_; clear F a; intro a F
 refine wl_ev (wn rfl) (ev_assign rfl) F S rfl rfl ?_; clear F a; intro a F
 refine wpList_nil ?_
 replace F := F.sub (e' := [(4, .int .i64 (idxB s_ c_))]) ⟨rfl, trivial⟩
 refine then_n ?_
 refine wp_ret ?_
 obtain rfl := sinj hm
 refine post_r (fn := Try.f74) (rs := [.tmp 4]) [.int .i64 (idxB s_ c_)] F rfl (ar_cons (resT rfl) ar_nil) ?_
 exact ⟨_, rfl, g, (Le.refl _), S, rfl⟩

theorem strings_IndexByte_ok {g : Gh} {fr : Hl} {w : World} {r : Int} (s_ : ByteArray) (c_ : Int) (S : St g [] fr w) (hm : strings_IndexByte s_ c_ = some r) :
  Calls Try.prog 65 [.string s_, .int .u8 c_].toArray w (fun en w' => ∃ v, en = .returned v ∧ ∃ (g' : Gh), Le g g' ∧ St g' [] fr w' ∧ .int .i64 r = v) := by
 unfold strings_IndexByte at hm
 refine calls_enter (fn := Try.f65) Try.func65 rfl Try.ntmps65 (lb rfl) ?_
 intro a F
 replace F : Fr 8 a [(0, .string s_), (1, .int .u8 c_)] := F
 refine wp_seq ?_
 refine wp_region_lit ?_
 refine wl_ev (wn rfl) (ev_assign rfl) F S rfl rfl ?_; clear F a; intro a F
 refine wpList_nil ?_
 replace F := F.sub (e' := [(0, .string s_), (1, .int .u8 c_)]) ⟨rfl, rfl, trivial⟩
 refine then_n ?_
 refine wp_seq ?_
 refine wp_region_lit ?_
 refine wl_ev (wn rfl) (ev_move rfl) F S rfl rfl ?_; clear F a; intro a F
 refine wl_ev (wn rfl) (ev_move rfl) F S rfl rfl ?_; clear F a; intro a F
 obtain ⟨y1, hy1, hm⟩ := bind_some hm
 refine wl_call (wn rfl) rfl (xs := [.tmp 5, .tmp 6]) (vs := [.string s_, .int .u8 c_]) (cap := []) F rfl rfl tc74 (stringslite_IndexByte_ok (g := g) (fr := fr) (w := w) s_ c_ S hy1) rfl rfl ?_; clear F a S
 rintro _ a w ⟨g1, l1, S, rfl⟩ F; replace S : St g1 [] fr w := S
 refine wl_ev (wn rfl) (ev_assign rfl) F S rfl rfl ?_; clear F a; intro a F
 refine wpList_nil ?_
 replace F := F.sub (e' := [(4, .int .i64 y1)]) ⟨rfl, trivial⟩
 refine then_n ?_
 refine wp_ret ?_
 obtain rfl := sinj hm
 refine post_r (fn := Try.f65) (rs := [.tmp 4]) [.int .i64 y1] F rfl (ar_cons (resT rfl) ar_nil) ?_
 exact ⟨_, rfl, g1, l1, S, rfl⟩

theorem lines_Validate_ok {g : Gh} {fr : Hl} {w : World} {r : Fault} (lines : (List ByteArray)) (vlines1 : Value) (hlines1 : RepSl g lines vlines1) (S : St g [] fr w) (hm : lines_Validate lines = some r) :
  Calls Try.prog 48 [vlines1].toArray w (fun en w' => ∃ v, en = .returned v ∧ ∃ (g' : Gh), Le g g' ∧ St g' [] fr w' ∧ .agg #[.int .i64 r.Code, .int .i64 r.Index] = v) := by
 unfold lines_Validate at hm
 refine calls_enter (fn := Try.f48) Try.func48 rfl Try.ntmps48 (lb rfl) ?_
 intro a F
 replace F : Fr 28 a [(0, vlines1)] := F
 refine wp_seq ?_
 refine wp_region_lit ?_
 refine wl_alloc (wn rfl) rfl tz24 (cs := [.int .i64 0, .int .i64 0]) rfl F S rfl rfl ?_; clear F a S; rintro b1 a w F S
 refine wpList_nil ?_
 refine then_n ?_
 refine wp_seq ?_
 refine wp_seq ?_
 refine wp_region_lit ?_
 refine wl_ev (wn rfl) (ev_move rfl) F S rfl rfl ?_; clear F a; intro a F
 refine wl_ev (wn rfl) (ev_lenSh hlines1 rfl tu31) F S rfl rfl ?_; clear F a; intro a F
 refine wl_ev (wn rfl) (ev_int rfl rfl (bo_gtr _ _ _ _)) F S rfl rfl ?_; clear F a; intro a F
 refine wpList_nil ?_
 replace F := F.sub (e' := [(7, .bool (decide ((lines.length : Int) > 120))), (2, bp b1 0), (0, vlines1)]) ⟨rfl, rfl, rfl, trivial⟩
 refine then_n ?_
 obtain ⟨hc1, hm⟩ | ⟨hc1, hm⟩ := ite_or hm
 ·refine wp_condT F rfl hc1 ?_
  refine wp_seq ?_
  refine wp_region_lit ?_
  refine wl_ev (wn rfl) (ev_build (parts := [(0, .const (.int .i64 2)), (1, .const (.int .i64 (-1)))]) (vs := [(0, .int .i64 2), (1, .int .i64 (-1))]) rfl (fun w => tb24_0_1 2 (-1) w)) F S rfl rfl ?_; clear F a; intro a F
  refine wl_storeC (wn rfl) rfl F S rfl rfl (vs := [.int .i64 2, .int .i64 (-1)]) rfl ts24 (one_cons rfl (one_cons rfl one_nil)) (k := 0) rfl (lb rfl) (c' := #[.int .i64 2, .int .i64 (-1)]) rfl rfl ?_; clear S; intro w S
  replace S : St g [[(b1, .cells #[.int .i64 2, .int .i64 (-1)] 24 (0, 0))]] fr w := S
  refine wpList_nil ?_
  replace F := F.sub (e' := [(2, bp b1 0)]) ⟨rfl, trivial⟩
  refine then_n ?_
  refine wp_ret ?_
  refine then_r ?_
  obtain rfl := sinj hm
  refine post_r (fn := Try.f48) (rs := [.cell 2 24]) [.agg #[.int .i64 2, .int .i64 (-1)]] F rfl (ar_cons (resA rfl tu24 rfl ts24 (box_ptr (cells := [.int .i64 2, .int .i64 (-1)]) 0 rfl 0 rfl (lb rfl) w S)) ar_nil) ?_
  replace S : St g [] fr w := St.tail [] _ S
  exact ⟨_, rfl, g, (Le.refl _), S, rfl⟩
 ·refine wp_condF F rfl hc1 ?_
  refine wp_skip ?_
  refine then_n ?_
  refine wp_cut (fun a w => ∃ (g1 : Gh), Fr 28 a [(2, bp b1 0)] ∧ Le g g1 ∧ St g1 [[(b1, .cells #[.int .i64 0, .int .i64 0] 24 (0, 0))]] fr w ∧ lines_Validate.j1 = some r) ?_ ?_
  ·refine wp_seq ?_
   refine wp_region_lit ?_
   refine wl_ev (wn rfl) (ev_move rfl) F S rfl rfl ?_; clear F a; intro a F
   refine wl_ev (wn rfl) (ev_lenSh hlines1 rfl tu31) F S rfl rfl ?_; clear F a; intro a F
   refine wl_ev (wn rfl) (ev_move rfl) F S rfl rfl ?_; clear F a; intro a F
   refine wpList_nil ?_
   replace F := F.sub (e' := [(11, .int .i64 0), (10, .int .i64 (lines.length : Int)), (9, vlines1), (2, bp b1 0)]) ⟨rfl, rfl, rfl, rfl, trivial⟩
   refine then_n ?_
   refine wp_block ?_
   obtain ⟨r1, hr1, hm⟩ := bind_some hm
   have hmo1 := hm; clear hm
   refine wp_iter (σ := Int) (ρ := Fault ⊕ Unit) (m := fun s => lines_Validate.l1 lines s) (I := fun x1 a w => ∃ (g2 : Gh), Fr 28 a [(11, .int .i64 x1), (10, .int .i64 (lines.length : Int)), (9, vlines1), (2, bp b1 0)] ∧ Le g g2 ∧ St g2 [[(b1, .cells #[.int .i64 0, .int .i64 0] 24 (0, 0))]] fr w) hr1 ?_ ?_
   ·exact ⟨g, F.sub ⟨rfl, rfl, rfl, rfl, trivial⟩, (Le.refl _), S⟩
   ·clear F S; rintro x1 a w x2 ⟨g2, F, l2, S⟩ hx1 hfin1
    have hm : lines_Validate.l1 lines x1 = some x2 := hx1; clear hx1
    unfold lines_Validate.l1 at hm
    refine wp_seq ?_
    refine wp_region_lit ?_
    refine wl_ev (wn rfl) (ev_int rfl rfl (bo_lss _ _ _ _)) F S rfl rfl ?_; clear F a; intro a F
    refine wpList_nil ?_
    refine then_n ?_
    refine wp_seq ?_
    obtain ⟨hc2, hm⟩ | ⟨hc2, hm⟩ := ite_or hm
    ·refine wp_condT F rfl hc2 ?_
     refine wp_skip ?_
     refine then_n ?_
     refine wp_seq ?_
     refine wp_block ?_
     refine wp_seq ?_
     refine wp_region_lit ?_
     refine wl_ev (wn rfl) (ev_move rfl) F S rfl rfl ?_; clear F a; intro a F
     obtain ⟨y1, hy1, hm⟩ := bind_some hm
     obtain ⟨cs1, hr2, hp1⟩ := elemS (hlines1.mono l2) hy1
     obtain rfl := rep_str hr2
     refine wl_ev (wn rfl) (ev_idxS (hlines1.mono l2) hy1 tu31 ts9 rfl rfl) F S rfl rfl ?_; clear F a; intro a F
     refine wl_ev (wn rfl) (ev_load1 tu9 rfl rfl (ptr_mono (cks := [[(b1, .cells #[.int .i64 0, .int .i64 0] 24 (0, 0))]]) (fr := fr) hp1 (Le.refl _))) F S rfl rfl ?_; clear F a; intro a F
     refine wl_ev (wn rfl) (ev_assign rfl) F S rfl rfl ?_; clear F a; intro a F
     refine wl_ev (wn rfl) (ev_assign rfl) F S rfl rfl ?_; clear F a; intro a F
     refine wpList_nil ?_
     replace F := F.sub (e' := [(4, .string y1), (3, .int .i64 x1), (11, .int .i64 x1), (10, .int .i64 (lines.length : Int)), (9, vlines1), (2, bp b1 0)]) ⟨rfl, rfl, rfl, rfl, rfl, rfl, trivial⟩
     refine then_n ?_
     refine wp_seq ?_
     refine wp_seq ?_
     refine wp_region_lit ?_
     refine wl_ev (wn rfl) (ev_move rfl) F S rfl rfl ?_; clear F a; intro a F
     refine wl_ev (wn rfl) (ev_lenS rfl tu9) F S rfl rfl ?_; clear F a; intro a F
     refine wl_ev (wn rfl) (ev_int rfl rfl (bo_gtr _ _ _ _)) F S rfl rfl ?_; clear F a; intro a F
     refine wpList_nil ?_
     replace F := F.sub (e' := [(18, .bool (decide ((y1.size : Int) > 80))), (4, .string y1), (3, .int .i64 x1), (11, .int .i64 x1), (10, .int .i64 (lines.length : Int)), (9, vlines1), (2, bp b1 0)]) ⟨rfl, rfl, rfl, rfl, rfl, rfl, rfl, trivial⟩
     refine then_n ?_
     obtain ⟨hc3, hm⟩ | ⟨hc3, hm⟩ := ite_or hm
     ·refine wp_condT F rfl hc3 ?_
      refine wp_seq ?_
      refine wp_region_lit ?_
      refine wl_ev (wn rfl) (ev_move rfl) F S rfl rfl ?_; clear F a; intro a F
      refine wl_ev (wn rfl) (ev_build (parts := [(0, .const (.int .i64 2)), (1, .tmp 19)]) (vs := [(0, .int .i64 2), (1, .int .i64 x1)]) rfl (fun w => tb24_0_1 2 x1 w)) F S rfl rfl ?_; clear F a; intro a F
      refine wl_storeC (wn rfl) rfl F S rfl rfl (vs := [.int .i64 2, .int .i64 x1]) rfl ts24 (one_cons rfl (one_cons rfl one_nil)) (k := 0) rfl (lb rfl) (c' := #[.int .i64 2, .int .i64 x1]) rfl rfl ?_; clear S; intro w S
      replace S : St g2 [[(b1, .cells #[.int .i64 2, .int .i64 x1] 24 (0, 0))]] fr w := S
      refine wpList_nil ?_
      replace F := F.sub (e' := [(2, bp b1 0)]) ⟨rfl, trivial⟩
      refine then_n ?_
      refine wp_ret ?_
      refine then_r ?_
      refine inb_r ?_
      refine then_r ?_
      refine then_r ?_
      refine inb_r ?_
      refine then_r ?_
      obtain rfl := sinj hm
      obtain rfl := hfin1 _ rfl
      clear hm
      have hm : (some ({ Code := 2, Index := x1 } : Fault) : Option Fault) = some _ := hmo1
      obtain rfl := sinj hm
      refine post_r (fn := Try.f48) (rs := [.cell 2 24]) [.agg #[.int .i64 2, .int .i64 x1]] F rfl (ar_cons (resA rfl tu24 rfl ts24 (box_ptr (cells := [.int .i64 2, .int .i64 x1]) 0 rfl 0 rfl (lb rfl) w S)) ar_nil) ?_
      replace S : St g2 [] fr w := St.tail [] _ S
      exact ⟨_, rfl, g2, l2, S, rfl⟩
     ·refine wp_condF F rfl hc3 ?_
      refine wp_skip ?_
      refine then_n ?_
      refine wp_seq ?_
      refine wp_region_lit ?_
      refine wl_ev (wn rfl) (ev_move rfl) F S rfl rfl ?_; clear F a; intro a F
      obtain ⟨y2, hy2, hm⟩ := bind_some hm
      refine wl_call (wn rfl) rfl (xs := [.tmp 21, .const (.int .u8 10)]) (vs := [.string y1, .int .u8 10]) (cap := []) F rfl rfl tc65 (strings_IndexByte_ok (g := g2) (fr := (fl [[(b1, .cells #[.int .i64 0, .int .i64 0] 24 (0, 0))]] fr)) (w := w) y1 10 S hy2) rfl rfl ?_; clear F a S
      rintro _ a w ⟨g3, l3, S, rfl⟩ F; replace S : St g3 [[(b1, .cells #[.int .i64 0, .int .i64 0] 24 (0, 0))]] fr w := S
      refine wl_ev (wn rfl) (ev_int rfl rfl (bo_geq _ _ _ _)) F S rfl rfl ?_; clear F a; intro a F
      refine wpList_nil ?_
      replace F := F.sub (e' := [(23, .bool (decide (y2 ≥ 0))), (3, .int .i64 x1), (11, .int .i64 x1), (10, .int .i64 (lines.length : Int)), (9, vlines1), (2, bp b1 0)]) ⟨rfl, rfl, rfl, rfl, rfl, rfl, trivial⟩
      refine then_n ?_
      obtain ⟨hc4, hm⟩ | ⟨hc4, hm⟩ := ite_or hm
      ·refine wp_condT F rfl hc4 ?_
       refine wp_seq ?_
       refine wp_region_lit ?_
       refine wl_ev (wn rfl) (ev_move rfl) F S rfl rfl ?_; clear F a; intro a F
       refine wl_ev (wn rfl) (ev_build (parts := [(0, .const (.int .i64 5)), (1, .tmp 24)]) (vs := [(0, .int .i64 5), (1, .int .i64 x1)]) rfl (fun w => tb24_0_1 5 x1 w)) F S rfl rfl ?_; clear F a; intro a F
       refine wl_storeC (wn rfl) rfl F S rfl rfl (vs := [.int .i64 5, .int .i64 x1]) rfl ts24 (one_cons rfl (one_cons rfl one_nil)) (k := 0) rfl (lb rfl) (c' := #[.int .i64 5, .int .i64 x1]) rfl rfl ?_; clear S; intro w S
       replace S : St g3 [[(b1, .cells #[.int .i64 5, .int .i64 x1] 24 (0, 0))]] fr w := S
       refine wpList_nil ?_
       replace F := F.sub (e' := [(2, bp b1 0)]) ⟨rfl, trivial⟩
       refine then_n ?_
       refine wp_ret ?_
       refine inb_r ?_
       refine then_r ?_
       refine then_r ?_
       refine inb_r ?_
       refine then_r ?_
       obtain rfl := sinj hm
       obtain rfl := hfin1 _ rfl
       clear hm
       have hm : (some ({ Code := 5, Index := x1 } : Fault) : Option Fault) = some _ := hmo1
       obtain rfl := sinj hm
       refine post_r (fn := Try.f48) (rs := [.cell 2 24]) [.agg #[.int .i64 5, .int .i64 x1]] F rfl (ar_cons (resA rfl tu24 rfl ts24 (box_ptr (cells := [.int .i64 5, .int .i64 x1]) 0 rfl 0 rfl (lb rfl) w S)) ar_nil) ?_
       replace S : St g3 [] fr w := St.tail [] _ S
       exact ⟨_, rfl, g3, (l2.trans l3), S, rfl⟩
      ·refine wp_condF F rfl hc4 ?_
       refine wp_skip ?_
       refine inb_n ?_
       refine then_n ?_
       refine wp_region_lit ?_
       obtain ⟨z1, hz1, hm⟩ := bind_some hm
       refine wl_ev (wn rfl) (ev_int rfl rfl (bo_add hz1)) F S rfl rfl ?_; clear F a; intro a F
       refine wl_ev (wn rfl) (ev_move rfl) F S rfl rfl ?_; clear F a; intro a F
       refine wpList_nil ?_
       replace F := F.sub (e' := [(11, .int .i64 z1), (10, .int .i64 (lines.length : Int)), (9, vlines1), (2, bp b1 0)]) ⟨rfl, rfl, rfl, rfl, trivial⟩
       refine then_n ?_
       obtain rfl := sinj hm
       refine ⟨_, rfl, ?_⟩
       exact ⟨g3, F.sub ⟨rfl, rfl, rfl, rfl, trivial⟩, (l2.trans l3), S⟩
    ·refine wp_condF F rfl hc2 ?_
     refine wp_exit ?_
     refine then_e ?_
     refine then_e ?_
     refine inb_x ?_
     refine then_n ?_
     obtain rfl := sinj hm
     obtain rfl := hfin1 _ rfl
     clear hm
     have hm : (lines_Validate.j1 : Option Fault) = some _ := hmo1
     exact ⟨g2, F.sub ⟨rfl, trivial⟩, l2, S, hm⟩
  ·clear F S hm; rintro a w ⟨g1, F, l1, S, hm⟩
   refine wp_seq ?_
   refine wp_region_lit ?_
   refine wl_ev (wn rfl) (ev_build (parts := []) (vs := []) rfl (fun w => tb24_  w)) F S rfl rfl ?_; clear F a; intro a F
   refine wl_storeC (wn rfl) rfl F S rfl rfl (vs := [.int .i64 0, .int .i64 0]) rfl ts24 (one_cons rfl (one_cons rfl one_nil)) (k := 0) rfl (lb rfl) (c' := #[.int .i64 0, .int .i64 0]) rfl rfl ?_; clear S; intro w S
   replace S : St g1 [[(b1, .cells #[.int .i64 0, .int .i64 0] 24 (0, 0))]] fr w := S
   refine wpList_nil ?_
   replace F := F.sub (e' := [(2, bp b1 0)]) ⟨rfl, trivial⟩
   refine then_n ?_
   refine wp_ret ?_
   obtain rfl := sinj hm
   refine post_r (fn := Try.f48) (rs := [.cell 2 24]) [.agg #[.int .i64 0, .int .i64 0]] F rfl (ar_cons (resA rfl tu24 rfl ts24 (box_ptr (cells := [.int .i64 0, .int .i64 0]) 0 rfl 0 rfl (lb rfl) w S)) ar_nil) ?_
   replace S : St g1 [] fr w := St.tail [] _ S
   exact ⟨_, rfl, g1, l1, S, rfl⟩

theorem textpatch_hunk_ok {g : Gh} {fr : Hl} {w : World} {r : Int} (h_ : Hunk) (vh_1 : Value) (hh_1 : RepSl g h_.Old vh_1) (vh_2 : Value) (hh_2 : RepSl g h_.New vh_2) (end_ : Int) (S : St g [] fr w) (hm : textpatch_hunk h_ end_ = some r) :
  Calls Try.prog 53 [.agg #[.int .i64 h_.At, vh_1, vh_2], .int .i64 end_].toArray w (fun en w' => ∃ v, en = .returned v ∧ ∃ (g' : Gh), Le g g' ∧ St g' [] fr w' ∧ .int .i64 r = v) := by
 unfold textpatch_hunk at hm
 refine calls_enter (fn := Try.f53) Try.func53 rfl Try.ntmps53 (lb rfl) ?_
 intro a F
 replace F : Fr 49 a [(0, .agg #[.int .i64 h_.At, vh_1, vh_2]), (1, .int .i64 end_)] := F
 refine wp_seq ?_
 refine wp_region_lit ?_
 refine wl_boxC (wn rfl) rfl rfl rfl F S rfl rfl ?_; clear F a S; rintro b1 a w F S
 refine wl_ev (wn rfl) (ev_assign rfl) F S rfl rfl ?_; clear F a; intro a F
 refine wpList_nil ?_
 replace F := F.sub (e' := [(2, bp b1 0), (1, .int .i64 end_)]) ⟨rfl, rfl, trivial⟩
 refine then_n ?_
 refine wp_seq ?_
 refine wp_seq ?_
 refine wp_region_lit ?_
 refine wl_ev (wn rfl) (ev_fieldAddr' tu60 tf60_0 (z := 0) ts3 rfl ⟨_, rfl⟩ rfl) F S rfl rfl ?_; clear F a; intro a F
 refine wl_ev (wn rfl) (ev_load1 tu3 rfl rfl (box_ptr (cells := [.int .i64 h_.At]) 0 rfl 0 rfl (lb rfl))) F S rfl rfl ?_; clear F a; intro a F
 refine wl_ev (wn rfl) (ev_int rfl rfl (bo_lss _ _ _ _)) F S rfl rfl ?_; clear F a; intro a F
 refine wl_ev (wn rfl) (ev_move rfl) F S rfl rfl ?_; clear F a; intro a F
 obtain ⟨x1, hx1, hm⟩ := bind_some hm
 refine wl_cut 4 (fun a w' => w = w' ∧ Fr 49 a [(15, .bool x1), (2, bp b1 0), (1, .int .i64 end_)]) ?_ ?_
 ·clear hm; obtain ⟨hc1, hm⟩ | ⟨hc1, hm⟩ := ite_or hx1
  ·refine wl_skip rfl rfl rfl rfl (ne_ft hc1) F rfl rfl ?_; clear F a; intro a F
   refine wl_skip rfl rfl rfl rfl (ne_ft hc1) F rfl rfl ?_; clear F a; intro a F
   refine wl_skip rfl rfl rfl rfl (ne_ft hc1) F rfl rfl ?_; clear F a; intro a F
   refine wl_ev (wn rfl) (ev_pickT rfl hc1 rfl) F S rfl rfl ?_; clear F a; intro a F
   obtain rfl := sinj hm
   refine wpList_nil (then_n ?_); exact ⟨rfl, F.sub ⟨rfl, rfl, rfl, trivial⟩⟩
  ·refine wl_ev (wg F rfl rfl rfl rfl hc1) (ev_fieldAddr' tu60 tf60_0 (z := 0) ts3 rfl ⟨_, rfl⟩ rfl) F S rfl rfl ?_; clear F a; intro a F
   refine wl_ev (wg F rfl rfl rfl rfl hc1) (ev_load1 tu3 rfl rfl (box_ptr (cells := [.int .i64 h_.At]) 0 rfl 0 rfl (lb rfl))) F S rfl rfl ?_; clear F a; intro a F
   refine wl_ev (wg F rfl rfl rfl rfl hc1) (ev_int rfl rfl (bo_gtr _ _ _ _)) F S rfl rfl ?_; clear F a; intro a F
   refine wl_ev (wn rfl) (ev_pickF rfl hc1 rfl) F S rfl rfl ?_; clear F a; intro a F
   obtain rfl := sinj hm
   refine wpList_nil (then_n ?_); exact ⟨rfl, F.sub ⟨rfl, rfl, rfl, trivial⟩⟩
 clear F; rintro a w' ⟨rfl, F⟩
 refine wpList_nil ?_
 refine then_n ?_
 obtain ⟨hc2, hm⟩ | ⟨hc2, hm⟩ := ite_or hm
 ·refine wp_condT F rfl hc2 ?_
  refine wp_seq ?_
  refine wp_region_lit ?_
  refine wl_ev (wn rfl) (ev_assign rfl) F S rfl rfl ?_; clear F a; intro a F
  refine wpList_nil ?_
  replace F := F.sub (e' := [(4, .int .i64 3)]) ⟨rfl, trivial⟩
  refine then_n ?_
  refine wp_ret ?_
  refine then_r ?_
  obtain rfl := sinj hm
  refine post_r (fn := Try.f53) (rs := [.tmp 4]) [.int .i64 3] F rfl (ar_cons (resT rfl) ar_nil) ?_
  replace S : St g [] fr w := St.tail [] _ S
  exact ⟨_, rfl, g, (Le.refl _), S, rfl⟩
 ·refine wp_condF F rfl hc2 ?_
  refine wp_skip ?_
  refine then_n ?_
  refine wp_cut (fun a w => ∃ (g1 : Gh), Fr 49 a [(2, bp b1 0), (1, .int .i64 end_)] ∧ Le g g1 ∧ St g1 [[(b1, .cells #[.int .i64 h_.At, vh_1, vh_2] 60 (0, 0))]] fr w ∧ textpatch_hunk.j1 h_ end_ = some r) ?_ ?_
  ·refine wp_seq ?_
   refine wp_region_lit ?_
   refine wl_ev (wn rfl) (ev_fieldAddr' tu60 tf60_1 (z := 0) ts31 rfl ⟨_, rfl⟩ rfl) F S rfl rfl ?_; clear F a; intro a F
   refine wl_ev (wn rfl) (ev_load1 tu31 rfl rfl (box_ptr (cells := [vh_1]) 0 rfl 1 rfl (lb rfl))) F S rfl rfl ?_; clear F a; intro a F
   refine wl_ev (wn rfl) (ev_fieldAddr' tu60 tf60_2 (z := 0) ts31 rfl ⟨_, rfl⟩ rfl) F S rfl rfl ?_; clear F a; intro a F
   refine wl_ev (wn rfl) (ev_load1 tu31 rfl rfl (box_ptr (cells := [vh_2]) 0 rfl 2 rfl (lb rfl))) F S rfl rfl ?_; clear F a; intro a F
   refine wl_ev (wn rfl) (ev_build (parts := [(0, .tmp 17), (1, .tmp 19)]) (vs := [(0, vh_1), (1, vh_2)]) rfl (fun w => tb88_0_1 vh_1 (RepSl.isSl hh_1) vh_2 (RepSl.isSl hh_2) w)) F S rfl rfl ?_; clear F a; intro a F
   refine wl_ev (wn rfl) (ev_move rfl) F S rfl rfl ?_; clear F a; intro a F
   refine wpList_nil ?_
   replace F := F.sub (e' := [(21, .int .i64 0), (20, .agg #[vh_1, vh_2]), (2, bp b1 0), (1, .int .i64 end_)]) ⟨rfl, rfl, rfl, rfl, trivial⟩
   refine then_n ?_
   refine wp_block ?_
   obtain ⟨r1, hr1, hm⟩ := bind_some hm
   have hmo1 := hm; clear hm
   refine wp_iter (σ := Int) (ρ := Int ⊕ Unit) (m := fun s => textpatch_hunk.l1 h_ s) (I := fun x3 a w => ∃ (g3 : Gh), Fr 49 a [(21, .int .i64 x3), (20, .agg #[vh_1, vh_2]), (2, bp b1 0), (1, .int .i64 end_)] ∧ Le g g3 ∧ St g3 [[(b1, .cells #[.int .i64 h_.At, vh_1, vh_2] 60 (0, 0))]] fr w) hr1 ?_ ?_
   ·exact ⟨g, F.sub ⟨rfl, rfl, rfl, rfl, trivial⟩, (Le.refl _), S⟩
   ·clear F S; rintro x3 a w x4 ⟨g3, F, l3, S⟩ hx3 hfin1
    have hm : textpatch_hunk.l1 h_ x3 = some x4 := hx3; clear hx3
    unfold textpatch_hunk.l1 at hm
    refine wp_seq ?_
    refine wp_region_lit ?_
    refine wl_ev (wn rfl) (ev_int rfl rfl (bo_lss _ _ _ _)) F S rfl rfl ?_; clear F a; intro a F
    refine wpList_nil ?_
    refine then_n ?_
    refine wp_seq ?_
    obtain ⟨hc6, hm⟩ | ⟨hc6, hm⟩ := ite_or hm
    ·refine wp_condT F rfl hc6 ?_
     refine wp_skip ?_
     refine then_n ?_
     refine wp_seq ?_
     refine wp_block ?_
     refine wp_seq ?_
     refine wp_region_lit ?_
     obtain ⟨y2, hy2, hm⟩ := bind_some hm
     obtain ⟨v1, h1, he1⟩ := ev_indexASl (P := Try.prog) (n := 49) (e := [(22, .bool (decide (x3 < 2))), (21, .int .i64 x3), (20, .agg #[vh_1, vh_2]), (2, bp b1 0), (1, .int .i64 end_)]) (C := fun w => St g3 [[(b1, .cells #[.int .i64 h_.At, vh_1, vh_2] 60 (0, 0))]] fr w) (g := g3) (x := .tmp 20) (y := .tmp 21) hy2 tu88 tu31 ts31 rfl (cs := [vh_1, vh_2]) ⟨(hh_1.mono l3), ⟨(hh_2.mono l3), trivial⟩⟩ rfl rfl
     refine wl_ev (wn rfl) he1 F S rfl rfl ?_; clear F a; intro a F
     refine wl_ev (wn rfl) (ev_assign rfl) F S rfl rfl ?_; clear F a; intro a F
     refine wpList_nil ?_
     replace F := F.sub (e' := [(6, v1), (21, .int .i64 x3), (20, .agg #[vh_1, vh_2]), (2, bp b1 0), (1, .int .i64 end_)]) ⟨rfl, rfl, rfl, rfl, rfl, trivial⟩
     refine then_n ?_
     refine wp_seq ?_
     refine wp_region_lit ?_
     refine wl_ev (wn rfl) (ev_move rfl) F S rfl rfl ?_; clear F a; intro a F
     obtain ⟨y3, hy3, hm⟩ := bind_some hm
     refine wl_call (wn rfl) rfl (xs := [.tmp 24]) (vs := [v1]) (cap := []) F rfl rfl tc48 (lines_Validate_ok (g := g3) (fr := (fl [[(b1, .cells #[.int .i64 h_.At, vh_1, vh_2] 60 (0, 0))]] fr)) (w := w) y2 v1 h1 S hy3) rfl rfl ?_; clear F a S
     rintro _ a w ⟨g4, l4, S, rfl⟩ F; replace S : St g4 [[(b1, .cells #[.int .i64 h_.At, vh_1, vh_2] 60 (0, 0))]] fr w := S
     refine wl_alloc (wn rfl) rfl tz24 (cs := [.int .i64 0, .int .i64 0]) rfl F S rfl rfl ?_; clear F a S; rintro b2 a w F S
     refine wl_storeC (wn rfl) rfl F S rfl rfl (vs := [.int .i64 y3.Code, .int .i64 y3.Index]) rfl ts24 (one_cons rfl (one_cons rfl one_nil)) (k := 0) rfl (lb rfl) (c' := #[.int .i64 y3.Code, .int .i64 y3.Index]) rfl rfl ?_; clear S; intro w S
     replace S : St g4 [[(b2, .cells #[.int .i64 y3.Code, .int .i64 y3.Index] 24 (0, 0))], [(b1, .cells #[.int .i64 h_.At, vh_1, vh_2] 60 (0, 0))]] fr w := S
     refine wpList_nil ?_
     replace F := F.sub (e' := [(7, bp b2 0), (21, .int .i64 x3), (20, .agg #[vh_1, vh_2]), (2, bp b1 0), (1, .int .i64 end_)]) ⟨rfl, rfl, rfl, rfl, rfl, trivial⟩
     refine then_n ?_
     refine wp_seq ?_
     refine wp_region_lit ?_
     refine wl_ev (wn rfl) (ev_loadA tu24 rfl (cs := [.int .i64 y3.Code, .int .i64 y3.Index]) ts24 rfl (box_ptr (cells := [.int .i64 y3.Code, .int .i64 y3.Index]) 0 rfl 0 rfl (lb rfl))) F S rfl rfl ?_; clear F a; intro a F
     refine wl_ev (wn rfl) (ev_build (parts := []) (vs := []) rfl (fun w => tb24_  w)) F S rfl rfl ?_; clear F a; intro a F
     refine wl_ev (wn rfl) (ev_neS tu24 tqa24 tqb24 tqc24 (xs := [.int .i64 y3.Code, .int .i64 y3.Index]) (ys := [.int .i64 0, .int .i64 0]) rfl rfl ⟨_, _, rfl, by decide, ⟨_, _, rfl, rfl, leaf_int tu3⟩, ⟨_, _, rfl, by decide, ⟨_, _, rfl, rfl, leaf_int tu3⟩, rfl⟩⟩) F S rfl rfl ?_; clear F a; intro a F
     refine wpList_nil ?_
     replace F := F.sub (e' := [(28, .bool (!(decide (y3.Code = 0) && decide (y3.Index = 0)))), (7, bp b2 0), (21, .int .i64 x3), (20, .agg #[vh_1, vh_2]), (2, bp b1 0), (1, .int .i64 end_)]) ⟨rfl, rfl, rfl, rfl, rfl, rfl, trivial⟩
     refine then_n ?_
     obtain ⟨hc7, hm⟩ | ⟨hc7, hm⟩ := ite_or hm
     ·refine wp_condT F rfl hc7 ?_
      refine wp_seq ?_
      refine wp_region_lit ?_
      refine wl_ev (wn rfl) (ev_fieldAddr' tu24 tf24_0 (z := 0) ts3 rfl ⟨_, rfl⟩ rfl) F S rfl rfl ?_; clear F a; intro a F
      refine wl_ev (wn rfl) (ev_load1 tu3 rfl rfl (box_ptr (cells := [.int .i64 y3.Code]) 0 rfl 0 rfl (lb rfl))) F S rfl rfl ?_; clear F a; intro a F
      refine wl_ev (wn rfl) (ev_assign rfl) F S rfl rfl ?_; clear F a; intro a F
      refine wpList_nil ?_
      replace F := F.sub (e' := [(4, .int .i64 y3.Code)]) ⟨rfl, trivial⟩
      refine then_n ?_
      refine wp_ret ?_
      refine inb_r ?_
      refine then_r ?_
      refine then_r ?_
      refine inb_r ?_
      refine then_r ?_
      obtain rfl := sinj hm
      obtain rfl := hfin1 _ rfl
      clear hm
      have hm : (some y3.Code : Option Int) = some _ := hmo1
      obtain rfl := sinj hm
      refine post_r (fn := Try.f53) (rs := [.tmp 4]) [.int .i64 y3.Code] F rfl (ar_cons (resT rfl) ar_nil) ?_
      replace S : St g4 [] fr w := St.tail [] _ S
      exact ⟨_, rfl, g4, (l3.trans l4), S, rfl⟩
     ·refine wp_condF F rfl hc7 ?_
      refine wp_skip ?_
      refine inb_n ?_
      refine then_n ?_
      refine wp_region_lit ?_
      obtain ⟨z2, hz2, hm⟩ := bind_some hm
      refine wl_ev (wn rfl) (ev_int rfl rfl (bo_add hz2)) F S rfl rfl ?_; clear F a; intro a F
      refine wl_ev (wn rfl) (ev_move rfl) F S rfl rfl ?_; clear F a; intro a F
      refine wpList_nil ?_
      replace F := F.sub (e' := [(21, .int .i64 z2), (20, .agg #[vh_1, vh_2]), (2, bp b1 0), (1, .int .i64 end_)]) ⟨rfl, rfl, rfl, rfl, trivial⟩
      refine then_n ?_
      obtain rfl := sinj hm
      refine ⟨_, rfl, ?_⟩
      replace S : St g4 [[(b1, .cells #[.int .i64 h_.At, vh_1, vh_2] 60 (0, 0))]] fr w := St.tail [[(b1, .cells #[.int .i64 h_.At, vh_1, vh_2] 60 (0, 0))]] _ (S.frontC 1 rfl)
      exact ⟨g4, F.sub ⟨rfl, rfl, rfl, rfl, trivial⟩, (l3.trans l4), S⟩
    ·refine wp_condF F rfl hc6 ?_
     refine wp_exit ?_
     refine then_e ?_
     refine then_e ?_
     refine inb_x ?_
     refine then_n ?_
     obtain rfl := sinj hm
     obtain rfl := hfin1 _ rfl
     clear hm
     have hm : (textpatch_hunk.j1 h_ end_ : Option Int) = some _ := hmo1
     exact ⟨g3, F.sub ⟨rfl, rfl, trivial⟩, l3, S, hm⟩
  ·clear F S hm; rintro a w ⟨g1, F, l1, S, hm⟩
   refine wp_seq ?_
   refine wp_seq ?_
   refine wp_region_lit ?_
   refine wl_ev (wn rfl) (ev_fieldAddr' tu60 tf60_1 (z := 0) ts31 rfl ⟨_, rfl⟩ rfl) F S rfl rfl ?_; clear F a; intro a F
   refine wl_ev (wn rfl) (ev_load1 tu31 rfl rfl (box_ptr (cells := [vh_1]) 0 rfl 1 rfl (lb rfl))) F S rfl rfl ?_; clear F a; intro a F
   refine wl_ev (wn rfl) (ev_lenSh hh_1 rfl tu31) F S rfl rfl ?_; clear F a; intro a F
   refine wl_ev (wn rfl) (ev_fieldAddr' tu60 tf60_2 (z := 0) ts31 rfl ⟨_, rfl⟩ rfl) F S rfl rfl ?_; clear F a; intro a F
   refine wl_ev (wn rfl) (ev_load1 tu31 rfl rfl (box_ptr (cells := [vh_2]) 0 rfl 2 rfl (lb rfl))) F S rfl rfl ?_; clear F a; intro a F
   refine wl_ev (wn rfl) (ev_lenSh hh_2 rfl tu31) F S rfl rfl ?_; clear F a; intro a F
   obtain ⟨z1, hz1, hm⟩ := bind_some hm
   refine wl_ev (wn rfl) (ev_int rfl rfl (bo_add hz1)) F S rfl rfl ?_; clear F a; intro a F
   refine wl_ev (wn rfl) (ev_int rfl rfl (bo_eql _ _ _ _)) F S rfl rfl ?_; clear F a; intro a F
   refine wl_ev (wn rfl) (ev_move rfl) F S rfl rfl ?_; clear F a; intro a F
   obtain ⟨x2, hx2, hm⟩ := bind_some hm
   refine wl_cut 5 (fun a w' => w = w' ∧ Fr 49 a [(45, .bool x2), (2, bp b1 0)]) ?_ ?_
   ·clear hm; obtain ⟨hc3, hm⟩ | ⟨hc3, hm⟩ := ite_or hx2
    ·refine wl_skip rfl rfl rfl rfl (ne_ft hc3) F rfl rfl ?_; clear F a; intro a F
     refine wl_skip rfl rfl rfl rfl (ne_ft hc3) F rfl rfl ?_; clear F a; intro a F
     refine wl_skip rfl rfl rfl rfl (ne_ft hc3) F rfl rfl ?_; clear F a; intro a F
     refine wl_skip rfl rfl rfl rfl (ne_ft hc3) F rfl rfl ?_; clear F a; intro a F
     refine wl_ev (wn rfl) (ev_pickT rfl hc3 rfl) F S rfl rfl ?_; clear F a; intro a F
     obtain rfl := sinj hm
     refine wpList_nil (then_n ?_); exact ⟨rfl, F.sub ⟨rfl, rfl, trivial⟩⟩
    ·refine wl_ev (wg F rfl rfl rfl rfl hc3) (ev_fieldAddr' tu60 tf60_0 (z := 0) ts3 rfl ⟨_, rfl⟩ rfl) F S rfl rfl ?_; clear F a; intro a F
     refine wl_ev (wg F rfl rfl rfl rfl hc3) (ev_load1 tu3 rfl rfl (box_ptr (cells := [.int .i64 h_.At]) 0 rfl 0 rfl (lb rfl))) F S rfl rfl ?_; clear F a; intro a F
     refine wl_ev (wg F rfl rfl rfl rfl hc3) (ev_move rfl) F S rfl rfl ?_; clear F a; intro a F
     refine wl_ev (wg F rfl rfl rfl rfl hc3) (ev_int rfl rfl (bo_leq _ _ _ _)) F S rfl rfl ?_; clear F a; intro a F
     refine wl_ev (wn rfl) (ev_pickF rfl hc3 rfl) F S rfl rfl ?_; clear F a; intro a F
     obtain rfl := sinj hm
     refine wpList_nil (then_n ?_); exact ⟨rfl, F.sub ⟨rfl, rfl, trivial⟩⟩
   clear F; rintro a w' ⟨rfl, F⟩
   refine wpList_nil ?_
   refine then_n ?_
   obtain ⟨hc4, hm⟩ | ⟨hc4, hm⟩ := ite_or hm
   ·refine wp_condT F rfl hc4 ?_
    refine wp_seq ?_
    refine wp_region_lit ?_
    refine wl_ev (wn rfl) (ev_assign rfl) F S rfl rfl ?_; clear F a; intro a F
    refine wpList_nil ?_
    replace F := F.sub (e' := [(4, .int .i64 5)]) ⟨rfl, trivial⟩
    refine then_n ?_
    refine wp_ret ?_
    refine then_r ?_
    obtain rfl := sinj hm
    refine post_r (fn := Try.f53) (rs := [.tmp 4]) [.int .i64 5] F rfl (ar_cons (resT rfl) ar_nil) ?_
    replace S : St g1 [] fr w := St.tail [] _ S
    exact ⟨_, rfl, g1, l1, S, rfl⟩
   ·refine wp_condF F rfl hc4 ?_
    refine wp_skip ?_
    refine then_n ?_
    refine wp_seq ?_
    refine wp_seq ?_
    refine wp_region_lit ?_
    refine wl_ev (wn rfl) (ev_loadA tu60 rfl (cs := [.int .i64 h_.At, vh_1, vh_2]) ts60 rfl (box_ptr (cells := [.int .i64 h_.At, vh_1, vh_2]) 0 rfl 0 rfl (lb rfl))) F S rfl rfl ?_; clear F a; intro a F
    obtain ⟨y1, hy1, hm⟩ := bind_some hm
    refine wl_call (wn rfl) rfl (xs := [.tmp 46]) (vs := [.agg #[.int .i64 h_.At, vh_1, vh_2]]) (cap := []) F rfl rfl tc51 (textpatch_End_ok (g := g1) (fr := (fl [[(b1, .cells #[.int .i64 h_.At, vh_1, vh_2] 60 (0, 0))]] fr)) (w := w) h_ vh_1 (hh_1.mono l1) vh_2 (hh_2.mono l1) S hy1) rfl rfl ?_; clear F a S
    rintro _ a w ⟨g2, l2, S, rfl⟩ F; replace S : St g2 [[(b1, .cells #[.int .i64 h_.At, vh_1, vh_2] 60 (0, 0))]] fr w := S
    refine wl_ev (wn rfl) (ev_int rfl rfl (bo_gtr _ _ _ _)) F S rfl rfl ?_; clear F a; intro a F
    refine wpList_nil ?_
    replace F := F.sub (e' := [(48, .bool (decide (y1 > 120)))]) ⟨rfl, trivial⟩
    refine then_n ?_
    obtain ⟨hc5, hm⟩ | ⟨hc5, hm⟩ := ite_or hm
    ·refine wp_condT F rfl hc5 ?_
     refine wp_seq ?_
     refine wp_region_lit ?_
     refine wl_ev (wn rfl) (ev_assign rfl) F S rfl rfl ?_; clear F a; intro a F
     refine wpList_nil ?_
     replace F := F.sub (e' := [(4, .int .i64 3)]) ⟨rfl, trivial⟩
     refine then_n ?_
     refine wp_ret ?_
     refine then_r ?_
     obtain rfl := sinj hm
     refine post_r (fn := Try.f53) (rs := [.tmp 4]) [.int .i64 3] F rfl (ar_cons (resT rfl) ar_nil) ?_
     replace S : St g2 [] fr w := St.tail [] _ S
     exact ⟨_, rfl, g2, (l1.trans l2), S, rfl⟩
    ·refine wp_condF F rfl hc5 ?_
     refine wp_skip ?_
     refine then_n ?_
     refine wp_seq ?_
     refine wp_region_lit ?_
     refine wl_ev (wn rfl) (ev_assign rfl) F S rfl rfl ?_; clear F a; intro a F
     refine wpList_nil ?_
     replace F := F.sub (e' := [(4, .int .i64 0)]) ⟨rfl, trivial⟩
     refine then_n ?_
     refine wp_ret ?_
     obtain rfl := sinj hm
     refine post_r (fn := Try.f53) (rs := [.tmp 4]) [.int .i64 0] F rfl (ar_cons (resT rfl) ar_nil) ?_
     replace S : St g2 [] fr w := St.tail [] _ S
     exact ⟨_, rfl, g2, (l1.trans l2), S, rfl⟩

theorem textpatch_Validate_ok {g : Gh} {fr : Hl} {w : World} {r : Fault} (p_ : Patch) (vp_1 : Value) (hp_1 : RepSl g p_.Hunks vp_1) (S : St g [] fr w) (hm : textpatch_Validate p_ = some r) :
  Calls Try.prog 37 [.agg #[vp_1]].toArray w (fun en w' => ∃ v, en = .returned v ∧ ∃ (g' : Gh), Le g g' ∧ St g' [] fr w' ∧ .agg #[.int .i64 r.Code, .int .i64 r.Index] = v) := by
 unfold textpatch_Validate at hm
 refine calls_enter (fn := Try.f37) Try.func37 rfl Try.ntmps37 (lb rfl) ?_
 intro a F
 replace F : Fr 32 a [(0, .agg #[vp_1])] := F
 refine wp_seq ?_
 refine wp_region_lit ?_
 refine wl_boxC (wn rfl) rfl rfl rfl F S rfl rfl ?_; clear F a S; rintro b1 a w F S
 refine wl_alloc (wn rfl) rfl tz24 (cs := [.int .i64 0, .int .i64 0]) rfl F S rfl rfl ?_; clear F a S; rintro b2 a w F S
 refine wpList_nil ?_
 replace F := F.sub (e' := [(2, bp b2 0), (1, bp b1 0)]) ⟨rfl, rfl, trivial⟩
 refine then_n ?_
 refine wp_seq ?_
 refine wp_seq ?_
 refine wp_region_lit ?_
 refine wl_ev (wn rfl) (ev_fieldAddr' tu38 tf38_0 (z := 0) ts36 rfl ⟨_, rfl⟩ rfl) F S rfl rfl ?_; clear F a; intro a F
 refine wl_ev (wn rfl) (ev_load1 tu36 rfl rfl (box_ptr (cells := [vp_1]) 1 rfl 0 rfl (lb rfl))) F S rfl rfl ?_; clear F a; intro a F
 refine wl_ev (wn rfl) (ev_lenSh hp_1 rfl tu36) F S rfl rfl ?_; clear F a; intro a F
 refine wl_ev (wn rfl) (ev_int rfl rfl (bo_gtr _ _ _ _)) F S rfl rfl ?_; clear F a; intro a F
 refine wpList_nil ?_
 replace F := F.sub (e' := [(10, .bool (decide ((p_.Hunks.length : Int) > 130))), (2, bp b2 0), (1, bp b1 0)]) ⟨rfl, rfl, rfl, trivial⟩
 refine then_n ?_
 obtain ⟨hc1, hm⟩ | ⟨hc1, hm⟩ := ite_or hm
 ·refine wp_condT F rfl hc1 ?_
  refine wp_seq ?_
  refine wp_region_lit ?_
  refine wl_ev (wn rfl) (ev_build (parts := [(0, .const (.int .i64 2)), (1, .const (.int .i64 (-1)))]) (vs := [(0, .int .i64 2), (1, .int .i64 (-1))]) rfl (fun w => tb24_0_1 2 (-1) w)) F S rfl rfl ?_; clear F a; intro a F
  refine wl_storeC (wn rfl) rfl F S rfl rfl (vs := [.int .i64 2, .int .i64 (-1)]) rfl ts24 (one_cons rfl (one_cons rfl one_nil)) (k := 0) rfl (lb rfl) (c' := #[.int .i64 2, .int .i64 (-1)]) rfl rfl ?_; clear S; intro w S
  replace S : St g [[(b2, .cells #[.int .i64 2, .int .i64 (-1)] 24 (0, 0))], [(b1, .cells #[vp_1] 38 (0, 0))]] fr w := S
  refine wpList_nil ?_
  replace F := F.sub (e' := [(2, bp b2 0)]) ⟨rfl, trivial⟩
  refine then_n ?_
  refine wp_ret ?_
  refine then_r ?_
  obtain rfl := sinj hm
  refine post_r (fn := Try.f37) (rs := [.cell 2 24]) [.agg #[.int .i64 2, .int .i64 (-1)]] F rfl (ar_cons (resA rfl tu24 rfl ts24 (box_ptr (cells := [.int .i64 2, .int .i64 (-1)]) 0 rfl 0 rfl (lb rfl) w S)) ar_nil) ?_
  replace S : St g [] fr w := St.tail [] _ S
  exact ⟨_, rfl, g, (Le.refl _), S, rfl⟩
 ·refine wp_condF F rfl hc1 ?_
  refine wp_skip ?_
  refine then_n ?_
  refine wp_seq ?_
  refine wp_region_lit ?_
  refine wl_ev (wn rfl) (ev_assign rfl) F S rfl rfl ?_; clear F a; intro a F
  refine wpList_nil ?_
  replace F := F.sub (e' := [(3, .int .i64 (-1)), (2, bp b2 0), (1, bp b1 0)]) ⟨rfl, rfl, rfl, trivial⟩
  refine then_n ?_
  refine wp_cut (fun a w => ∃ (g1 : Gh), Fr 32 a [(2, bp b2 0)] ∧ Le g g1 ∧ St g1 [[(b2, .cells #[.int .i64 0, .int .i64 0] 24 (0, 0))]] fr w ∧ textpatch_Validate.j1 = some r) ?_ ?_
  ·refine wp_seq ?_
   refine wp_region_lit ?_
   refine wl_ev (wn rfl) (ev_fieldAddr' tu38 tf38_0 (z := 0) ts36 rfl ⟨_, rfl⟩ rfl) F S rfl rfl ?_; clear F a; intro a F
   refine wl_ev (wn rfl) (ev_load1 tu36 rfl rfl (box_ptr (cells := [vp_1]) 1 rfl 0 rfl (lb rfl))) F S rfl rfl ?_; clear F a; intro a F
   refine wl_ev (wn rfl) (ev_lenSh hp_1 rfl tu36) F S rfl rfl ?_; clear F a; intro a F
   refine wl_ev (wn rfl) (ev_move rfl) F S rfl rfl ?_; clear F a; intro a F
   refine wpList_nil ?_
   replace F := F.sub (e' := [(15, .int .i64 0), (14, .int .i64 (p_.Hunks.length : Int)), (13, vp_1), (3, .int .i64 (-1)), (2, bp b2 0)]) ⟨rfl, rfl, rfl, rfl, rfl, trivial⟩
   refine then_n ?_
   refine wp_block ?_
   obtain ⟨r1, hr1, hm⟩ := bind_some hm
   have hmo1 := hm; clear hm
   refine wp_iter (σ := Int × Int) (ρ := Fault ⊕ Unit) (m := fun s => textpatch_Validate.l1 p_ s.1 s.2) (I := fun s a w => match s with | (x1, x2) => ∃ (g2 : Gh), Fr 32 a [(15, .int .i64 x1), (14, .int .i64 (p_.Hunks.length : Int)), (13, vp_1), (3, .int .i64 x2), (2, bp b2 0)] ∧ Le g g2 ∧ St g2 [[(b2, .cells #[.int .i64 0, .int .i64 0] 24 (0, 0))]] fr w) hr1 ?_ ?_
   ·dsimp only
    replace S : St g [[(b2, .cells #[.int .i64 0, .int .i64 0] 24 (0, 0))]] fr w := St.tail [[(b2, .cells #[.int .i64 0, .int .i64 0] 24 (0, 0))]] _ (S.frontC 0 rfl)
    exact ⟨g, F.sub ⟨rfl, rfl, rfl, rfl, rfl, trivial⟩, (Le.refl _), S⟩
   ·clear F S; rintro ⟨x1, x2⟩ a w x3 ⟨g2, F, l2, S⟩ hx1 hfin1
    have hm : textpatch_Validate.l1 p_ x1 x2 = some x3 := hx1; clear hx1
    unfold textpatch_Validate.l1 at hm
    refine wp_seq ?_
    refine wp_region_lit ?_
    refine wl_ev (wn rfl) (ev_int rfl rfl (bo_lss _ _ _ _)) F S rfl rfl ?_; clear F a; intro a F
    refine wpList_nil ?_
    refine then_n ?_
    refine wp_seq ?_
    obtain ⟨hc2, hm⟩ | ⟨hc2, hm⟩ := ite_or hm
    ·refine wp_condT F rfl hc2 ?_
     refine wp_skip ?_
     refine then_n ?_
     refine wp_seq ?_
     refine wp_block ?_
     refine wp_seq ?_
     refine wp_region_lit ?_
     refine wl_ev (wn rfl) (ev_move rfl) F S rfl rfl ?_; clear F a; intro a F
     obtain ⟨y1, hy1, hm⟩ := bind_some hm
     obtain ⟨cs1, hr2, hp1⟩ := elemS (hp_1.mono l2) hy1
     obtain ⟨v1, v2, rfl, h1, h2⟩ := rep_Hunk hr2
     refine wl_ev (wn rfl) (ev_idxS (hp_1.mono l2) hy1 tu36 ts60 rfl rfl) F S rfl rfl ?_; clear F a; intro a F
     refine wl_ev (wn rfl) (ev_loadA tu60 rfl (cs := [.int .i64 y1.At, v1, v2]) ts60 rfl (ptr_mono (cks := [[(b2, .cells #[.int .i64 0, .int .i64 0] 24 (0, 0))]]) (fr := fr) hp1 (Le.refl _))) F S rfl rfl ?_; clear F a; intro a F
     refine wl_alloc (wn rfl) rfl tz60 (cs := [.int .i64 0, nilS, nilS]) rfl F S rfl rfl ?_; clear F a S; rintro b3 a w F S
     refine wl_ev (wn rfl) (ev_assign rfl) F S rfl rfl ?_; clear F a; intro a F
     refine wl_storeC (wn rfl) rfl F S rfl rfl (vs := [.int .i64 y1.At, v1, v2]) rfl ts60 (one_cons rfl (one_cons h1.one (one_cons h2.one one_nil))) (k := 0) rfl (lb rfl) (c' := #[.int .i64 y1.At, v1, v2]) rfl rfl ?_; clear S; intro w S
     replace S : St g2 [[(b3, .cells #[.int .i64 y1.At, v1, v2] 60 (0, 0))], [(b2, .cells #[.int .i64 0, .int .i64 0] 24 (0, 0))]] fr w := S
     refine wpList_nil ?_
     replace F := F.sub (e' := [(4, .int .i64 x1), (5, bp b3 0), (15, .int .i64 x1), (14, .int .i64 (p_.Hunks.length : Int)), (13, vp_1), (3, .int .i64 x2), (2, bp b2 0)]) ⟨rfl, rfl, rfl, rfl, rfl, rfl, rfl, trivial⟩
     refine then_n ?_
     refine wp_seq ?_
     refine wp_seq ?_
     refine wp_region_lit ?_
     refine wl_ev (wn rfl) (ev_loadA tu60 rfl (cs := [.int .i64 y1.At, v1, v2]) ts60 rfl (box_ptr (cells := [.int .i64 y1.At, v1, v2]) 0 rfl 0 rfl (lb rfl))) F S rfl rfl ?_; clear F a; intro a F
     refine wl_ev (wn rfl) (ev_move rfl) F S rfl rfl ?_; clear F a; intro a F
     obtain ⟨y2, hy2, hm⟩ := bind_some hm
     refine wl_call (wn rfl) rfl (xs := [.tmp 20, .tmp 21]) (vs := [.agg #[.int .i64 y1.At, v1, v2], .int .i64 x2]) (cap := []) F rfl rfl tc53 (textpatch_hunk_ok (g := g2) (fr := (fl [[(b3, .cells #[.int .i64 y1.At, v1, v2] 60 (0, 0))], [(b2, .cells #[.int .i64 0, .int .i64 0] 24 (0, 0))]] fr)) (w := w) y1 v1 h1 v2 h2 x2 S hy2) rfl rfl ?_; clear F a S
     rintro _ a w ⟨g3, l3, S, rfl⟩ F; replace S : St g3 [[(b3, .cells #[.int .i64 y1.At, v1, v2] 60 (0, 0))], [(b2, .cells #[.int .i64 0, .int .i64 0] 24 (0, 0))]] fr w := S
     refine wl_ev (wn rfl) (ev_assign rfl) F S rfl rfl ?_; clear F a; intro a F
     refine wpList_nil ?_
     replace F := F.sub (e' := [(6, .int .i64 y2), (4, .int .i64 x1), (5, bp b3 0), (15, .int .i64 x1), (14, .int .i64 (p_.Hunks.length : Int)), (13, vp_1), (2, bp b2 0)]) ⟨rfl, rfl, rfl, rfl, rfl, rfl, rfl, trivial⟩
     refine then_n ?_
     refine wp_seq ?_
     refine wp_region_lit ?_
     refine wl_ev (wn rfl) (ev_move rfl) F S rfl rfl ?_; clear F a; intro a F
     refine wl_ev (wn rfl) (ev_int rfl rfl (bo_neq _ _ _ _)) F S rfl rfl ?_; clear F a; intro a F
     refine wpList_nil ?_
     replace F := F.sub (e' := [(24, .bool (!decide (y2 = 0))), (6, .int .i64 y2), (4, .int .i64 x1), (5, bp b3 0), (15, .int .i64 x1), (14, .int .i64 (p_.Hunks.length : Int)), (13, vp_1), (2, bp b2 0)]) ⟨rfl, rfl, rfl, rfl, rfl, rfl, rfl, rfl, trivial⟩
     refine then_n ?_
     obtain ⟨hc3, hm⟩ | ⟨hc3, hm⟩ := ite_or hm
     ·refine wp_condT F rfl hc3 ?_
      refine wp_seq ?_
      refine wp_region_lit ?_
      refine wl_ev (wn rfl) (ev_move rfl) F S rfl rfl ?_; clear F a; intro a F
      refine wl_ev (wn rfl) (ev_move rfl) F S rfl rfl ?_; clear F a; intro a F
      refine wl_ev (wn rfl) (ev_build (parts := [(0, .tmp 25), (1, .tmp 26)]) (vs := [(0, .int .i64 y2), (1, .int .i64 x1)]) rfl (fun w => tb24_0_1 y2 x1 w)) F S rfl rfl ?_; clear F a; intro a F
      refine wl_storeC (wn rfl) rfl F S rfl rfl (vs := [.int .i64 y2, .int .i64 x1]) rfl ts24 (one_cons rfl (one_cons rfl one_nil)) (k := 1) rfl (lb rfl) (c' := #[.int .i64 y2, .int .i64 x1]) rfl rfl ?_; clear S; intro w S
      replace S : St g3 [[(b3, .cells #[.int .i64 y1.At, v1, v2] 60 (0, 0))], [(b2, .cells #[.int .i64 y2, .int .i64 x1] 24 (0, 0))]] fr w := S
      refine wpList_nil ?_
      replace F := F.sub (e' := [(2, bp b2 0)]) ⟨rfl, trivial⟩
      refine then_n ?_
      refine wp_ret ?_
      refine then_r ?_
      refine inb_r ?_
      refine then_r ?_
      refine then_r ?_
      refine inb_r ?_
      refine then_r ?_
      obtain rfl := sinj hm
      obtain rfl := hfin1 _ rfl
      clear hm
      have hm : (some ({ Code := y2, Index := x1 } : Fault) : Option Fault) = some _ := hmo1
      obtain rfl := sinj hm
      refine post_r (fn := Try.f37) (rs := [.cell 2 24]) [.agg #[.int .i64 y2, .int .i64 x1]] F rfl (ar_cons (resA rfl tu24 rfl ts24 (box_ptr (cells := [.int .i64 y2, .int .i64 x1]) 1 rfl 0 rfl (lb rfl) w S)) ar_nil) ?_
      replace S : St g3 [] fr w := St.tail [] _ S
      exact ⟨_, rfl, g3, (l2.trans l3), S, rfl⟩
     ·refine wp_condF F rfl hc3 ?_
      refine wp_skip ?_
      refine then_n ?_
      refine wp_region_lit ?_
      refine wl_ev (wn rfl) (ev_loadA tu60 rfl (cs := [.int .i64 y1.At, v1, v2]) ts60 rfl (box_ptr (cells := [.int .i64 y1.At, v1, v2]) 0 rfl 0 rfl (lb rfl))) F S rfl rfl ?_; clear F a; intro a F
      obtain ⟨y3, hy3, hm⟩ := bind_some hm
      refine wl_call (wn rfl) rfl (xs := [.tmp 28]) (vs := [.agg #[.int .i64 y1.At, v1, v2]]) (cap := []) F rfl rfl tc51 (textpatch_End_ok (g := g3) (fr := (fl [[(b3, .cells #[.int .i64 y1.At, v1, v2] 60 (0, 0))], [(b2, .cells #[.int .i64 0, .int .i64 0] 24 (0, 0))]] fr)) (w := w) y1 v1 (h1.mono l3) v2 (h2.mono l3) S hy3) rfl rfl ?_; clear F a S
      rintro _ a w ⟨g4, l4, S, rfl⟩ F; replace S : St g4 [[(b3, .cells #[.int .i64 y1.At, v1, v2] 60 (0, 0))], [(b2, .cells #[.int .i64 0, .int .i64 0] 24 (0, 0))]] fr w := S
      refine wl_ev (wn rfl) (ev_assign rfl) F S rfl rfl ?_; clear F a; intro a F
      refine wpList_nil ?_
      replace F := F.sub (e' := [(3, .int .i64 y3), (15, .int .i64 x1), (14, .int .i64 (p_.Hunks.length : Int)), (13, vp_1), (2, bp b2 0)]) ⟨rfl, rfl, rfl, rfl, rfl, trivial⟩
      refine inb_n ?_
      refine then_n ?_
      refine wp_region_lit ?_
      obtain ⟨z1, hz1, hm⟩ := bind_some hm
      refine wl_ev (wn rfl) (ev_int rfl rfl (bo_add hz1)) F S rfl rfl ?_; clear F a; intro a F
      refine wl_ev (wn rfl) (ev_move rfl) F S rfl rfl ?_; clear F a; intro a F
      refine wpList_nil ?_
      replace F := F.sub (e' := [(15, .int .i64 z1), (3, .int .i64 y3), (14, .int .i64 (p_.Hunks.length : Int)), (13, vp_1), (2, bp b2 0)]) ⟨rfl, rfl, rfl, rfl, rfl, trivial⟩
      refine then_n ?_
      obtain rfl := sinj hm
      refine ⟨_, rfl, ?_⟩
      dsimp only
      replace S : St g4 [[(b2, .cells #[.int .i64 0, .int .i64 0] 24 (0, 0))]] fr w := St.tail [[(b2, .cells #[.int .i64 0, .int .i64 0] 24 (0, 0))]] _ (S.frontC 1 rfl)
      exact ⟨g4, F.sub ⟨rfl, rfl, rfl, rfl, rfl, trivial⟩, ((l2.trans l3).trans l4), S⟩
    ·refine wp_condF F rfl hc2 ?_
     refine wp_exit ?_
     refine then_e ?_
     refine then_e ?_
     refine inb_x ?_
     refine then_n ?_
     obtain rfl := sinj hm
     obtain rfl := hfin1 _ rfl
     clear hm
     have hm : (textpatch_Validate.j1 : Option Fault) = some _ := hmo1
     exact ⟨g2, F.sub ⟨rfl, trivial⟩, l2, S, hm⟩
  ·clear F S hm; rintro a w ⟨g1, F, l1, S, hm⟩
   refine wp_seq ?_
   refine wp_region_lit ?_
   refine wl_ev (wn rfl) (ev_build (parts := []) (vs := []) rfl (fun w => tb24_  w)) F S rfl rfl ?_; clear F a; intro a F
   refine wl_storeC (wn rfl) rfl F S rfl rfl (vs := [.int .i64 0, .int .i64 0]) rfl ts24 (one_cons rfl (one_cons rfl one_nil)) (k := 0) rfl (lb rfl) (c' := #[.int .i64 0, .int .i64 0]) rfl rfl ?_; clear S; intro w S
   replace S : St g1 [[(b2, .cells #[.int .i64 0, .int .i64 0] 24 (0, 0))]] fr w := S
   refine wpList_nil ?_
   replace F := F.sub (e' := [(2, bp b2 0)]) ⟨rfl, trivial⟩
   refine then_n ?_
   refine wp_ret ?_
   obtain rfl := sinj hm
   refine post_r (fn := Try.f37) (rs := [.cell 2 24]) [.agg #[.int .i64 0, .int .i64 0]] F rfl (ar_cons (resA rfl tu24 rfl ts24 (box_ptr (cells := [.int .i64 0, .int .i64 0]) 0 rfl 0 rfl (lb rfl) w S)) ar_nil) ?_
   replace S : St g1 [] fr w := St.tail [] _ S
   exact ⟨_, rfl, g1, l1, S, rfl⟩

theorem textpatch_Second_ok {g : Gh} {fr : Hl} {w : World} {r : Fault} (p_ : Patch) (vp_1 : Value) (hp_1 : RepSl g p_.Hunks vp_1) (index : Int) (S : St g [] fr w) (hm : textpatch_Second p_ index = some r) :
  Calls Try.prog 45 [.agg #[vp_1], .int .i64 index].toArray w (fun en w' => ∃ v, en = .returned v ∧ ∃ (g' : Gh), Le g g' ∧ St g' [] fr w' ∧ .agg #[.int .i64 r.Code, .int .i64 r.Index] = v) := by
 unfold textpatch_Second at hm
 refine calls_enter (fn := Try.f45) Try.func45 rfl Try.ntmps45 (lb rfl) ?_
 intro a F
 replace F : Fr 16 a [(0, .agg #[vp_1]), (1, .int .i64 index)] := F
 refine wp_seq ?_
 refine wp_region_lit ?_
 refine wl_boxC (wn rfl) rfl rfl rfl F S rfl rfl ?_; clear F a S; rintro b1 a w F S
 refine wl_alloc (wn rfl) rfl tz24 (cs := [.int .i64 0, .int .i64 0]) rfl F S rfl rfl ?_; clear F a S; rintro b2 a w F S
 refine wpList_nil ?_
 replace F := F.sub (e' := [(4, bp b2 0), (2, bp b1 0), (1, .int .i64 index)]) ⟨rfl, rfl, rfl, trivial⟩
 refine then_n ?_
 refine wp_seq ?_
 refine wp_seq ?_
 refine wp_region_lit ?_
 refine wl_ev (wn rfl) (ev_loadA tu38 rfl (cs := [vp_1]) ts38 rfl (box_ptr (cells := [vp_1]) 1 rfl 0 rfl (lb rfl))) F S rfl rfl ?_; clear F a; intro a F
 obtain ⟨y1, hy1, hm⟩ := bind_some hm
 refine wl_call (wn rfl) rfl (xs := [.tmp 6]) (vs := [.agg #[vp_1]]) (cap := []) F rfl rfl tc37 (textpatch_Validate_ok (g := g) (fr := (fl [[(b2, .cells #[.int .i64 0, .int .i64 0] 24 (0, 0))], [(b1, .cells #[vp_1] 38 (0, 0))]] fr)) (w := w) p_ vp_1 hp_1 S hy1) rfl rfl ?_; clear F a S
 rintro _ a w ⟨g1, l1, S, rfl⟩ F; replace S : St g1 [[(b2, .cells #[.int .i64 0, .int .i64 0] 24 (0, 0))], [(b1, .cells #[vp_1] 38 (0, 0))]] fr w := S
 refine wl_alloc (wn rfl) rfl tz24 (cs := [.int .i64 0, .int .i64 0]) rfl F S rfl rfl ?_; clear F a S; rintro b3 a w F S
 refine wl_storeC (wn rfl) rfl F S rfl rfl (vs := [.int .i64 y1.Code, .int .i64 y1.Index]) rfl ts24 (one_cons rfl (one_cons rfl one_nil)) (k := 0) rfl (lb rfl) (c' := #[.int .i64 y1.Code, .int .i64 y1.Index]) rfl rfl ?_; clear S; intro w S
 replace S : St g1 [[(b3, .cells #[.int .i64 y1.Code, .int .i64 y1.Index] 24 (0, 0))], [(b2, .cells #[.int .i64 0, .int .i64 0] 24 (0, 0))], [(b1, .cells #[vp_1] 38 (0, 0))]] fr w := S
 refine wpList_nil ?_
 replace F := F.sub (e' := [(5, bp b3 0), (4, bp b2 0), (1, .int .i64 index)]) ⟨rfl, rfl, rfl, trivial⟩
 refine then_n ?_
 refine wp_seq ?_
 refine wp_region_lit ?_
 refine wl_ev (wn rfl) (ev_loadA tu24 rfl (cs := [.int .i64 y1.Code, .int .i64 y1.Index]) ts24 rfl (box_ptr (cells := [.int .i64 y1.Code, .int .i64 y1.Index]) 0 rfl 0 rfl (lb rfl))) F S rfl rfl ?_; clear F a; intro a F
 refine wl_ev (wn rfl) (ev_build (parts := []) (vs := []) rfl (fun w => tb24_  w)) F S rfl rfl ?_; clear F a; intro a F
 refine wl_ev (wn rfl) (ev_neS tu24 tqa24 tqb24 tqc24 (xs := [.int .i64 y1.Code, .int .i64 y1.Index]) (ys := [.int .i64 0, .int .i64 0]) rfl rfl ⟨_, _, rfl, by decide, ⟨_, _, rfl, rfl, leaf_int tu3⟩, ⟨_, _, rfl, by decide, ⟨_, _, rfl, rfl, leaf_int tu3⟩, rfl⟩⟩) F S rfl rfl ?_; clear F a; intro a F
 refine wpList_nil ?_
 replace F := F.sub (e' := [(10, .bool (!(decide (y1.Code = 0) && decide (y1.Index = 0)))), (5, bp b3 0), (4, bp b2 0), (1, .int .i64 index)]) ⟨rfl, rfl, rfl, rfl, trivial⟩
 refine then_n ?_
 obtain ⟨hc1, hm⟩ | ⟨hc1, hm⟩ := ite_or hm
 ·refine wp_condT F rfl hc1 ?_
  refine wp_seq ?_
  refine wp_region_lit ?_
  refine wl_ev (wn rfl) (ev_fieldAddr' tu24 tf24_0 (z := 0) ts3 rfl ⟨_, rfl⟩ rfl) F S rfl rfl ?_; clear F a; intro a F
  refine wl_ev (wn rfl) (ev_load1 tu3 rfl rfl (box_ptr (cells := [.int .i64 y1.Code]) 0 rfl 0 rfl (lb rfl))) F S rfl rfl ?_; clear F a; intro a F
  refine wl_ev (wn rfl) (ev_move rfl) F S rfl rfl ?_; clear F a; intro a F
  refine wl_ev (wn rfl) (ev_build (parts := [(0, .tmp 12), (1, .tmp 13)]) (vs := [(0, .int .i64 y1.Code), (1, .int .i64 index)]) rfl (fun w => tb24_0_1 y1.Code index w)) F S rfl rfl ?_; clear F a; intro a F
  refine wl_storeC (wn rfl) rfl F S rfl rfl (vs := [.int .i64 y1.Code, .int .i64 index]) rfl ts24 (one_cons rfl (one_cons rfl one_nil)) (k := 1) rfl (lb rfl) (c' := #[.int .i64 y1.Code, .int .i64 index]) rfl rfl ?_; clear S; intro w S
  replace S : St g1 [[(b3, .cells #[.int .i64 y1.Code, .int .i64 y1.Index] 24 (0, 0))], [(b2, .cells #[.int .i64 y1.Code, .int .i64 index] 24 (0, 0))], [(b1, .cells #[vp_1] 38 (0, 0))]] fr w := S
  refine wpList_nil ?_
  replace F := F.sub (e' := [(4, bp b2 0)]) ⟨rfl, trivial⟩
  refine then_n ?_
  refine wp_ret ?_
  refine then_r ?_
  obtain rfl := sinj hm
  refine post_r (fn := Try.f45) (rs := [.cell 4 24]) [.agg #[.int .i64 y1.Code, .int .i64 index]] F rfl (ar_cons (resA rfl tu24 rfl ts24 (box_ptr (cells := [.int .i64 y1.Code, .int .i64 index]) 1 rfl 0 rfl (lb rfl) w S)) ar_nil) ?_
  replace S : St g1 [] fr w := St.tail [] _ S
  exact ⟨_, rfl, g1, l1, S, rfl⟩
 ·refine wp_condF F rfl hc1 ?_
  refine wp_skip ?_
  refine then_n ?_
  refine wp_seq ?_
  refine wp_region_lit ?_
  refine wl_ev (wn rfl) (ev_build (parts := []) (vs := []) rfl (fun w => tb24_  w)) F S rfl rfl ?_; clear F a; intro a F
  refine wl_storeC (wn rfl) rfl F S rfl rfl (vs := [.int .i64 0, .int .i64 0]) rfl ts24 (one_cons rfl (one_cons rfl one_nil)) (k := 1) rfl (lb rfl) (c' := #[.int .i64 0, .int .i64 0]) rfl rfl ?_; clear S; intro w S
  replace S : St g1 [[(b3, .cells #[.int .i64 y1.Code, .int .i64 y1.Index] 24 (0, 0))], [(b2, .cells #[.int .i64 0, .int .i64 0] 24 (0, 0))], [(b1, .cells #[vp_1] 38 (0, 0))]] fr w := S
  refine wpList_nil ?_
  replace F := F.sub (e' := [(4, bp b2 0)]) ⟨rfl, trivial⟩
  refine then_n ?_
  refine wp_ret ?_
  obtain rfl := sinj hm
  refine post_r (fn := Try.f45) (rs := [.cell 4 24]) [.agg #[.int .i64 0, .int .i64 0]] F rfl (ar_cons (resA rfl tu24 rfl ts24 (box_ptr (cells := [.int .i64 0, .int .i64 0]) 1 rfl 0 rfl (lb rfl) w S)) ar_nil) ?_
  replace S : St g1 [] fr w := St.tail [] _ S
  exact ⟨_, rfl, g1, l1, S, rfl⟩

theorem stack_check_ok {g : Gh} {fr : Hl} {w : World} {r : Fault} (patches : (List Patch)) (vpatches1 : Value) (hpatches1 : RepSl g patches vpatches1) (S : St g [] fr w) (hm : stack_check patches = some r) :
  Calls Try.prog 23 [vpatches1].toArray w (fun en w' => ∃ v, en = .returned v ∧ ∃ (g' : Gh), Le g g' ∧ St g' [] fr w' ∧ .agg #[.int .i64 r.Code, .int .i64 r.Index] = v) := by
 unfold stack_check at hm
 refine calls_enter (fn := Try.f23) Try.func23 rfl Try.ntmps23 (lb rfl) ?_
 intro a F
 replace F : Fr 26 a [(0, vpatches1)] := F
 refine wp_seq ?_
 refine wp_region_lit ?_
 refine wl_alloc (wn rfl) rfl tz24 (cs := [.int .i64 0, .int .i64 0]) rfl F S rfl rfl ?_; clear F a S; rintro b1 a w F S
 refine wpList_nil ?_
 refine then_n ?_
 refine wp_seq ?_
 refine wp_seq ?_
 refine wp_region_lit ?_
 refine wl_ev (wn rfl) (ev_move rfl) F S rfl rfl ?_; clear F a; intro a F
 refine wl_ev (wn rfl) (ev_lenSh hpatches1 rfl tu22) F S rfl rfl ?_; clear F a; intro a F
 refine wl_ev (wn rfl) (ev_int rfl rfl (bo_gtr _ _ _ _)) F S rfl rfl ?_; clear F a; intro a F
 refine wpList_nil ?_
 replace F := F.sub (e' := [(8, .bool (decide ((patches.length : Int) > 12))), (2, bp b1 0), (0, vpatches1)]) ⟨rfl, rfl, rfl, trivial⟩
 refine then_n ?_
 obtain ⟨hc1, hm⟩ | ⟨hc1, hm⟩ := ite_or hm
 ·refine wp_condT F rfl hc1 ?_
  refine wp_seq ?_
  refine wp_region_lit ?_
  refine wl_ev (wn rfl) (ev_build (parts := [(0, .const (.int .i64 2)), (1, .const (.int .i64 (-1)))]) (vs := [(0, .int .i64 2), (1, .int .i64 (-1))]) rfl (fun w => tb24_0_1 2 (-1) w)) F S rfl rfl ?_; clear F a; intro a F
  refine wl_storeC (wn rfl) rfl F S rfl rfl (vs := [.int .i64 2, .int .i64 (-1)]) rfl ts24 (one_cons rfl (one_cons rfl one_nil)) (k := 0) rfl (lb rfl) (c' := #[.int .i64 2, .int .i64 (-1)]) rfl rfl ?_; clear S; intro w S
  replace S : St g [[(b1, .cells #[.int .i64 2, .int .i64 (-1)] 24 (0, 0))]] fr w := S
  refine wpList_nil ?_
  replace F := F.sub (e' := [(2, bp b1 0)]) ⟨rfl, trivial⟩
  refine then_n ?_
  refine wp_ret ?_
  refine then_r ?_
  obtain rfl := sinj hm
  refine post_r (fn := Try.f23) (rs := [.cell 2 24]) [.agg #[.int .i64 2, .int .i64 (-1)]] F rfl (ar_cons (resA rfl tu24 rfl ts24 (box_ptr (cells := [.int .i64 2, .int .i64 (-1)]) 0 rfl 0 rfl (lb rfl) w S)) ar_nil) ?_
  replace S : St g [] fr w := St.tail [] _ S
  exact ⟨_, rfl, g, (Le.refl _), S, rfl⟩
 ·refine wp_condF F rfl hc1 ?_
  refine wp_skip ?_
  refine then_n ?_
  refine wp_cut (fun a w => ∃ (g1 : Gh), Fr 26 a [(2, bp b1 0)] ∧ Le g g1 ∧ St g1 [[(b1, .cells #[.int .i64 0, .int .i64 0] 24 (0, 0))]] fr w ∧ stack_check.j1 = some r) ?_ ?_
  ·refine wp_seq ?_
   refine wp_region_lit ?_
   refine wl_ev (wn rfl) (ev_move rfl) F S rfl rfl ?_; clear F a; intro a F
   refine wl_ev (wn rfl) (ev_lenSh hpatches1 rfl tu22) F S rfl rfl ?_; clear F a; intro a F
   refine wl_ev (wn rfl) (ev_move rfl) F S rfl rfl ?_; clear F a; intro a F
   refine wpList_nil ?_
   replace F := F.sub (e' := [(12, .int .i64 0), (11, .int .i64 (patches.length : Int)), (10, vpatches1), (2, bp b1 0)]) ⟨rfl, rfl, rfl, rfl, trivial⟩
   refine then_n ?_
   refine wp_block ?_
   obtain ⟨r1, hr1, hm⟩ := bind_some hm
   have hmo1 := hm; clear hm
   refine wp_iter (σ := Int) (ρ := Fault ⊕ Unit) (m := fun s => stack_check.l1 patches s) (I := fun x1 a w => ∃ (g2 : Gh), Fr 26 a [(12, .int .i64 x1), (11, .int .i64 (patches.length : Int)), (10, vpatches1), (2, bp b1 0)] ∧ Le g g2 ∧ St g2 [[(b1, .cells #[.int .i64 0, .int .i64 0] 24 (0, 0))]] fr w) hr1 ?_ ?_
   ·exact ⟨g, F.sub ⟨rfl, rfl, rfl, rfl, trivial⟩, (Le.refl _), S⟩
   ·clear F S; rintro x1 a w x2 ⟨g2, F, l2, S⟩ hx1 hfin1
    have hm : stack_check.l1 patches x1 = some x2 := hx1; clear hx1
    unfold stack_check.l1 at hm
    refine wp_seq ?_
    refine wp_region_lit ?_
    refine wl_ev (wn rfl) (ev_int rfl rfl (bo_lss _ _ _ _)) F S rfl rfl ?_; clear F a; intro a F
    refine wpList_nil ?_
    refine then_n ?_
    refine wp_seq ?_
    obtain ⟨hc2, hm⟩ | ⟨hc2, hm⟩ := ite_or hm
    ·refine wp_condT F rfl hc2 ?_
     refine wp_skip ?_
     refine then_n ?_
     refine wp_seq ?_
     refine wp_block ?_
     refine wp_seq ?_
     refine wp_region_lit ?_
     refine wl_ev (wn rfl) (ev_move rfl) F S rfl rfl ?_; clear F a; intro a F
     obtain ⟨y1, hy1, hm⟩ := bind_some hm
     obtain ⟨cs1, hr2, hp1⟩ := elemS (hpatches1.mono l2) hy1
     obtain ⟨v1, rfl, h1⟩ := rep_Patch hr2
     refine wl_ev (wn rfl) (ev_idxS (hpatches1.mono l2) hy1 tu22 ts38 rfl rfl) F S rfl rfl ?_; clear F a; intro a F
     refine wl_ev (wn rfl) (ev_loadA tu38 rfl (cs := [v1]) ts38 rfl (ptr_mono (cks := [[(b1, .cells #[.int .i64 0, .int .i64 0] 24 (0, 0))]]) (fr := fr) hp1 (Le.refl _))) F S rfl rfl ?_; clear F a; intro a F
     refine wl_alloc (wn rfl) rfl tz38 (cs := [nilS]) rfl F S rfl rfl ?_; clear F a S; rintro b2 a w F S
     refine wl_ev (wn rfl) (ev_assign rfl) F S rfl rfl ?_; clear F a; intro a F
     refine wl_storeC (wn rfl) rfl F S rfl rfl (vs := [v1]) rfl ts38 (one_cons h1.one one_nil) (k := 0) rfl (lb rfl) (c' := #[v1]) rfl rfl ?_; clear S; intro w S
     replace S : St g2 [[(b2, .cells #[v1] 38 (0, 0))], [(b1, .cells #[.int .i64 0, .int .i64 0] 24 (0, 0))]] fr w := S
     refine wpList_nil ?_
     replace F := F.sub (e' := [(3, .int .i64 x1), (4, bp b2 0), (12, .int .i64 x1), (11, .int .i64 (patches.length : Int)), (10, vpatches1), (2, bp b1 0)]) ⟨rfl, rfl, rfl, rfl, rfl, rfl, trivial⟩
     refine then_n ?_
     refine wp_seq ?_
     refine wp_region_lit ?_
     refine wl_ev (wn rfl) (ev_loadA tu38 rfl (cs := [v1]) ts38 rfl (box_ptr (cells := [v1]) 0 rfl 0 rfl (lb rfl))) F S rfl rfl ?_; clear F a; intro a F
     refine wl_ev (wn rfl) (ev_move rfl) F S rfl rfl ?_; clear F a; intro a F
     obtain ⟨y2, hy2, hm⟩ := bind_some hm
     refine wl_call (wn rfl) rfl (xs := [.tmp 17, .tmp 18]) (vs := [.agg #[v1], .int .i64 x1]) (cap := []) F rfl rfl tc45 (textpatch_Second_ok (g := g2) (fr := (fl [[(b2, .cells #[v1] 38 (0, 0))], [(b1, .cells #[.int .i64 0, .int .i64 0] 24 (0, 0))]] fr)) (w := w) y1 v1 h1 x1 S hy2) rfl rfl ?_; clear F a S
     rintro _ a w ⟨g3, l3, S, rfl⟩ F; replace S : St g3 [[(b2, .cells #[v1] 38 (0, 0))], [(b1, .cells #[.int .i64 0, .int .i64 0] 24 (0, 0))]] fr w := S
     refine wl_alloc (wn rfl) rfl tz24 (cs := [.int .i64 0, .int .i64 0]) rfl F S rfl rfl ?_; clear F a S; rintro b3 a w F S
     refine wl_storeC (wn rfl) rfl F S rfl rfl (vs := [.int .i64 y2.Code, .int .i64 y2.Index]) rfl ts24 (one_cons rfl (one_cons rfl one_nil)) (k := 0) rfl (lb rfl) (c' := #[.int .i64 y2.Code, .int .i64 y2.Index]) rfl rfl ?_; clear S; intro w S
     replace S : St g3 [[(b3, .cells #[.int .i64 y2.Code, .int .i64 y2.Index] 24 (0, 0))], [(b2, .cells #[v1] 38 (0, 0))], [(b1, .cells #[.int .i64 0, .int .i64 0] 24 (0, 0))]] fr w := S
     refine wpList_nil ?_
     replace F := F.sub (e' := [(5, bp b3 0), (12, .int .i64 x1), (11, .int .i64 (patches.length : Int)), (10, vpatches1), (2, bp b1 0)]) ⟨rfl, rfl, rfl, rfl, rfl, trivial⟩
     refine then_n ?_
     refine wp_seq ?_
     refine wp_region_lit ?_
     refine wl_ev (wn rfl) (ev_loadA tu24 rfl (cs := [.int .i64 y2.Code, .int .i64 y2.Index]) ts24 rfl (box_ptr (cells := [.int .i64 y2.Code, .int .i64 y2.Index]) 0 rfl 0 rfl (lb rfl))) F S rfl rfl ?_; clear F a; intro a F
     refine wl_ev (wn rfl) (ev_build (parts := []) (vs := []) rfl (fun w => tb24_  w)) F S rfl rfl ?_; clear F a; intro a F
     refine wl_ev (wn rfl) (ev_neS tu24 tqa24 tqb24 tqc24 (xs := [.int .i64 y2.Code, .int .i64 y2.Index]) (ys := [.int .i64 0, .int .i64 0]) rfl rfl ⟨_, _, rfl, by decide, ⟨_, _, rfl, rfl, leaf_int tu3⟩, ⟨_, _, rfl, by decide, ⟨_, _, rfl, rfl, leaf_int tu3⟩, rfl⟩⟩) F S rfl rfl ?_; clear F a; intro a F
     refine wpList_nil ?_
     replace F := F.sub (e' := [(22, .bool (!(decide (y2.Code = 0) && decide (y2.Index = 0)))), (5, bp b3 0), (12, .int .i64 x1), (11, .int .i64 (patches.length : Int)), (10, vpatches1), (2, bp b1 0)]) ⟨rfl, rfl, rfl, rfl, rfl, rfl, trivial⟩
     refine then_n ?_
     obtain ⟨hc3, hm⟩ | ⟨hc3, hm⟩ := ite_or hm
     ·refine wp_condT F rfl hc3 ?_
      refine wp_seq ?_
      refine wp_region_lit ?_
      refine wl_ev (wn rfl) (ev_loadA tu24 rfl (cs := [.int .i64 y2.Code, .int .i64 y2.Index]) ts24 rfl (box_ptr (cells := [.int .i64 y2.Code, .int .i64 y2.Index]) 0 rfl 0 rfl (lb rfl))) F S rfl rfl ?_; clear F a; intro a F
      refine wl_storeC (wn rfl) rfl F S rfl rfl (vs := [.int .i64 y2.Code, .int .i64 y2.Index]) rfl ts24 (one_cons rfl (one_cons rfl one_nil)) (k := 2) rfl (lb rfl) (c' := #[.int .i64 y2.Code, .int .i64 y2.Index]) rfl rfl ?_; clear S; intro w S
      replace S : St g3 [[(b3, .cells #[.int .i64 y2.Code, .int .i64 y2.Index] 24 (0, 0))], [(b2, .cells #[v1] 38 (0, 0))], [(b1, .cells #[.int .i64 y2.Code, .int .i64 y2.Index] 24 (0, 0))]] fr w := S
      refine wpList_nil ?_
      replace F := F.sub (e' := [(2, bp b1 0)]) ⟨rfl, trivial⟩
      refine then_n ?_
      refine wp_ret ?_
      refine inb_r ?_
      refine then_r ?_
      refine then_r ?_
      refine inb_r ?_
      refine then_r ?_
      obtain rfl := sinj hm
      obtain rfl := hfin1 _ rfl
      clear hm
      have hm : (some y2 : Option Fault) = some _ := hmo1
      obtain rfl := sinj hm
      refine post_r (fn := Try.f23) (rs := [.cell 2 24]) [.agg #[.int .i64 y2.Code, .int .i64 y2.Index]] F rfl (ar_cons (resA rfl tu24 rfl ts24 (box_ptr (cells := [.int .i64 y2.Code, .int .i64 y2.Index]) 2 rfl 0 rfl (lb rfl) w S)) ar_nil) ?_
      replace S : St g3 [] fr w := St.tail [] _ S
      exact ⟨_, rfl, g3, (l2.trans l3), S, rfl⟩
     ·refine wp_condF F rfl hc3 ?_
      refine wp_skip ?_
      refine inb_n ?_
      refine then_n ?_
      refine wp_region_lit ?_
      obtain ⟨z1, hz1, hm⟩ := bind_some hm
      refine wl_ev (wn rfl) (ev_int rfl rfl (bo_add hz1)) F S rfl rfl ?_; clear F a; intro a F
      refine wl_ev (wn rfl) (ev_move rfl) F S rfl rfl ?_; clear F a; intro a F
      refine wpList_nil ?_
      replace F := F.sub (e' := [(12, .int .i64 z1), (11, .int .i64 (patches.length : Int)), (10, vpatches1), (2, bp b1 0)]) ⟨rfl, rfl, rfl, rfl, trivial⟩
      refine then_n ?_
      obtain rfl := sinj hm
      refine ⟨_, rfl, ?_⟩
      replace S : St g3 [[(b1, .cells #[.int .i64 0, .int .i64 0] 24 (0, 0))]] fr w := St.tail [[(b1, .cells #[.int .i64 0, .int .i64 0] 24 (0, 0))]] _ (S.frontC 2 rfl)
      exact ⟨g3, F.sub ⟨rfl, rfl, rfl, rfl, trivial⟩, (l2.trans l3), S⟩
    ·refine wp_condF F rfl hc2 ?_
     refine wp_exit ?_
     refine then_e ?_
     refine then_e ?_
     refine inb_x ?_
     refine then_n ?_
     obtain rfl := sinj hm
     obtain rfl := hfin1 _ rfl
     clear hm
     have hm : (stack_check.j1 : Option Fault) = some _ := hmo1
     exact ⟨g2, F.sub ⟨rfl, trivial⟩, l2, S, hm⟩
  ·clear F S hm; rintro a w ⟨g1, F, l1, S, hm⟩
   refine wp_seq ?_
   refine wp_region_lit ?_
   refine wl_ev (wn rfl) (ev_build (parts := []) (vs := []) rfl (fun w => tb24_  w)) F S rfl rfl ?_; clear F a; intro a F
   refine wl_storeC (wn rfl) rfl F S rfl rfl (vs := [.int .i64 0, .int .i64 0]) rfl ts24 (one_cons rfl (one_cons rfl one_nil)) (k := 0) rfl (lb rfl) (c' := #[.int .i64 0, .int .i64 0]) rfl rfl ?_; clear S; intro w S
   replace S : St g1 [[(b1, .cells #[.int .i64 0, .int .i64 0] 24 (0, 0))]] fr w := S
   refine wpList_nil ?_
   replace F := F.sub (e' := [(2, bp b1 0)]) ⟨rfl, trivial⟩
   refine then_n ?_
   refine wp_ret ?_
   obtain rfl := sinj hm
   refine post_r (fn := Try.f23) (rs := [.cell 2 24]) [.agg #[.int .i64 0, .int .i64 0]] F rfl (ar_cons (resA rfl tu24 rfl ts24 (box_ptr (cells := [.int .i64 0, .int .i64 0]) 0 rfl 0 rfl (lb rfl) w S)) ar_nil) ?_
   replace S : St g1 [] fr w := St.tail [] _ S
   exact ⟨_, rfl, g1, l1, S, rfl⟩

theorem commute_both_ok {g : Gh} {fr : Hl} {w : World} {r : Fault} (p_ : Patch) (vp_1 : Value) (hp_1 : RepSl g p_.Hunks vp_1) (q_ : Patch) (vq_1 : Value) (hq_1 : RepSl g q_.Hunks vq_1) (S : St g [] fr w) (hm : commute_both p_ q_ = some r) :
  Calls Try.prog 31 [.agg #[vp_1], .agg #[vq_1]].toArray w (fun en w' => ∃ v, en = .returned v ∧ ∃ (g' : Gh), Le g g' ∧ St g' [] fr w' ∧ .agg #[.int .i64 r.Code, .int .i64 r.Index] = v) := by
 unfold commute_both at hm
 refine calls_enter (fn := Try.f31) Try.func31 rfl Try.ntmps31 (lb rfl) ?_
 intro a F
 replace F : Fr 14 a [(0, .agg #[vp_1]), (1, .agg #[vq_1])] := F
 refine wp_seq ?_
 refine wp_region_lit ?_
 refine wl_boxC (wn rfl) rfl rfl rfl F S rfl rfl ?_; clear F a S; rintro b1 a w F S
 refine wl_boxC (wn rfl) rfl rfl rfl F S rfl rfl ?_; clear F a S; rintro b2 a w F S
 refine wl_alloc (wn rfl) rfl tz24 (cs := [.int .i64 0, .int .i64 0]) rfl F S rfl rfl ?_; clear F a S; rintro b3 a w F S
 refine wpList_nil ?_
 replace F := F.sub (e' := [(4, bp b3 0), (3, bp b2 0), (2, bp b1 0)]) ⟨rfl, rfl, rfl, trivial⟩
 refine then_n ?_
 refine wp_seq ?_
 refine wp_seq ?_
 refine wp_region_lit ?_
 refine wl_ev (wn rfl) (ev_loadA tu38 rfl (cs := [vp_1]) ts38 rfl (box_ptr (cells := [vp_1]) 2 rfl 0 rfl (lb rfl))) F S rfl rfl ?_; clear F a; intro a F
 obtain ⟨y1, hy1, hm⟩ := bind_some hm
 refine wl_call (wn rfl) rfl (xs := [.tmp 6]) (vs := [.agg #[vp_1]]) (cap := []) F rfl rfl tc37 (textpatch_Validate_ok (g := g) (fr := (fl [[(b3, .cells #[.int .i64 0, .int .i64 0] 24 (0, 0))], [(b2, .cells #[vq_1] 38 (0, 0))], [(b1, .cells #[vp_1] 38 (0, 0))]] fr)) (w := w) p_ vp_1 hp_1 S hy1) rfl rfl ?_; clear F a S
 rintro _ a w ⟨g1, l1, S, rfl⟩ F; replace S : St g1 [[(b3, .cells #[.int .i64 0, .int .i64 0] 24 (0, 0))], [(b2, .cells #[vq_1] 38 (0, 0))], [(b1, .cells #[vp_1] 38 (0, 0))]] fr w := S
 refine wl_alloc (wn rfl) rfl tz24 (cs := [.int .i64 0, .int .i64 0]) rfl F S rfl rfl ?_; clear F a S; rintro b4 a w F S
 refine wl_storeC (wn rfl) rfl F S rfl rfl (vs := [.int .i64 y1.Code, .int .i64 y1.Index]) rfl ts24 (one_cons rfl (one_cons rfl one_nil)) (k := 0) rfl (lb rfl) (c' := #[.int .i64 y1.Code, .int .i64 y1.Index]) rfl rfl ?_; clear S; intro w S
 replace S : St g1 [[(b4, .cells #[.int .i64 y1.Code, .int .i64 y1.Index] 24 (0, 0))], [(b3, .cells #[.int .i64 0, .int .i64 0] 24 (0, 0))], [(b2, .cells #[vq_1] 38 (0, 0))], [(b1, .cells #[vp_1] 38 (0, 0))]] fr w := S
 refine wpList_nil ?_
 replace F := F.sub (e' := [(5, bp b4 0), (4, bp b3 0), (3, bp b2 0)]) ⟨rfl, rfl, rfl, trivial⟩
 refine then_n ?_
 refine wp_seq ?_
 refine wp_region_lit ?_
 refine wl_ev (wn rfl) (ev_loadA tu24 rfl (cs := [.int .i64 y1.Code, .int .i64 y1.Index]) ts24 rfl (box_ptr (cells := [.int .i64 y1.Code, .int .i64 y1.Index]) 0 rfl 0 rfl (lb rfl))) F S rfl rfl ?_; clear F a; intro a F
 refine wl_ev (wn rfl) (ev_build (parts := []) (vs := []) rfl (fun w => tb24_  w)) F S rfl rfl ?_; clear F a; intro a F
 refine wl_ev (wn rfl) (ev_neS tu24 tqa24 tqb24 tqc24 (xs := [.int .i64 y1.Code, .int .i64 y1.Index]) (ys := [.int .i64 0, .int .i64 0]) rfl rfl ⟨_, _, rfl, by decide, ⟨_, _, rfl, rfl, leaf_int tu3⟩, ⟨_, _, rfl, by decide, ⟨_, _, rfl, rfl, leaf_int tu3⟩, rfl⟩⟩) F S rfl rfl ?_; clear F a; intro a F
 refine wpList_nil ?_
 replace F := F.sub (e' := [(10, .bool (!(decide (y1.Code = 0) && decide (y1.Index = 0)))), (5, bp b4 0), (4, bp b3 0), (3, bp b2 0)]) ⟨rfl, rfl, rfl, rfl, trivial⟩
 refine then_n ?_
 obtain ⟨hc1, hm⟩ | ⟨hc1, hm⟩ := ite_or hm
 ·refine wp_condT F rfl hc1 ?_
  refine wp_seq ?_
  refine wp_region_lit ?_
  refine wl_ev (wn rfl) (ev_loadA tu24 rfl (cs := [.int .i64 y1.Code, .int .i64 y1.Index]) ts24 rfl (box_ptr (cells := [.int .i64 y1.Code, .int .i64 y1.Index]) 0 rfl 0 rfl (lb rfl))) F S rfl rfl ?_; clear F a; intro a F
  refine wl_storeC (wn rfl) rfl F S rfl rfl (vs := [.int .i64 y1.Code, .int .i64 y1.Index]) rfl ts24 (one_cons rfl (one_cons rfl one_nil)) (k := 1) rfl (lb rfl) (c' := #[.int .i64 y1.Code, .int .i64 y1.Index]) rfl rfl ?_; clear S; intro w S
  replace S : St g1 [[(b4, .cells #[.int .i64 y1.Code, .int .i64 y1.Index] 24 (0, 0))], [(b3, .cells #[.int .i64 y1.Code, .int .i64 y1.Index] 24 (0, 0))], [(b2, .cells #[vq_1] 38 (0, 0))], [(b1, .cells #[vp_1] 38 (0, 0))]] fr w := S
  refine wpList_nil ?_
  replace F := F.sub (e' := [(4, bp b3 0)]) ⟨rfl, trivial⟩
  refine then_n ?_
  refine wp_ret ?_
  refine then_r ?_
  obtain rfl := sinj hm
  refine post_r (fn := Try.f31) (rs := [.cell 4 24]) [.agg #[.int .i64 y1.Code, .int .i64 y1.Index]] F rfl (ar_cons (resA rfl tu24 rfl ts24 (box_ptr (cells := [.int .i64 y1.Code, .int .i64 y1.Index]) 1 rfl 0 rfl (lb rfl) w S)) ar_nil) ?_
  replace S : St g1 [] fr w := St.tail [] _ S
  exact ⟨_, rfl, g1, l1, S, rfl⟩
 ·refine wp_condF F rfl hc1 ?_
  refine wp_skip ?_
  refine then_n ?_
  refine wp_seq ?_
  refine wp_region_lit ?_
  refine wl_ev (wn rfl) (ev_loadA tu38 rfl (cs := [vq_1]) ts38 rfl (box_ptr (cells := [vq_1]) 2 rfl 0 rfl (lb rfl))) F S rfl rfl ?_; clear F a; intro a F
  obtain ⟨y2, hy2, hm⟩ := bind_some hm
  refine wl_call (wn rfl) rfl (xs := [.tmp 12, .const (.int .i64 (-2))]) (vs := [.agg #[vq_1], .int .i64 (-2)]) (cap := []) F rfl rfl tc45 (textpatch_Second_ok (g := g1) (fr := (fl [[(b4, .cells #[.int .i64 y1.Code, .int .i64 y1.Index] 24 (0, 0))], [(b3, .cells #[.int .i64 0, .int .i64 0] 24 (0, 0))], [(b2, .cells #[vq_1] 38 (0, 0))], [(b1, .cells #[vp_1] 38 (0, 0))]] fr)) (w := w) q_ vq_1 (hq_1.mono l1) (-2) S hy2) rfl rfl ?_; clear F a S
  rintro _ a w ⟨g2, l2, S, rfl⟩ F; replace S : St g2 [[(b4, .cells #[.int .i64 y1.Code, .int .i64 y1.Index] 24 (0, 0))], [(b3, .cells #[.int .i64 0, .int .i64 0] 24 (0, 0))], [(b2, .cells #[vq_1] 38 (0, 0))], [(b1, .cells #[vp_1] 38 (0, 0))]] fr w := S
  refine wl_storeC (wn rfl) rfl F S rfl rfl (vs := [.int .i64 y2.Code, .int .i64 y2.Index]) rfl ts24 (one_cons rfl (one_cons rfl one_nil)) (k := 1) rfl (lb rfl) (c' := #[.int .i64 y2.Code, .int .i64 y2.Index]) rfl rfl ?_; clear S; intro w S
  replace S : St g2 [[(b4, .cells #[.int .i64 y1.Code, .int .i64 y1.Index] 24 (0, 0))], [(b3, .cells #[.int .i64 y2.Code, .int .i64 y2.Index] 24 (0, 0))], [(b2, .cells #[vq_1] 38 (0, 0))], [(b1, .cells #[vp_1] 38 (0, 0))]] fr w := S
  refine wpList_nil ?_
  replace F := F.sub (e' := [(4, bp b3 0)]) ⟨rfl, trivial⟩
  refine then_n ?_
  refine wp_ret ?_
  obtain rfl := sinj hm
  refine post_r (fn := Try.f31) (rs := [.cell 4 24]) [.agg #[.int .i64 y2.Code, .int .i64 y2.Index]] F rfl (ar_cons (resA rfl tu24 rfl ts24 (box_ptr (cells := [.int .i64 y2.Code, .int .i64 y2.Index]) 1 rfl 0 rfl (lb rfl) w S)) ar_nil) ?_
  replace S : St g2 [] fr w := St.tail [] _ S
  exact ⟨_, rfl, g2, (l1.trans l2), S, rfl⟩

theorem textpatch_Growth_ok {g : Gh} {fr : Hl} {w : World} {r : Int} (h_ : Hunk) (vh_1 : Value) (hh_1 : RepSl g h_.Old vh_1) (vh_2 : Value) (hh_2 : RepSl g h_.New vh_2) (S : St g [] fr w) (hm : textpatch_Growth h_ = some r) :
  Calls Try.prog 49 [.agg #[.int .i64 h_.At, vh_1, vh_2]].toArray w (fun en w' => ∃ v, en = .returned v ∧ ∃ (g' : Gh), Le g g' ∧ St g' [] fr w' ∧ .int .i64 r = v) := by
 unfold textpatch_Growth at hm
 refine calls_enter (fn := Try.f49) Try.func49 rfl Try.ntmps49 (lb rfl) ?_
 intro a F
 replace F : Fr 10 a [(0, .agg #[.int .i64 h_.At, vh_1, vh_2])] := F
 refine wp_seq ?_
 refine wp_region_lit ?_
 refine wl_boxC (wn rfl) rfl rfl rfl F S rfl rfl ?_; clear F a S; rintro b1 a w F S
 refine wl_ev (wn rfl) (ev_assign rfl) F S rfl rfl ?_; clear F a; intro a F
 refine wpList_nil ?_
 replace F := F.sub (e' := [(1, bp b1 0)]) ⟨rfl, trivial⟩
 refine then_n ?_
 refine wp_seq ?_
 refine wp_region_lit ?_
 refine wl_ev (wn rfl) (ev_fieldAddr' tu60 tf60_2 (z := 0) ts31 rfl ⟨_, rfl⟩ rfl) F S rfl rfl ?_; clear F a; intro a F
 refine wl_ev (wn rfl) (ev_load1 tu31 rfl rfl (box_ptr (cells := [vh_2]) 0 rfl 2 rfl (lb rfl))) F S rfl rfl ?_; clear F a; intro a F
 refine wl_ev (wn rfl) (ev_lenSh hh_2 rfl tu31) F S rfl rfl ?_; clear F a; intro a F
 refine wl_ev (wn rfl) (ev_fieldAddr' tu60 tf60_1 (z := 0) ts31 rfl ⟨_, rfl⟩ rfl) F S rfl rfl ?_; clear F a; intro a F
 refine wl_ev (wn rfl) (ev_load1 tu31 rfl rfl (box_ptr (cells := [vh_1]) 0 rfl 1 rfl (lb rfl))) F S rfl rfl ?_; clear F a; intro a F
 refine wl_ev (wn rfl) (ev_lenSh hh_1 rfl tu31) F S rfl rfl ?_; clear F a; intro a F
 obtain ⟨z1, hz1, hm⟩ := bind_some hm
 refine wl_ev (wn rfl) (ev_int rfl rfl (bo_sub hz1)) F S rfl rfl ?_; clear F a; intro a F
 refine wl_ev (wn rfl) (ev_assign rfl) F S rfl rfl ?_; clear F a; intro a F
 refine wpList_nil ?_
 replace F := F.sub (e' := [(2, .int .i64 z1)]) ⟨rfl, trivial⟩
 refine then_n ?_
 refine wp_ret ?_
 obtain rfl := sinj hm
 refine post_r (fn := Try.f49) (rs := [.tmp 2]) [.int .i64 z1] F rfl (ar_cons (resT rfl) ar_nil) ?_
 replace S : St g [] fr w := St.tail [] _ S
 exact ⟨_, rfl, g, (Le.refl _), S, rfl⟩

theorem commute_newRanges_ok {g : Gh} {fr : Hl} {w : World} {r : (List Range_commute)} (p_ : Patch) (vp_1 : Value) (hp_1 : RepSl g p_.Hunks vp_1) (S : St g [] fr w) (hm : commute_newRanges p_ = some r) :
  Calls Try.prog 32 [.agg #[vp_1]].toArray w (fun en w' => ∃ v, en = .returned v ∧ ∃ (g' : Gh) (v1 : Value) (c1 : Hl), Le g g' ∧ St g' [c1] fr w' ∧ OwnS g' r v1 c1 ∧ v1 = v) := by
 unfold commute_newRanges at hm
 refine calls_enter (fn := Try.f32) Try.func32 rfl Try.ntmps32 (lb rfl) ?_
 intro a F
 replace F : Fr 37 a [(0, .agg #[vp_1])] := F
 refine wp_seq ?_
 refine wp_region_lit ?_
 refine wl_boxC (wn rfl) rfl rfl rfl F S rfl rfl ?_; clear F a S; rintro b1 a w F S
 refine wl_ev (wn rfl) (ev_assign rfl) F S rfl rfl ?_; clear F a; intro a F
 refine wpList_nil ?_
 replace F := F.sub (e' := [(1, bp b1 0)]) ⟨rfl, trivial⟩
 refine then_n ?_
 refine wp_seq ?_
 refine wp_region_lit ?_
 refine wl_ev (wn rfl) (ev_assign rfl) F S rfl rfl ?_; clear F a; intro a F
 refine wpList_nil ?_
 refine then_n ?_
 refine wp_seq ?_
 refine wp_region_lit ?_
 refine wl_ev (wn rfl) (ev_assign rfl) F S rfl rfl ?_; clear F a; intro a F
 refine wpList_nil ?_
 refine then_n ?_
 refine wp_cut (fun a w => ∃ (x1 : List Range_commute) (v1 : Value) (c1 : Hl) (g1 : Gh), Fr 37 a [(3, v1)] ∧ Le g g1 ∧ St g1 [c1] fr w ∧ OwnS g1 x1 v1 c1 ∧ commute_newRanges.j1 x1 = some r) ?_ ?_
 ·refine wp_seq ?_
  refine wp_region_lit ?_
  refine wl_ev (wn rfl) (ev_fieldAddr' tu38 tf38_0 (z := 0) ts36 rfl ⟨_, rfl⟩ rfl) F S rfl rfl ?_; clear F a; intro a F
  refine wl_ev (wn rfl) (ev_load1 tu36 rfl rfl (box_ptr (cells := [vp_1]) 0 rfl 0 rfl (lb rfl))) F S rfl rfl ?_; clear F a; intro a F
  refine wl_ev (wn rfl) (ev_lenSh hp_1 rfl tu36) F S rfl rfl ?_; clear F a; intro a F
  refine wl_ev (wn rfl) (ev_move rfl) F S rfl rfl ?_; clear F a; intro a F
  refine wpList_nil ?_
  replace F := F.sub (e' := [(11, .int .i64 0), (10, .int .i64 (p_.Hunks.length : Int)), (9, vp_1), (4, .int .i64 0), (3, nilS)]) ⟨rfl, rfl, rfl, rfl, rfl, trivial⟩
  refine then_n ?_
  refine wp_block ?_
  obtain ⟨r1, hr1, hm⟩ := bind_some hm
  have hmo1 := hm; clear hm
  refine wp_iter (σ := Int × Int × (List Range_commute)) (ρ := (List Range_commute)) (m := fun s => commute_newRanges.l1 p_ s.1 s.2.1 s.2.2) (I := fun s a w => match s with | (x2, x3, x4) => ∃ (v2 : Value) (c2 : Hl) (g2 : Gh), Fr 37 a [(11, .int .i64 x2), (10, .int .i64 (p_.Hunks.length : Int)), (9, vp_1), (4, .int .i64 x3), (3, v2)] ∧ Le g g2 ∧ St g2 [c2] fr w ∧ OwnS g2 x4 v2 c2) hr1 ?_ ?_
  ·dsimp only
   replace S : St g [[], [(b1, .cells #[vp_1] 38 (0, 0))]] fr w := S
   replace S : St g [[]] fr w := St.tail [[]] _ (S.frontC 0 rfl)
   exact ⟨(nilS), [], g, F.sub ⟨rfl, rfl, rfl, rfl, rfl, trivial⟩, (Le.refl _), S, (OwnS.nil _)⟩
  ·clear F S; rintro ⟨x2, x3, x4⟩ a w x5 ⟨v2, c2, g2, F, l2, S, h2⟩ hx1 hfin1
   have hm : commute_newRanges.l1 p_ x2 x3 x4 = some x5 := hx1; clear hx1
   unfold commute_newRanges.l1 at hm
   refine wp_seq ?_
   refine wp_region_lit ?_
   refine wl_ev (wn rfl) (ev_int rfl rfl (bo_lss _ _ _ _)) F S rfl rfl ?_; clear F a; intro a F
   refine wpList_nil ?_
   refine then_n ?_
   refine wp_seq ?_
   obtain ⟨hc1, hm⟩ | ⟨hc1, hm⟩ := ite_or hm
   ·refine wp_condT F rfl hc1 ?_
    refine wp_skip ?_
    refine then_n ?_
    refine wp_seq ?_
    refine wp_block ?_
    refine wp_seq ?_
    refine wp_region_lit ?_
    obtain ⟨y1, hy1, hm⟩ := bind_some hm
    obtain ⟨cs1, hr2, hp1⟩ := elemS (hp_1.mono l2) hy1
    obtain ⟨v3, v4, rfl, h3, h4⟩ := rep_Hunk hr2
    refine wl_ev (wn rfl) (ev_idxS (hp_1.mono l2) hy1 tu36 ts60 rfl rfl) F S rfl rfl ?_; clear F a; intro a F
    refine wl_ev (wn rfl) (ev_loadA tu60 rfl (cs := [.int .i64 y1.At, v3, v4]) ts60 rfl (ptr_mono (cks := [c2]) (fr := fr) hp1 (Le.refl _))) F S rfl rfl ?_; clear F a; intro a F
    refine wl_alloc (wn rfl) rfl tz60 (cs := [.int .i64 0, nilS, nilS]) rfl F S rfl rfl ?_; clear F a S; rintro b2 a w F S
    refine wl_storeC (wn rfl) rfl F S rfl rfl (vs := [.int .i64 y1.At, v3, v4]) rfl ts60 (one_cons rfl (one_cons h3.one (one_cons h4.one one_nil))) (k := 0) rfl (lb rfl) (c' := #[.int .i64 y1.At, v3, v4]) rfl rfl ?_; clear S; intro w S
    replace S : St g2 [[(b2, .cells #[.int .i64 y1.At, v3, v4] 60 (0, 0))], c2] fr w := S
    refine wpList_nil ?_
    replace F := F.sub (e' := [(6, bp b2 0), (11, .int .i64 x2), (10, .int .i64 (p_.Hunks.length : Int)), (9, vp_1), (4, .int .i64 x3), (3, v2)]) ⟨rfl, rfl, rfl, rfl, rfl, rfl, trivial⟩
    refine then_n ?_
    refine wp_seq ?_
    refine wp_region_lit ?_
    refine wl_ev (wn rfl) (ev_fieldAddr' tu60 tf60_0 (z := 0) ts3 rfl ⟨_, rfl⟩ rfl) F S rfl rfl ?_; clear F a; intro a F
    refine wl_ev (wn rfl) (ev_load1 tu3 rfl rfl (box_ptr (cells := [.int .i64 y1.At]) 0 rfl 0 rfl (lb rfl))) F S rfl rfl ?_; clear F a; intro a F
    refine wl_ev (wn rfl) (ev_move rfl) F S rfl rfl ?_; clear F a; intro a F
    obtain ⟨z1, hz1, hm⟩ := bind_some hm
    refine wl_ev (wn rfl) (ev_int rfl rfl (bo_add hz1)) F S rfl rfl ?_; clear F a; intro a F
    refine wl_ev (wn rfl) (ev_assign rfl) F S rfl rfl ?_; clear F a; intro a F
    refine wpList_nil ?_
    replace F := F.sub (e' := [(7, .int .i64 z1), (6, bp b2 0), (11, .int .i64 x2), (10, .int .i64 (p_.Hunks.length : Int)), (9, vp_1), (4, .int .i64 x3), (3, v2)]) ⟨rfl, rfl, rfl, rfl, rfl, rfl, rfl, trivial⟩
    refine then_n ?_
    refine wp_seq ?_
    obtain ⟨z2, hz2, hm⟩ := bind_some hm
    obtain ⟨y2, hy2, hm⟩ := bind_some hm
    obtain ⟨y3, hy3, hm⟩ := bind_some hm
    refine wp_drawL ⟨2, [[19], [20], [21], [22], [23], [24], [25], [26], [27], [28], [29], [30], [3, 30]], [[], [], [], [], [], [], [], [], [], [], [], [14], []], [[], [], [], [], [13], [], [], [13], [], [], [], [10], []], [[3], [7], [7], [6], [], [], [], [6], [], [], [], [], []], [[], [], [], [], [3], [4], [2, 5], [], [7], [1, 6, 8], [9], [0, 10], [11]], [6, 11, 10, 9, 4], [0, 1, 2, 3, 4, 5, 6, 7, 8, 9, 10, 11, 12, 13]⟩
     [([19], fun us g c => us = [v2]),
      ([20], fun us g c => us = [.int .i64 z1]),
      ([21], fun us g c => us = [.int .i64 z1]),
      ([22], fun us g c => us = [bp b2 2]),
      ([23], fun us g c => us = [v4]),
      ([24], fun us g c => us = [.int .i64 (y1.New.length : Int)]),
      ([25], fun us g c => us = [.int .i64 z2]),
      ([26], fun us g c => us = [.agg #[.int .i64 y1.At, v3, v4]]),
      ([27], fun us g c => us = [.int .i64 y2]),
      ([28], fun us g c => us = [.agg #[.int .i64 z1, .int .i64 z2, .int .i64 y2]]),
      ([29], fun us g c => ∃ v5 : Value, us = [v5] ∧ OwnS g ([({ Low := z1, High := z2, Growth := y2 } : Range_commute)] : List Range_commute) v5 c),
      ([30], fun us g c => ∃ v6 : Value, us = [v6] ∧ OwnS g y3 v6 c),
      ([3, 30], fun us g c => ∃ v6 : Value, us = [v6, v6])]
     mo (by kernel_rfl) rfl rfl ⟨fun _ _ _ _ _ h => h, fun _ _ _ _ _ h => h, fun _ _ _ _ _ h => h, fun _ _ _ _ _ h => h, fun _ _ _ _ _ h => h, fun _ _ _ _ _ h => h, fun _ _ _ _ _ h => h, fun _ _ _ _ _ h => h, fun _ _ _ _ _ h => h, fun _ _ _ _ _ h => h, fun _ _ _ _ l ⟨x0, e0, h0⟩ => ⟨x0, e0, h0.mono l⟩, fun _ _ _ _ l ⟨x0, e0, h0⟩ => ⟨x0, e0, h0.mono l⟩, fun _ _ _ _ _ h => h, trivial⟩ F S ⟨?_, ?_, ?_, ?_, ?_, ?_, ?_, ?_, ?_, ?_, ?_, ?_, ?_, trivial⟩ ?_
    ·intro a w gd1 c fr hsz hdf hK ld1 hN hI S
     have F : Fr 37 a [(3, v2)] := Fr.of hsz hdf ⟨hK 3 (by decide) _ rfl, trivial⟩
     replace S : St gd1 [] fr w := S.of_eq (flat2 _ _ _ _)
     refine wl_ev (wn rfl) (ev_move rfl) F S rfl rfl ?_; clear F; intro a F
     refine wpList_nil ⟨rfl, F.sz, F.df, _, [], (Le.refl _), ?_, (lst1 (F.get 19 _ rfl))⟩
     refine St0.of_eq ?_ (flat3 c [] [] fr).symm
     show St0 _ (fl ([] ++ []) fr) _
     exact S
    ·intro a w gd1 c fr hsz hdf hK ld1 hN hI S
     have F : Fr 37 a [(7, .int .i64 z1)] := Fr.of hsz hdf ⟨hK 7 (by decide) _ rfl, trivial⟩
     replace S : St gd1 [] fr w := S.of_eq (flat2 _ _ _ _)
     refine wl_ev (wn rfl) (ev_move rfl) F S rfl rfl ?_; clear F; intro a F
     refine wpList_nil ⟨rfl, F.sz, F.df, _, [], (Le.refl _), ?_, (lst1 (F.get 20 _ rfl))⟩
     refine St0.of_eq ?_ (flat3 c [] [] fr).symm
     show St0 _ (fl ([] ++ []) fr) _
     exact S
    ·intro a w gd1 c fr hsz hdf hK ld1 hN hI S
     have F : Fr 37 a [(7, .int .i64 z1)] := Fr.of hsz hdf ⟨hK 7 (by decide) _ rfl, trivial⟩
     replace S : St gd1 [] fr w := S.of_eq (flat2 _ _ _ _)
     refine wl_ev (wn rfl) (ev_move rfl) F S rfl rfl ?_; clear F; intro a F
     refine wpList_nil ⟨rfl, F.sz, F.df, _, [], (Le.refl _), ?_, (lst1 (F.get 21 _ rfl))⟩
     refine St0.of_eq ?_ (flat3 c [] [] fr).symm
     show St0 _ (fl ([] ++ []) fr) _
     exact S
    ·intro a w gd1 c fr hsz hdf hK ld1 hN hI S
     have F : Fr 37 a [(6, bp b2 0)] := Fr.of hsz hdf ⟨hK 6 (by decide) _ rfl, trivial⟩
     replace S : St gd1 [] fr w := S.of_eq (flat2 _ _ _ _)
     refine wl_ev (wn rfl) (ev_fieldAddr' tu60 tf60_2 (z := 0) ts31 rfl ⟨_, rfl⟩ rfl) F S rfl rfl ?_; clear F; intro a F
     refine wpList_nil ⟨rfl, F.sz, F.df, _, [], (Le.refl _), ?_, (lst1 (F.get 22 _ rfl))⟩
     refine St0.of_eq ?_ (flat3 c [] [] fr).symm
     show St0 _ (fl ([] ++ []) fr) _
     exact S
    ·intro a w gd1 c fr hsz hdf hK ld1 hN hI S
     have e3 := hN 3 (by decide)
     have e22x : val a 22 = bp b2 2 := nth e3 0
     have F : Fr 37 a [(22, bp b2 2)] := Fr.of hsz hdf ⟨e22x, trivial⟩
     replace S : St gd1 [c 13] fr w := S.of_eq (flat2 _ _ _ _)
     have q13 : c 13 = [(b2, .cells #[.int .i64 y1.At, v3, v4] 60 (0, 0))] := hI 0 _ rfl
     rw [q13] at S
     refine wl_ev (wn rfl) (ev_load1 tu31 rfl rfl (box_ptr (cells := [v4]) 0 rfl 2 rfl (lb rfl))) F S rfl rfl ?_; clear F; intro a F
     refine wpList_nil ⟨rfl, F.sz, F.df, _, [], (Le.refl _), ?_, (lst1 (F.get 23 _ rfl))⟩
     refine St0.of_eq ?_ (flat3 c [] [13] fr).symm
     show St0 _ (fl ([] ++ [c 13]) fr) _
     rw [q13]
     exact S
    ·intro a w gd1 c fr hsz hdf hK ld1 hN hI S
     have e4 := hN 4 (by decide)
     have e23x : val a 23 = v4 := nth e4 0
     have F : Fr 37 a [(23, v4)] := Fr.of hsz hdf ⟨e23x, trivial⟩
     replace S : St gd1 [] fr w := S.of_eq (flat2 _ _ _ _)
     refine wl_ev (wn rfl) (ev_lenSh h4 rfl tu31) F S rfl rfl ?_; clear F; intro a F
     refine wpList_nil ⟨rfl, F.sz, F.df, _, [], (Le.refl _), ?_, (lst1 (F.get 24 _ rfl))⟩
     refine St0.of_eq ?_ (flat3 c [] [] fr).symm
     show St0 _ (fl ([] ++ []) fr) _
     exact S
    ·intro a w gd1 c fr hsz hdf hK ld1 hN hI S
     have e2 := hN 2 (by decide)
     have e21x : val a 21 = .int .i64 z1 := nth e2 0
     have e5 := hN 5 (by decide)
     have e24x : val a 24 = .int .i64 (y1.New.length : Int) := nth e5 0
     have F : Fr 37 a [(21, .int .i64 z1), (24, .int .i64 (y1.New.length : Int))] := Fr.of hsz hdf ⟨e21x, e24x, trivial⟩
     replace S : St gd1 [] fr w := S.of_eq (flat2 _ _ _ _)
     refine wl_ev (wn rfl) (ev_int rfl rfl (bo_add hz2)) F S rfl rfl ?_; clear F; intro a F
     refine wpList_nil ⟨rfl, F.sz, F.df, _, [], (Le.refl _), ?_, (lst1 (F.get 25 _ rfl))⟩
     refine St0.of_eq ?_ (flat3 c [] [] fr).symm
     show St0 _ (fl ([] ++ []) fr) _
     exact S
    ·intro a w gd1 c fr hsz hdf hK ld1 hN hI S
     have F : Fr 37 a [(6, bp b2 0)] := Fr.of hsz hdf ⟨hK 6 (by decide) _ rfl, trivial⟩
     replace S : St gd1 [c 13] fr w := S.of_eq (flat2 _ _ _ _)
     have q13 : c 13 = [(b2, .cells #[.int .i64 y1.At, v3, v4] 60 (0, 0))] := hI 0 _ rfl
     rw [q13] at S
     refine wl_ev (wn rfl) (ev_loadA tu60 rfl (cs := [.int .i64 y1.At, v3, v4]) ts60 rfl (box_ptr (cells := [.int .i64 y1.At, v3, v4]) 0 rfl 0 rfl (lb rfl))) F S rfl rfl ?_; clear F; intro a F
     refine wpList_nil ⟨rfl, F.sz, F.df, _, [], (Le.refl _), ?_, (lst1 (F.get 26 _ rfl))⟩
     refine St0.of_eq ?_ (flat3 c [] [13] fr).symm
     show St0 _ (fl ([] ++ [c 13]) fr) _
     rw [q13]
     exact S
    ·intro a w gd1 c fr hsz hdf hK ld1 hN hI S
     have e7 := hN 7 (by decide)
     have e26x : val a 26 = .agg #[.int .i64 y1.At, v3, v4] := nth e7 0
     have F : Fr 37 a [(26, .agg #[.int .i64 y1.At, v3, v4])] := Fr.of hsz hdf ⟨e26x, trivial⟩
     replace S : St gd1 [] fr w := S.of_eq (flat2 _ _ _ _)
     refine wl_call (wn rfl) rfl (xs := [.tmp 26]) (vs := [.agg #[.int .i64 y1.At, v3, v4]]) (cap := []) F rfl rfl tc49 (textpatch_Growth_ok (g := gd1) (fr := fr) (w := w) y1 v3 (h3.mono ld1) v4 (h4.mono ld1) S hy2) rfl rfl ?_; clear F S
     rintro _ a w ⟨g3, l3, S, rfl⟩ F; replace S : St g3 [] fr w := S
     refine wpList_nil ⟨rfl, F.sz, F.df, _, [], l3, ?_, (lst1 (F.get 27 _ rfl))⟩
     refine St0.of_eq ?_ (flat3 c [] [] fr).symm
     show St0 _ (fl ([] ++ []) fr) _
     exact S
    ·intro a w gd1 c fr hsz hdf hK ld1 hN hI S
     have e1 := hN 1 (by decide)
     have e20x : val a 20 = .int .i64 z1 := nth e1 0
     have e6 := hN 6 (by decide)
     have e25x : val a 25 = .int .i64 z2 := nth e6 0
     have e8 := hN 8 (by decide)
     have e27x : val a 27 = .int .i64 y2 := nth e8 0
     have F : Fr 37 a [(20, .int .i64 z1), (25, .int .i64 z2), (27, .int .i64 y2)] := Fr.of hsz hdf ⟨e20x, e25x, e27x, trivial⟩
     replace S : St gd1 [] fr w := S.of_eq (flat2 _ _ _ _)
     refine wl_ev (wn rfl) (ev_build (parts := [(0, .tmp 20), (1, .tmp 25), (2, .tmp 27)]) (vs := [(0, .int .i64 z1), (1, .int .i64 z2), (2, .int .i64 y2)]) rfl (fun w => tb70_0_1_2 z1 z2 y2 w)) F S rfl rfl ?_; clear F; intro a F
     refine wpList_nil ⟨rfl, F.sz, F.df, _, [], (Le.refl _), ?_, (lst1 (F.get 28 _ rfl))⟩
     refine St0.of_eq ?_ (flat3 c [] [] fr).symm
     show St0 _ (fl ([] ++ []) fr) _
     exact S
    ·intro a w gd1 c fr hsz hdf hK ld1 hN hI S
     have e9 := hN 9 (by decide)
     have e28x : val a 28 = .agg #[.int .i64 z1, .int .i64 z2, .int .i64 y2] := nth e9 0
     have F : Fr 37 a [(28, .agg #[.int .i64 z1, .int .i64 z2, .int .i64 y2])] := Fr.of hsz hdf ⟨e28x, trivial⟩
     replace S : St gd1 [] fr w := S.of_eq (flat2 _ _ _ _)
     refine wl_lit (l := ([({ Low := z1, High := z2, Growth := y2 } : Range_commute)] : List Range_commute)) (vs := [.agg #[.int .i64 z1, .int .i64 z2, .int .i64 y2]]) (parts := [(0, .tmp 28)]) (wn rfl) rfl rfl rfl tu52 te70 (sz_cons rfl sz_nil) rfl (Cat.cons (rep_Range_commute_mk (x := ({ Low := z1, High := z2, Growth := y2 } : Range_commute)) ) (Cat.nil _)) (coa_cons rfl coa_nil) rfl F S rfl rfl ?_; clear F S
     rintro v5 c3 a w h5 F S
     refine wpList_nil ⟨rfl, F.sz, F.df, _, c3, (Le.refl _), ?_, ⟨v5, (lst1 (F.get 29 _ rfl)), h5⟩⟩
     refine St0.of_eq ?_ (flat3s c (c3) [] fr).symm
     show St0 _ (fl ([c3] ++ []) fr) _
     exact S
    ·intro a w gd1 c fr hsz hdf hK ld1 hN hI S
     have e0 := hN 0 (by decide)
     have e19x : val a 19 = v2 := nth e0 0
     obtain ⟨v5, e10, lh1⟩ := hN 10 (by decide)
     have e29x : val a 29 = v5 := nth e10 0
     have F : Fr 37 a [(19, v2), (29, v5)] := Fr.of hsz hdf ⟨e19x, e29x, trivial⟩
     replace S : St gd1 [c 14, c 10] fr w := S.of_eq (flat2 _ _ _ _)
     have q14 : c 14 = c2 := hI 1 _ rfl
     rw [q14] at S
     obtain ⟨cs2, hk1, hr3⟩ := OwnS.reads lh1
     refine wl_append (wn rfl) rfl tu52 tu52 te70 (by decide) (by decide) F S rfl rfl (k := 0) rfl (h2.mono ld1) hk1 rfl (hr3 _ _ _ 1 rfl S) hy3 rfl rfl ?_; clear F S
     rintro v6 c4 a w h6 S F; replace S : St gd1 [c4, (c 10)] fr w := S
     refine wpList_nil ⟨rfl, F.sz, F.df, _, c4, (Le.refl _), ?_, ⟨v6, (lst1 (F.get 30 _ rfl)), h6⟩⟩
     refine St0.of_eq ?_ (flat3s c (c4) [10] fr).symm
     show St0 _ (fl ([c4] ++ [c 10]) fr) _
     exact S
    ·intro a w gd1 c fr hsz hdf hK ld1 hN hI S
     obtain ⟨v6, e11, lh1⟩ := hN 11 (by decide)
     have e30x : val a 30 = v6 := nth e11 0
     have F : Fr 37 a [(30, v6)] := Fr.of hsz hdf ⟨e30x, trivial⟩
     replace S : St gd1 [] fr w := S.of_eq (flat2 _ _ _ _)
     refine wl_ev (wn rfl) (ev_assign rfl) F S rfl rfl ?_; clear F; intro a F
     refine wpList_nil ⟨rfl, F.sz, F.df, _, [], (Le.refl _), ?_, ⟨v6, (lst2 (F.get 3 _ rfl) (F.get 30 _ rfl))⟩⟩
     refine St0.of_eq ?_ (flat3 c [] [] fr).symm
     show St0 _ (fl ([] ++ []) fr) _
     exact S
    clear F S; intro a w gd1 c hsz hdf hK ld1 hI S hN
    obtain ⟨v5, e10, lh1⟩ := hN 10 (by decide)
    have e29x : val a 29 = v5 := nth e10 0
    obtain ⟨v6, e11, lh2⟩ := hN 11 (by decide)
    have e30x : val a 30 = v6 := nth e11 0
    obtain ⟨dup1, e12⟩ := hN 12 (by decide)
    obtain rfl : v6 = dup1 := by have hq := e30x.symm.trans (nth e12 1); simp at hq; first | exact hq | exact hq.1 | exact hq.2 | exact hq.2.1 | exact hq.2.2
    have e3x : val a 3 = v6 := nth e12 0
    have F : Fr 37 a [(6, bp b2 0), (11, .int .i64 x2), (10, .int .i64 (p_.Hunks.length : Int)), (9, vp_1), (4, .int .i64 x3), (3, v6)] := Fr.of hsz hdf ⟨hK 6 (by decide) _ rfl, hK 11 (by decide) _ rfl, hK 10 (by decide) _ rfl, hK 9 (by decide) _ rfl, hK 4 (by decide) _ rfl, e3x, trivial⟩
    replace S : St gd1 [c 0, c 1, c 2, c 3, c 4, c 5, c 6, c 7, c 8, c 9, c 10, c 11, c 12, c 13] fr w := S.of_eq (flat_fl _ _ _)
    generalize c 10 = c3 at *
    generalize c 11 = c4 at *
    have q13 : c 13 = [(b2, .cells #[.int .i64 y1.At, v3, v4] 60 (0, 0))] := hI 0 _ rfl
    rw [q13] at S
    replace S : St gd1 [c4, [(b2, .cells #[.int .i64 y1.At, v3, v4] 60 (0, 0))]] fr w := St.tail [c4, [(b2, .cells #[.int .i64 y1.At, v3, v4] 60 (0, 0))]] _ ((S.frontC 13 rfl).frontC 12 rfl)
    clear hK hI hN hsz hdf e10 e11 e12 e29x e30x e3x
    refine then_n ?_
    refine wp_region_lit ?_
    refine wl_ev (wn rfl) (ev_move rfl) F S rfl rfl ?_; clear F a; intro a F
    refine wl_ev (wn rfl) (ev_loadA tu60 rfl (cs := [.int .i64 y1.At, v3, v4]) ts60 rfl (box_ptr (cells := [.int .i64 y1.At, v3, v4]) 1 rfl 0 rfl (lb rfl))) F S rfl rfl ?_; clear F a; intro a F
    obtain ⟨y4, hy4, hm⟩ := bind_some hm
    refine wl_call (wn rfl) rfl (xs := [.tmp 32]) (vs := [.agg #[.int .i64 y1.At, v3, v4]]) (cap := []) F rfl rfl tc49 (textpatch_Growth_ok (g := gd1) (fr := (fl [c4, [(b2, .cells #[.int .i64 y1.At, v3, v4] 60 (0, 0))]] fr)) (w := w) y1 v3 (h3.mono ld1) v4 (h4.mono ld1) S hy4) rfl rfl ?_; clear F a S
    rintro _ a w ⟨g4, l4, S, rfl⟩ F; replace S : St g4 [c4, [(b2, .cells #[.int .i64 y1.At, v3, v4] 60 (0, 0))]] fr w := S
    obtain ⟨z3, hz3, hm⟩ := bind_some hm
    refine wl_ev (wn rfl) (ev_int rfl rfl (bo_add hz3)) F S rfl rfl ?_; clear F a; intro a F
    refine wl_ev (wn rfl) (ev_assign rfl) F S rfl rfl ?_; clear F a; intro a F
    refine wpList_nil ?_
    replace F := F.sub (e' := [(4, .int .i64 z3), (11, .int .i64 x2), (10, .int .i64 (p_.Hunks.length : Int)), (9, vp_1), (3, v6)]) ⟨rfl, rfl, rfl, rfl, rfl, trivial⟩
    refine inb_n ?_
    refine then_n ?_
    refine wp_region_lit ?_
    obtain ⟨z4, hz4, hm⟩ := bind_some hm
    refine wl_ev (wn rfl) (ev_int rfl rfl (bo_add hz4)) F S rfl rfl ?_; clear F a; intro a F
    refine wl_ev (wn rfl) (ev_move rfl) F S rfl rfl ?_; clear F a; intro a F
    refine wpList_nil ?_
    replace F := F.sub (e' := [(11, .int .i64 z4), (4, .int .i64 z3), (10, .int .i64 (p_.Hunks.length : Int)), (9, vp_1), (3, v6)]) ⟨rfl, rfl, rfl, rfl, rfl, trivial⟩
    refine then_n ?_
    obtain rfl := sinj hm
    refine ⟨_, rfl, ?_⟩
    dsimp only
    replace S : St g4 [c4] fr w := St.tail [c4] _ (S.frontC 0 rfl)
    exact ⟨v6, c4, g4, F.sub ⟨rfl, rfl, rfl, rfl, rfl, trivial⟩, ((l2.trans ld1).trans l4), S, (lh2.mono l4)⟩
   ·refine wp_condF F rfl hc1 ?_
    refine wp_exit ?_
    refine then_e ?_
    refine then_e ?_
    refine inb_x ?_
    refine then_n ?_
    obtain rfl := sinj hm
    obtain rfl := hfin1 _ rfl
    clear hm
    have hm : (commute_newRanges.j1 x4 : Option (List Range_commute)) = some _ := hmo1
    exact ⟨x4, v2, c2, g2, F.sub ⟨rfl, trivial⟩, l2, S, h2, hm⟩
 ·clear F S hm; rintro a w ⟨x1, v1, c1, g1, F, l1, S, h1, hm⟩
  refine wp_seq ?_
  refine wp_region_lit ?_
  refine wl_ev (wn rfl) (ev_move rfl) F S rfl rfl ?_; clear F a; intro a F
  refine wl_ev (wn rfl) (ev_assign rfl) F S rfl rfl ?_; clear F a; intro a F
  refine wpList_nil ?_
  replace F := F.sub (e' := [(2, v1)]) ⟨rfl, trivial⟩
  refine then_n ?_
  refine wp_ret ?_
  obtain rfl := sinj hm
  refine post_r (fn := Try.f32) (rs := [.tmp 2]) [v1] F rfl (ar_cons (resT rfl) ar_nil) ?_
  exact ⟨_, rfl, g1, v1, c1, l1, S, h1, rfl⟩

theorem commute_Touch_ok {g : Gh} {fr : Hl} {w : World} {r : Bool} (a_ : Range_commute) (b_ : Range_commute) (S : St g [] fr w) (hm : commute_Touch a_ b_ = some r) :
  Calls Try.prog 50 [.agg #[.int .i64 a_.Low, .int .i64 a_.High, .int .i64 a_.Growth], .agg #[.int .i64 b_.Low, .int .i64 b_.High, .int .i64 b_.Growth]].toArray w (fun en w' => ∃ v, en = .returned v ∧ ∃ (g' : Gh), Le g g' ∧ St g' [] fr w' ∧ .bool r = v) := by
 unfold commute_Touch at hm
 refine calls_enter (fn := Try.f50) Try.func50 rfl Try.ntmps50 (lb rfl) ?_
 intro a F
 replace F : Fr 17 a [(0, .agg #[.int .i64 a_.Low, .int .i64 a_.High, .int .i64 a_.Growth]), (1, .agg #[.int .i64 b_.Low, .int .i64 b_.High, .int .i64 b_.Growth])] := F
 refine wp_seq ?_
 refine wp_region_lit ?_
 refine wl_boxC (wn rfl) rfl rfl rfl F S rfl rfl ?_; clear F a S; rintro b1 a w F S
 refine wl_boxC (wn rfl) rfl rfl rfl F S rfl rfl ?_; clear F a S; rintro b2 a w F S
 refine wl_ev (wn rfl) (ev_assign rfl) F S rfl rfl ?_; clear F a; intro a F
 refine wpList_nil ?_
 replace F := F.sub (e' := [(3, bp b2 0), (2, bp b1 0)]) ⟨rfl, rfl, trivial⟩
 refine then_n ?_
 refine wp_seq ?_
 refine wp_region_lit ?_
 refine wl_ev (wn rfl) (ev_fieldAddr' tu70 tf70_1 (z := 0) ts3 rfl ⟨_, rfl⟩ rfl) F S rfl rfl ?_; clear F a; intro a F
 refine wl_ev (wn rfl) (ev_load1 tu3 rfl rfl (box_ptr (cells := [.int .i64 a_.High]) 1 rfl 1 rfl (lb rfl))) F S rfl rfl ?_; clear F a; intro a F
 refine wl_ev (wn rfl) (ev_fieldAddr' tu70 tf70_0 (z := 0) ts3 rfl ⟨_, rfl⟩ rfl) F S rfl rfl ?_; clear F a; intro a F
 refine wl_ev (wn rfl) (ev_load1 tu3 rfl rfl (box_ptr (cells := [.int .i64 b_.Low]) 0 rfl 0 rfl (lb rfl))) F S rfl rfl ?_; clear F a; intro a F
 refine wl_ev (wn rfl) (ev_int rfl rfl (bo_geq _ _ _ _)) F S rfl rfl ?_; clear F a; intro a F
 refine wl_ev (wn rfl) (ev_move rfl) F S rfl rfl ?_; clear F a; intro a F
 obtain ⟨x1, hx1, hm⟩ := bind_some hm
 refine wl_cut 6 (fun a w' => w = w' ∧ Fr 17 a [(16, .bool x1)]) ?_ ?_
 ·clear hm; obtain ⟨hc1, hm⟩ | ⟨hc1, hm⟩ := ite_or hx1
  ·refine wl_ev (wg F rfl rfl rfl rfl hc1) (ev_fieldAddr' tu70 tf70_1 (z := 0) ts3 rfl ⟨_, rfl⟩ rfl) F S rfl rfl ?_; clear F a; intro a F
   refine wl_ev (wg F rfl rfl rfl rfl hc1) (ev_load1 tu3 rfl rfl (box_ptr (cells := [.int .i64 b_.High]) 0 rfl 1 rfl (lb rfl))) F S rfl rfl ?_; clear F a; intro a F
   refine wl_ev (wg F rfl rfl rfl rfl hc1) (ev_fieldAddr' tu70 tf70_0 (z := 0) ts3 rfl ⟨_, rfl⟩ rfl) F S rfl rfl ?_; clear F a; intro a F
   refine wl_ev (wg F rfl rfl rfl rfl hc1) (ev_load1 tu3 rfl rfl (box_ptr (cells := [.int .i64 a_.Low]) 1 rfl 0 rfl (lb rfl))) F S rfl rfl ?_; clear F a; intro a F
   refine wl_ev (wg F rfl rfl rfl rfl hc1) (ev_int rfl rfl (bo_geq _ _ _ _)) F S rfl rfl ?_; clear F a; intro a F
   refine wl_ev (wn rfl) (ev_pickT rfl hc1 rfl) F S rfl rfl ?_; clear F a; intro a F
   obtain rfl := sinj hm
   refine wpList_nil (then_n ?_); exact ⟨rfl, F.sub ⟨rfl, trivial⟩⟩
  ·refine wl_skip rfl rfl rfl rfl (ne_tf hc1) F rfl rfl ?_; clear F a; intro a F
   refine wl_skip rfl rfl rfl rfl (ne_tf hc1) F rfl rfl ?_; clear F a; intro a F
   refine wl_skip rfl rfl rfl rfl (ne_tf hc1) F rfl rfl ?_; clear F a; intro a F
   refine wl_skip rfl rfl rfl rfl (ne_tf hc1) F rfl rfl ?_; clear F a; intro a F
   refine wl_skip rfl rfl rfl rfl (ne_tf hc1) F rfl rfl ?_; clear F a; intro a F
   refine wl_ev (wn rfl) (ev_pickF rfl hc1 rfl) F S rfl rfl ?_; clear F a; intro a F
   obtain rfl := sinj hm
   refine wpList_nil (then_n ?_); exact ⟨rfl, F.sub ⟨rfl, trivial⟩⟩
 clear F; rintro a w' ⟨rfl, F⟩
 refine wl_ev (wn rfl) (ev_assign rfl) F S rfl rfl ?_; clear F a; intro a F
 refine wpList_nil ?_
 replace F := F.sub (e' := [(4, .bool x1)]) ⟨rfl, trivial⟩
 refine then_n ?_
 refine wp_ret ?_
 obtain rfl := sinj hm
 refine post_r (fn := Try.f50) (rs := [.tmp 4]) [.bool x1] F rfl (ar_cons (resT rfl) ar_nil) ?_
 replace S : St g [] fr w := St.tail [] _ S
 exact ⟨_, rfl, g, (Le.refl _), S, rfl⟩
end Go.Dc
