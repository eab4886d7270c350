/- Walks: each function comes to what its model says. -/
import Derived.Test.YthpkobkngplbbaaDoorDcTab
import Derived.Test.YthpkobkngplbbaaDoorDcM
namespace Go.Dc
open Go Go.Proofs
set_option maxRecDepth 100000
set_option maxHeartbeats 4000000
set_option linter.unusedVariables false
theorem stringslite_IndexByte_ok {g : Gh} {fr : Hl} {w : World} {r : Int} (s_ : ByteArray) (c_ : Int) (S : St g [] fr w) (hm : stringslite_IndexByte s_ c_ = some r) :
  Calls Tryd.prog 104 [.string s_, .int .u8 c_].toArray w (fun en w' => ∃ v, en = .returned v ∧ ∃ (g' : Gh), Le g g' ∧ St g' [] fr w' ∧ .i6 r = v) := by
 unfold stringslite_IndexByte at hm
 refine calls_enter (fn := Tryd.f104) Tryd.func104 rfl Tryd.ntmps104 (lb rfl) ?_
 intro a F
 replace F : Fr 8 a [(0, .string s_), (1, .int .u8 c_)] := F
 refine wp_seq ?_
 refine wp_region_lit ?_
 refine wE (ev_assign rfl) F S rfl fun a F=>?_
 refine wpList_nil ?_
 refine then_n ?_
 refine wp_seq ?_
 refine wp_region_lit ?_
 refine wE (ev_move rfl) F S rfl fun a F=>?_
 refine wE (ev_move rfl) F S rfl fun a F=>?_
 refine wE (ev_callx (xs := [.tmp 5, .tmp 6]) (vs := [.string s_, .int .u8 c_]) rfl rfl (fun w => tx125 s_ c_ w)) F S rfl fun a F=>?_
 refine wE (ev_assign rfl) F S rfl fun a F=>?_
 refine wpList_nil ?_
 refine then_n ?_
 refine wp_ret ?_
 obtain rfl := sinj hm
 refine post_r _ F rfl (ar_cons (resT rfl) ar_nil) ?_
 exact ⟨_, rfl, g, (Le.refl _), S, rfl⟩

theorem strings_IndexByte_ok {g : Gh} {fr : Hl} {w : World} {r : Int} (s_ : ByteArray) (c_ : Int) (S : St g [] fr w) (hm : strings_IndexByte s_ c_ = some r) :
  Calls Tryd.prog 71 [.string s_, .int .u8 c_].toArray w (fun en w' => ∃ v, en = .returned v ∧ ∃ (g' : Gh), Le g g' ∧ St g' [] fr w' ∧ .i6 r = v) := by
 unfold strings_IndexByte at hm
 refine calls_enter (fn := Tryd.f71) Tryd.func71 rfl Tryd.ntmps71 (lb rfl) ?_
 intro a F
 replace F : Fr 8 a [(0, .string s_), (1, .int .u8 c_)] := F
 refine wp_seq ?_
 refine wp_region_lit ?_
 refine wE (ev_assign rfl) F S rfl fun a F=>?_
 refine wpList_nil ?_
 refine then_n ?_
 refine wp_seq ?_
 refine wp_region_lit ?_
 refine wE (ev_move rfl) F S rfl fun a F=>?_
 refine wE (ev_move rfl) F S rfl fun a F=>?_
 obtain ⟨y1, hy1, hm⟩ := bind_some hm
 refine wl_call0 (wn rfl) rfl F rfl (stringslite_IndexByte_ok s_ c_ S hy1) rfl tc104 rfl rfl ?_; clear F a S
 rintro _ a w ⟨g1, l1, S, rfl⟩ F; replace S : St g1 [] fr w := S
 refine wE (ev_assign rfl) F S rfl fun a F=>?_
 refine wpList_nil ?_
 refine then_n ?_
 refine wp_ret ?_
 obtain rfl := sinj hm
 refine post_r _ F rfl (ar_cons (resT rfl) ar_nil) ?_
 exact ⟨_, rfl, g1, l1, S, rfl⟩

theorem lines_Validate_ok {g : Gh} {fr : Hl} {w : World} {r : Fault} (lines : (List ByteArray)) (vlines1 : Value) (hlines1 : RepSl g lines vlines1) (S : St g [] fr w) (hm : lines_Validate lines = some r) :
  Calls Tryd.prog 44 [vlines1].toArray w (fun en w' => ∃ v, en = .returned v ∧ ∃ (g' : Gh), Le g g' ∧ St g' [] fr w' ∧ .agg #[.i6 r.Code, .i6 r.Index] = v) := by
 unfold lines_Validate at hm
 refine calls_enter (fn := Tryd.f44) Tryd.func44 rfl Tryd.ntmps44 (lb rfl) ?_
 intro a F
 replace F : Fr 28 a [(0, vlines1)] := F
 refine wp_seq ?_
 refine wp_region_lit ?_
 refine wl_alloc (wn rfl) rfl tz25 (cs := [.i6 0, .i6 0]) rfl F S rfl rfl ?_; clear F a S; rintro b1 a w F S
 refine wpList_nil ?_
 refine then_n ?_
 refine wp_seq ?_
 refine wp_seq ?_
 refine wp_region_lit ?_
 refine wE (ev_move rfl) F S rfl fun a F=>?_
 refine wE (ev_lenSh hlines1 rfl tu22) F S rfl fun a F=>?_
 refine wE (ev_int rfl rfl (bo_gtr _ _ _ _)) F S rfl fun a F=>?_
 refine wpList_nil ?_
 refine then_n ?_
 obtain ⟨hc1, hm⟩ | ⟨hc1, hm⟩ := ite_or hm
 ·refine wp_condT F rfl hc1 ?_
  refine wp_seq ?_
  refine wp_region_lit ?_
  refine wE (ev_build (parts := [(0, .const (.i6 2)), (1, .const (.i6 (-1)))]) (vs := [(0, .i6 2), (1, .i6 (-1))]) rfl (fun w => tb25_0_1 2 (-1) w)) F S rfl fun a F=>?_
  refine wl_storeC (wn rfl) rfl F S rfl rfl (vs := [.i6 2, .i6 (-1)]) rfl ts25 (one_cons rfl (one_cons rfl one_nil)) (k := 0) rfl (lb rfl) (c' := #[.i6 2, .i6 (-1)]) rfl rfl ?_; clear S; intro w S
  refine wpList_nil ?_
  refine then_n ?_
  refine wp_ret ?_
  refine then_r ?_
  obtain rfl := sinj hm
  refine post_r _ F rfl (ar_cons (resA rfl tu25 rfl (box_ptr (cells := [.i6 2, .i6 (-1)]) 0 rfl 0 rfl (lb rfl) w S) ts25) ar_nil) ?_
  replace S : St g [] fr w := St.tail [] _ S
  exact ⟨_, rfl, g, (Le.refl _), S, rfl⟩
 ·refine wp_condF F rfl hc1 ?_
  refine wp_skip ?_
  refine then_n ?_
  refine wp_cut (fun a w => ∃ (g1 : Gh), Fr 28 a [(2, bp b1 0)] ∧ Le g g1 ∧ St g1 [[bx b1 #[.i6 0, .i6 0] 25]] fr w ∧ lines_Validate.j1 = some r) ?_ ?_
  ·refine wp_seq ?_
   refine wp_region_lit ?_
   refine wE (ev_move rfl) F S rfl fun a F=>?_
   refine wE (ev_lenSh hlines1 rfl tu22) F S rfl fun a F=>?_
   refine wE (ev_move rfl) F S rfl fun a F=>?_
   refine wpList_nil ?_
   refine then_n ?_
   refine wp_block ?_
   obtain ⟨r1, hr1, hm⟩ := bind_some hm
   have hmo1 := hm; clear hm
   refine wp_iter (σ := Int) (ρ := Fault ⊕ Unit) (m := fun s => lines_Validate.l1 lines s) (I := fun x1 a w => ∃ (g2 : Gh), Fr 28 a [(11, .i6 x1), (10, .i6 (lines.length : Int)), (9, vlines1), (2, bp b1 0)] ∧ Le g g2 ∧ St g2 [[bx b1 #[.i6 0, .i6 0] 25]] fr w) hr1 ?_ ?_
   ·exact ⟨g, F.sub ⟨rfl, rfl, rfl, rfl, trivial⟩, (Le.refl _), S⟩
   ·clear F S; rintro x1 a w x2 ⟨g2, F, l2, S⟩ hx1 hfin1
    have hm : lines_Validate.l1 lines x1 = some x2 := hx1; clear hx1
    unfold lines_Validate.l1 at hm
    refine wp_seq ?_
    refine wp_region_lit ?_
    refine wE (ev_int rfl rfl (bo_lss _ _ _ _)) F S rfl fun a F=>?_
    refine wpList_nil ?_
    refine then_n ?_
    refine wp_seq ?_
    obtain ⟨hc2, hm⟩ | ⟨hc2, hm⟩ := ite_or hm
    ·refine wp_condT F rfl hc2 ?_
     refine wp_skip ?_
     refine then_n ?_
     refine wp_seq ?_
     refine wp_block ?_
     refine wp_seq ?_
     refine wp_region_lit ?_
     refine wE (ev_move rfl) F S rfl fun a F=>?_
     obtain ⟨y1, hy1, hm⟩ := bind_some hm
     obtain ⟨cs1, hr2, hp1⟩ := elemS (hlines1.mono l2) hy1
     obtain rfl := rep_str hr2
     refine wE (ev_idxS (hlines1.mono l2) hy1 tu22 ts9 rfl rfl) F S rfl fun a F=>?_
     refine wE (ev_load1 tu9 rfl rfl (ptr_mono (cks := [[bx b1 #[.i6 0, .i6 0] 25]]) (fr := fr) hp1 (Le.refl _))) F S rfl fun a F=>?_
     refine wE (ev_assign rfl) F S rfl fun a F=>?_
     refine wE (ev_assign rfl) F S rfl fun a F=>?_
     refine wpList_nil ?_
     refine then_n ?_
     refine wp_seq ?_
     refine wp_seq ?_
     refine wp_region_lit ?_
     refine wE (ev_move rfl) F S rfl fun a F=>?_
     refine wE (ev_lenS rfl tu9) F S rfl fun a F=>?_
     refine wE (ev_int rfl rfl (bo_gtr _ _ _ _)) F S rfl fun a F=>?_
     refine wpList_nil ?_
     refine then_n ?_
     obtain ⟨hc3, hm⟩ | ⟨hc3, hm⟩ := ite_or hm
     ·refine wp_condT F rfl hc3 ?_
      refine wp_seq ?_
      refine wp_region_lit ?_
      refine wE (ev_move rfl) F S rfl fun a F=>?_
      refine wE (ev_build (parts := [(0, .const (.i6 2)), (1, .tmp 19)]) (vs := [(0, .i6 2), (1, .i6 x1)]) rfl (fun w => tb25_0_1 2 x1 w)) F S rfl fun a F=>?_
      refine wl_storeC (wn rfl) rfl F S rfl rfl (vs := [.i6 2, .i6 x1]) rfl ts25 (one_cons rfl (one_cons rfl one_nil)) (k := 0) rfl (lb rfl) (c' := #[.i6 2, .i6 x1]) rfl rfl ?_; clear S; intro w S
      refine wpList_nil ?_
      refine then_n ?_
      refine wp_ret ?_
      refine then_r ?_
      refine inb_r ?_
      refine then_r ?_
      refine then_r ?_
      refine inb_r ?_
      refine then_r ?_
      obtain rfl := sinj hm
      obtain rfl := hfin1 _ rfl
      clear hm
      have hm : (some ({ Code := 2, Index := x1 } : Fault) : Option Fault) = some _ := hmo1
      obtain rfl := sinj hm
      refine post_r _ F rfl (ar_cons (resA rfl tu25 rfl (box_ptr (cells := [.i6 2, .i6 x1]) 0 rfl 0 rfl (lb rfl) w S) ts25) ar_nil) ?_
      replace S : St g2 [] fr w := St.tail [] _ S
      exact ⟨_, rfl, g2, l2, S, rfl⟩
     ·refine wp_condF F rfl hc3 ?_
      refine wp_skip ?_
      refine then_n ?_
      refine wp_seq ?_
      refine wp_region_lit ?_
      refine wE (ev_move rfl) F S rfl fun a F=>?_
      obtain ⟨y2, hy2, hm⟩ := bind_some hm
      refine wl_call0 (wn rfl) rfl F rfl (strings_IndexByte_ok (fr := (fl [[bx b1 #[.i6 0, .i6 0] 25]] fr)) y1 10 S hy2) rfl tc71 rfl rfl ?_; clear F a S
      rintro _ a w ⟨g3, l3, S, rfl⟩ F; replace S : St g3 [[bx b1 #[.i6 0, .i6 0] 25]] fr w := S
      refine wE (ev_int rfl rfl (bo_geq _ _ _ _)) F S rfl fun a F=>?_
      refine wpList_nil ?_
      refine then_n ?_
      obtain ⟨hc4, hm⟩ | ⟨hc4, hm⟩ := ite_or hm
      ·refine wp_condT F rfl hc4 ?_
       refine wp_seq ?_
       refine wp_region_lit ?_
       refine wE (ev_move rfl) F S rfl fun a F=>?_
       refine wE (ev_build (parts := [(0, .const (.i6 5)), (1, .tmp 24)]) (vs := [(0, .i6 5), (1, .i6 x1)]) rfl (fun w => tb25_0_1 5 x1 w)) F S rfl fun a F=>?_
       refine wl_storeC (wn rfl) rfl F S rfl rfl (vs := [.i6 5, .i6 x1]) rfl ts25 (one_cons rfl (one_cons rfl one_nil)) (k := 0) rfl (lb rfl) (c' := #[.i6 5, .i6 x1]) rfl rfl ?_; clear S; intro w S
       refine wpList_nil ?_
       refine then_n ?_
       refine wp_ret ?_
       refine inb_r ?_
       refine then_r ?_
       refine then_r ?_
       refine inb_r ?_
       refine then_r ?_
       obtain rfl := sinj hm
       obtain rfl := hfin1 _ rfl
       clear hm
       have hm : (some ({ Code := 5, Index := x1 } : Fault) : Option Fault) = some _ := hmo1
       obtain rfl := sinj hm
       refine post_r _ F rfl (ar_cons (resA rfl tu25 rfl (box_ptr (cells := [.i6 5, .i6 x1]) 0 rfl 0 rfl (lb rfl) w S) ts25) ar_nil) ?_
       replace S : St g3 [] fr w := St.tail [] _ S
       exact ⟨_, rfl, g3, (l2.trans l3), S, rfl⟩
      ·refine wp_condF F rfl hc4 ?_
       refine wp_skip ?_
       refine inb_n ?_
       refine then_n ?_
       refine wp_region_lit ?_
       obtain ⟨z1, hz1, hm⟩ := bind_some hm
       refine wE (ev_int rfl rfl (bo_add hz1)) F S rfl fun a F=>?_
       refine wE (ev_move rfl) F S rfl fun a F=>?_
       refine wpList_nil ?_
       refine then_n ?_
       obtain rfl := sinj hm
       refine ⟨_, rfl, ?_⟩
       exact ⟨g3, F.sub ⟨rfl, rfl, rfl, rfl, trivial⟩, (l2.trans l3), S⟩
    ·refine wp_condF F rfl hc2 ?_
     refine wp_exit ?_
     refine then_e ?_
     refine then_e ?_
     refine inb_x ?_
     refine then_n ?_
     obtain rfl := sinj hm
     obtain rfl := hfin1 _ rfl
     clear hm
     have hm : (lines_Validate.j1 : Option Fault) = some _ := hmo1
     exact ⟨g2, F.sub ⟨rfl, trivial⟩, l2, S, hm⟩
  ·clear F S hm; rintro a w ⟨g1, F, l1, S, hm⟩
   refine wp_seq ?_
   refine wp_region_lit ?_
   refine wE (ev_build (parts := []) (vs := []) rfl (fun w => tb25_  w)) F S rfl fun a F=>?_
   refine wl_storeC (wn rfl) rfl F S rfl rfl (vs := [.i6 0, .i6 0]) rfl ts25 (one_cons rfl (one_cons rfl one_nil)) (k := 0) rfl (lb rfl) (c' := #[.i6 0, .i6 0]) rfl rfl ?_; clear S; intro w S
   refine wpList_nil ?_
   refine then_n ?_
   refine wp_ret ?_
   obtain rfl := sinj hm
   refine post_r _ F rfl (ar_cons (resA rfl tu25 rfl (box_ptr (cells := [.i6 0, .i6 0]) 0 rfl 0 rfl (lb rfl) w S) ts25) ar_nil) ?_
   replace S : St g1 [] fr w := St.tail [] _ S
   exact ⟨_, rfl, g1, l1, S, rfl⟩

theorem lines_Second_ok {g : Gh} {fr : Hl} {w : World} {r : Fault} (b_ : (List ByteArray)) (vb_1 : Value) (hb_1 : RepSl g b_ vb_1) (index : Int) (S : St g [] fr w) (hm : lines_Second b_ index = some r) :
  Calls Tryd.prog 17 [vb_1, .i6 index].toArray w (fun en w' => ∃ v, en = .returned v ∧ ∃ (g' : Gh), Le g g' ∧ St g' [] fr w' ∧ .agg #[.i6 r.Code, .i6 r.Index] = v) := by
 unfold lines_Second at hm
 refine calls_enter (fn := Tryd.f17) Tryd.func17 rfl Tryd.ntmps17 (lb rfl) ?_
 intro a F
 replace F : Fr 16 a [(0, vb_1), (1, .i6 index)] := F
 refine wp_seq ?_
 refine wp_region_lit ?_
 refine wl_alloc (wn rfl) rfl tz25 (cs := [.i6 0, .i6 0]) rfl F S rfl rfl ?_; clear F a S; rintro b1 a w F S
 refine wpList_nil ?_
 refine then_n ?_
 refine wp_seq ?_
 refine wp_seq ?_
 refine wp_region_lit ?_
 refine wE (ev_move rfl) F S rfl fun a F=>?_
 obtain ⟨y1, hy1, hm⟩ := bind_some hm
 refine wl_call0 (wn rfl) rfl F rfl (lines_Validate_ok (fr := (fl [[bx b1 #[.i6 0, .i6 0] 25]] fr)) b_ vb_1 hb_1 S hy1) rfl tc44 rfl rfl ?_; clear F a S
 rintro _ a w ⟨g1, l1, S, rfl⟩ F; replace S : St g1 [[bx b1 #[.i6 0, .i6 0] 25]] fr w := S
 refine wl_alloc (wn rfl) rfl tz25 (cs := [.i6 0, .i6 0]) rfl F S rfl rfl ?_; clear F a S; rintro b2 a w F S
 refine wl_storeC (wn rfl) rfl F S rfl rfl (vs := [.i6 y1.Code, .i6 y1.Index]) rfl ts25 (one_cons rfl (one_cons rfl one_nil)) (k := 0) rfl (lb rfl) (c' := #[.i6 y1.Code, .i6 y1.Index]) rfl rfl ?_; clear S; intro w S
 refine wpList_nil ?_
 refine then_n ?_
 refine wp_seq ?_
 refine wp_region_lit ?_
 refine wE (ev_loadA tu25 rfl (cs := [.i6 y1.Code, .i6 y1.Index]) ts25 rfl (box_ptr (cells := [.i6 y1.Code, .i6 y1.Index]) 0 rfl 0 rfl (lb rfl))) F S rfl fun a F=>?_
 refine wE (ev_build (parts := []) (vs := []) rfl (fun w => tb25_  w)) F S rfl fun a F=>?_
 refine wE (ev_neS tu25 tqa25 tqb25 tqc25 (xs := [.i6 y1.Code, .i6 y1.Index]) (ys := [.i6 0, .i6 0]) rfl rfl ⟨_, _, rfl, by decide, ⟨_, _, rfl, rfl, leaf_int tu3⟩, ⟨_, _, rfl, by decide, ⟨_, _, rfl, rfl, leaf_int tu3⟩, rfl⟩⟩) F S rfl fun a F=>?_
 refine wpList_nil ?_
 refine then_n ?_
 obtain ⟨hc1, hm⟩ | ⟨hc1, hm⟩ := ite_or hm
 ·refine wp_condT F rfl hc1 ?_
  refine wp_seq ?_
  refine wp_region_lit ?_
  refine wE (ev_fieldAddr' tu25 tf25_0 (z := 0) ts3 rfl ⟨_, rfl⟩ rfl) F S rfl fun a F=>?_
  refine wE (ev_load1 tu3 rfl rfl (box_ptr (cells := [.i6 y1.Code]) 0 rfl 0 rfl (lb rfl))) F S rfl fun a F=>?_
  refine wE (ev_move rfl) F S rfl fun a F=>?_
  refine wE (ev_build (parts := [(0, .tmp 12), (1, .tmp 13)]) (vs := [(0, .i6 y1.Code), (1, .i6 index)]) rfl (fun w => tb25_0_1 y1.Code index w)) F S rfl fun a F=>?_
  refine wl_storeC (wn rfl) rfl F S rfl rfl (vs := [.i6 y1.Code, .i6 index]) rfl ts25 (one_cons rfl (one_cons rfl one_nil)) (k := 1) rfl (lb rfl) (c' := #[.i6 y1.Code, .i6 index]) rfl rfl ?_; clear S; intro w S
  refine wpList_nil ?_
  refine then_n ?_
  refine wp_ret ?_
  refine then_r ?_
  obtain rfl := sinj hm
  refine post_r _ F rfl (ar_cons (resA rfl tu25 rfl (box_ptr (cells := [.i6 y1.Code, .i6 index]) 1 rfl 0 rfl (lb rfl) w S) ts25) ar_nil) ?_
  replace S : St g1 [] fr w := St.tail [] _ S
  exact ⟨_, rfl, g1, l1, S, rfl⟩
 ·refine wp_condF F rfl hc1 ?_
  refine wp_skip ?_
  refine then_n ?_
  refine wp_seq ?_
  refine wp_region_lit ?_
  refine wE (ev_build (parts := []) (vs := []) rfl (fun w => tb25_  w)) F S rfl fun a F=>?_
  refine wl_storeC (wn rfl) rfl F S rfl rfl (vs := [.i6 0, .i6 0]) rfl ts25 (one_cons rfl (one_cons rfl one_nil)) (k := 1) rfl (lb rfl) (c' := #[.i6 0, .i6 0]) rfl rfl ?_; clear S; intro w S
  refine wpList_nil ?_
  refine then_n ?_
  refine wp_ret ?_
  obtain rfl := sinj hm
  refine post_r _ F rfl (ar_cons (resA rfl tu25 rfl (box_ptr (cells := [.i6 0, .i6 0]) 1 rfl 0 rfl (lb rfl) w S) ts25) ar_nil) ?_
  replace S : St g1 [] fr w := St.tail [] _ S
  exact ⟨_, rfl, g1, l1, S, rfl⟩

theorem lines_Both_ok {g : Gh} {fr : Hl} {w : World} {r : Fault} (a_ : (List ByteArray)) (va_1 : Value) (ha_1 : RepSl g a_ va_1) (b_ : (List ByteArray)) (vb_1 : Value) (hb_1 : RepSl g b_ vb_1) (S : St g [] fr w) (hm : lines_Both a_ b_ = some r) :
  Calls Tryd.prog 16 [va_1, vb_1].toArray w (fun en w' => ∃ v, en = .returned v ∧ ∃ (g' : Gh), Le g g' ∧ St g' [] fr w' ∧ .agg #[.i6 r.Code, .i6 r.Index] = v) := by
 unfold lines_Both at hm
 refine calls_enter (fn := Tryd.f16) Tryd.func16 rfl Tryd.ntmps16 (lb rfl) ?_
 intro a F
 replace F : Fr 14 a [(0, va_1), (1, vb_1)] := F
 refine wp_seq ?_
 refine wp_region_lit ?_
 refine wl_alloc (wn rfl) rfl tz25 (cs := [.i6 0, .i6 0]) rfl F S rfl rfl ?_; clear F a S; rintro b1 a w F S
 refine wpList_nil ?_
 refine then_n ?_
 refine wp_seq ?_
 refine wp_seq ?_
 refine wp_region_lit ?_
 refine wE (ev_move rfl) F S rfl fun a F=>?_
 obtain ⟨y1, hy1, hm⟩ := bind_some hm
 refine wl_call0 (wn rfl) rfl F rfl (lines_Validate_ok (fr := (fl [[bx b1 #[.i6 0, .i6 0] 25]] fr)) a_ va_1 ha_1 S hy1) rfl tc44 rfl rfl ?_; clear F a S
 rintro _ a w ⟨g1, l1, S, rfl⟩ F; replace S : St g1 [[bx b1 #[.i6 0, .i6 0] 25]] fr w := S
 refine wl_alloc (wn rfl) rfl tz25 (cs := [.i6 0, .i6 0]) rfl F S rfl rfl ?_; clear F a S; rintro b2 a w F S
 refine wl_storeC (wn rfl) rfl F S rfl rfl (vs := [.i6 y1.Code, .i6 y1.Index]) rfl ts25 (one_cons rfl (one_cons rfl one_nil)) (k := 0) rfl (lb rfl) (c' := #[.i6 y1.Code, .i6 y1.Index]) rfl rfl ?_; clear S; intro w S
 refine wpList_nil ?_
 refine then_n ?_
 refine wp_seq ?_
 refine wp_region_lit ?_
 refine wE (ev_loadA tu25 rfl (cs := [.i6 y1.Code, .i6 y1.Index]) ts25 rfl (box_ptr (cells := [.i6 y1.Code, .i6 y1.Index]) 0 rfl 0 rfl (lb rfl))) F S rfl fun a F=>?_
 refine wE (ev_build (parts := []) (vs := []) rfl (fun w => tb25_  w)) F S rfl fun a F=>?_
 refine wE (ev_neS tu25 tqa25 tqb25 tqc25 (xs := [.i6 y1.Code, .i6 y1.Index]) (ys := [.i6 0, .i6 0]) rfl rfl ⟨_, _, rfl, by decide, ⟨_, _, rfl, rfl, leaf_int tu3⟩, ⟨_, _, rfl, by decide, ⟨_, _, rfl, rfl, leaf_int tu3⟩, rfl⟩⟩) F S rfl fun a F=>?_
 refine wpList_nil ?_
 refine then_n ?_
 obtain ⟨hc1, hm⟩ | ⟨hc1, hm⟩ := ite_or hm
 ·refine wp_condT F rfl hc1 ?_
  refine wp_seq ?_
  refine wp_region_lit ?_
  refine wE (ev_loadA tu25 rfl (cs := [.i6 y1.Code, .i6 y1.Index]) ts25 rfl (box_ptr (cells := [.i6 y1.Code, .i6 y1.Index]) 0 rfl 0 rfl (lb rfl))) F S rfl fun a F=>?_
  refine wl_storeC (wn rfl) rfl F S rfl rfl (vs := [.i6 y1.Code, .i6 y1.Index]) rfl ts25 (one_cons rfl (one_cons rfl one_nil)) (k := 1) rfl (lb rfl) (c' := #[.i6 y1.Code, .i6 y1.Index]) rfl rfl ?_; clear S; intro w S
  refine wpList_nil ?_
  refine then_n ?_
  refine wp_ret ?_
  refine then_r ?_
  obtain rfl := sinj hm
  refine post_r _ F rfl (ar_cons (resA rfl tu25 rfl (box_ptr (cells := [.i6 y1.Code, .i6 y1.Index]) 1 rfl 0 rfl (lb rfl) w S) ts25) ar_nil) ?_
  replace S : St g1 [] fr w := St.tail [] _ S
  exact ⟨_, rfl, g1, l1, S, rfl⟩
 ·refine wp_condF F rfl hc1 ?_
  refine wp_skip ?_
  refine then_n ?_
  refine wp_seq ?_
  refine wp_region_lit ?_
  refine wE (ev_move rfl) F S rfl fun a F=>?_
  obtain ⟨y2, hy2, hm⟩ := bind_some hm
  refine wl_call0 (wn rfl) rfl F rfl (lines_Second_ok (fr := (fl [[bx b2 #[.i6 y1.Code, .i6 y1.Index] 25], [bx b1 #[.i6 0, .i6 0] 25]] fr)) b_ vb_1 (hb_1.mono l1) (-2) S hy2) rfl tc17 rfl rfl ?_; clear F a S
  rintro _ a w ⟨g2, l2, S, rfl⟩ F; replace S : St g2 [[bx b2 #[.i6 y1.Code, .i6 y1.Index] 25], [bx b1 #[.i6 0, .i6 0] 25]] fr w := S
  refine wl_storeC (wn rfl) rfl F S rfl rfl (vs := [.i6 y2.Code, .i6 y2.Index]) rfl ts25 (one_cons rfl (one_cons rfl one_nil)) (k := 1) rfl (lb rfl) (c' := #[.i6 y2.Code, .i6 y2.Index]) rfl rfl ?_; clear S; intro w S
  refine wpList_nil ?_
  refine then_n ?_
  refine wp_ret ?_
  obtain rfl := sinj hm
  refine post_r _ F rfl (ar_cons (resA rfl tu25 rfl (box_ptr (cells := [.i6 y2.Code, .i6 y2.Index]) 1 rfl 0 rfl (lb rfl) w S) ts25) ar_nil) ?_
  replace S : St g2 [] fr w := St.tail [] _ S
  exact ⟨_, rfl, g2, (l1.trans l2), S, rfl⟩

theorem diff_Align_s1_ok {g : Gh} {fr : Hl} {w : World} {r : Int} (i_ : Int) (j : Int) (bu2 : Nat) (u2 : (List Int)) (vu21 : Value) (cu21 : Hl) (hu21 : OwnS g u2 vu21 cu21) (bu3 : Nat) (u3 : Int) (S : St g [[bx bu2 #[vu21] 31], cu21, [bx bu3 #[.i6 u3] 3]] fr w) (hm : diff_Align_s1 i_ j u2 u3 = some r) :
  Calls Tryd.prog 59 [.i6 i_, .i6 j, bp bu2 0, bp bu3 0].toArray w (fun en w' => ∃ v, en = .returned v ∧ ∃ (g' : Gh), Le g g' ∧ St g' [[bx bu2 #[vu21] 31], cu21, [bx bu3 #[.i6 u3] 3]] fr w' ∧ .i6 r = v) := by
 unfold diff_Align_s1 at hm
 refine calls_enter (fn := Tryd.f59) Tryd.func59 rfl Tryd.ntmps59 (lb rfl) ?_
 intro a F
 replace F : Fr 15 a [(0, .i6 i_), (1, .i6 j), (2, bp bu2 0), (3, bp bu3 0)] := F
 refine wp_seq ?_
 refine wp_region_lit ?_
 refine wE (ev_assign rfl) F S rfl fun a F=>?_
 refine wpList_nil ?_
 refine then_n ?_
 refine wp_seq ?_
 refine wp_region_lit ?_
 refine wE (ev_load1 tu31 rfl rfl (box_ptr (cells := [vu21]) 0 rfl 0 rfl (lb rfl))) F S rfl fun a F=>?_
 refine wE (ev_move rfl) F S rfl fun a F=>?_
 refine wE (ev_load1 tu3 rfl rfl (box_ptr (cells := [.i6 u3]) 2 rfl 0 rfl (lb rfl))) F S rfl fun a F=>?_
 obtain ⟨z1, hz1, hm⟩ := bind_some hm
 refine wE (ev_int rfl rfl (bo_mul hz1)) F S rfl fun a F=>?_
 refine wE (ev_move rfl) F S rfl fun a F=>?_
 obtain ⟨z2, hz2, hm⟩ := bind_some hm
 refine wE (ev_int rfl rfl (bo_add hz2)) F S rfl fun a F=>?_
 obtain ⟨y1, hy1, hm⟩ := bind_some hm
 refine wE (ev_idxO hu21 hy1 tu31 ts3 rfl rfl) F S rfl fun a F=>?_
 obtain ⟨cs1, hr1, hq1⟩ := elemO hu21 hy1
 obtain rfl := rep_int hr1
 refine wE (ev_load1 tu3 rfl rfl (hq1 _ _ 1 rfl)) F S rfl fun a F=>?_
 refine wE (ev_assign rfl) F S rfl fun a F=>?_
 refine wpList_nil ?_
 refine then_n ?_
 refine wp_ret ?_
 obtain rfl := sinj hm
 refine post_r _ F rfl (ar_cons (resT rfl) ar_nil) ?_
 exact ⟨_, rfl, g, (Le.refl _), S, rfl⟩

theorem diff_Align_ok {g : Gh} {fr : Hl} {w : World} {r : (List Int)} (a_ : (List ByteArray)) (va_1 : Value) (ha_1 : RepSl g a_ va_1) (b_ : (List ByteArray)) (vb_1 : Value) (hb_1 : RepSl g b_ vb_1) (S : St g [] fr w) (hm : diff_Align a_ b_ = some r) :
  Calls Tryd.prog 32 [va_1, vb_1].toArray w (fun en w' => ∃ v, en = .returned v ∧ ∃ (g' : Gh) (v1 : Value) (c1 : Hl), Le g g' ∧ St g' [c1] fr w' ∧ OwnS g' r v1 c1 ∧ v1 = v) := by
 unfold diff_Align at hm
 refine calls_enter (fn := Tryd.f32) Tryd.func32 rfl Tryd.ntmps32 (lb rfl) ?_
 intro a F
 replace F : Fr 147 a [(0, va_1), (1, vb_1)] := F
 refine wp_seq ?_
 refine wp_region_lit ?_
 refine wE (ev_assign rfl) F S rfl fun a F=>?_
 refine wpList_nil ?_
 refine then_n ?_
 refine wp_seq ?_
 refine wp_region_lit ?_
 refine wE (ev_move rfl) F S rfl fun a F=>?_
 refine wE (ev_lenSh hb_1 rfl tu22) F S rfl fun a F=>?_
 obtain ⟨z1, hz1, hm⟩ := bind_some hm
 refine wE (ev_int rfl rfl (bo_add hz1)) F S rfl fun a F=>?_
 refine wl_alloc (wn rfl) rfl tz3 (cs := [.i6 0]) rfl F S rfl rfl ?_; clear F a S; rintro b1 a w F S
 refine wl_storeC (wn rfl) rfl F S rfl rfl (vs := [.i6 z1]) rfl ts3 (one_cons rfl one_nil) (k := 0) rfl (lb rfl) (c' := #[.i6 z1]) rfl rfl ?_; clear S; intro w S
 refine wpList_nil ?_
 refine then_n ?_
 refine wp_seq ?_
 refine wp_region_lit ?_
 refine wE (ev_move rfl) F S rfl fun a F=>?_
 refine wE (ev_lenSh ha_1 rfl tu22) F S rfl fun a F=>?_
 obtain ⟨z2, hz2, hm⟩ := bind_some hm
 refine wE (ev_int rfl rfl (bo_add hz2)) F S rfl fun a F=>?_
 refine wE (ev_load1 tu3 rfl rfl (box_ptr (cells := [.i6 z1]) 0 rfl 0 rfl (lb rfl))) F S rfl fun a F=>?_
 obtain ⟨z3, hz3, hm⟩ := bind_some hm
 refine wE (ev_int rfl rfl (bo_mul hz3)) F S rfl fun a F=>?_
 obtain ⟨y1, hy1, hm⟩ := bind_some hm
 refine wl_make (wn rfl) rfl tu31 te3 (fun g => (show Rep.rep g (0 : Int) _ from rfl)) rfl hy1 (by decide) F S rfl rfl ?_; clear F a S; rintro v1 c1 a w h1 F S
 refine wl_alloc (wn rfl) rfl tz31 (cs := [nilS]) rfl F S rfl rfl ?_; clear F a S; rintro b2 a w F S
 refine wl_storeC (wn rfl) rfl F S rfl rfl (vs := [v1]) (OwnS.cl h1) ts31 (one_cons (OwnS.one h1) one_nil) (k := 0) rfl (lb rfl) (c' := #[v1]) rfl rfl ?_; clear S; intro w S
 refine wpList_nil ?_
 refine then_n ?_
 refine wp_seq ?_
 refine wp_region_lit ?_
 refine wE (ev_makeFunc (xs := [.tmp 6, .tmp 5]) (vs := [bp b2 0, bp b1 0]) rfl) F S rfl fun a F=>?_
 refine wE (ev_assign rfl) F S rfl fun a F=>?_
 refine wpList_nil ?_
 refine then_n ?_
 refine wp_cut (fun a w => ∃ (x1 : List Int) (v2 : Value) (c2 : Hl) (g1 : Gh), Fr 147 a [(7, .func (.func 59) #[] #[bp b2 0, bp b1 0]), (0, va_1), (1, vb_1)] ∧ Le g g1 ∧ St g1 [[bx b2 #[v2] 31], [bx b1 #[.i6 z1] 3], c2] fr w ∧ OwnS g1 x1 v2 c2 ∧ diff_Align.j1 a_ b_ z1 x1 = some r) ?_ ?_
 ·refine wp_seq ?_
  refine wp_region_lit ?_
  refine wE (ev_move rfl) F S rfl fun a F=>?_
  refine wE (ev_lenSh ha_1 rfl tu22) F S rfl fun a F=>?_
  obtain ⟨z10, hz10, hm⟩ := bind_some hm
  refine wE (ev_int rfl rfl (bo_sub hz10)) F S rfl fun a F=>?_
  refine wE (ev_assign rfl) F S rfl fun a F=>?_
  refine wpList_nil ?_
  refine then_n ?_
  refine wp_block ?_
  obtain ⟨r2, hr7, hm⟩ := bind_some hm
  have hmo2 := hm; clear hm
  refine wp_iter (σ := Int × (List Int)) (ρ := (List Int)) (m := fun s => diff_Align.l2 a_ b_ z1 s.1 s.2) (I := fun s a w => match s with | (x12, x13) => ∃ (v11 : Value) (c11 : Hl) (g8 : Gh), Fr 147 a [(8, .i6 x12), (7, .func (.func 59) #[] #[bp b2 0, bp b1 0]), (6, bp b2 0), (5, bp b1 0), (0, va_1), (1, vb_1)] ∧ Le g g8 ∧ St g8 [[bx b2 #[v11] 31], [bx b1 #[.i6 z1] 3], c11] fr w ∧ OwnS g8 x13 v11 c11) hr7 ?_ ?_
  ·dsimp only
   replace S : St g [[bx b2 #[v1] 31], [bx b1 #[.i6 z1] 3], c1] fr w := St.tail [[bx b2 #[v1] 31], [bx b1 #[.i6 z1] 3], c1] _ (((S.frontC 1 rfl).frontC 3 rfl).frontC 2 rfl)
   exact ⟨v1, c1, g, F.sub ⟨rfl, rfl, rfl, rfl, rfl, rfl, trivial⟩, (Le.refl _), S, h1⟩
  ·clear F S; rintro ⟨x12, x13⟩ a w x14 ⟨v11, c11, g8, F, l8, S, h11⟩ hx7 hfin2
   have hm : diff_Align.l2 a_ b_ z1 x12 x13 = some x14 := hx7; clear hx7
   unfold diff_Align.l2 at hm
   refine wp_seq ?_
   refine wp_seq ?_
   refine wp_region_lit ?_
   refine wE (ev_move rfl) F S rfl fun a F=>?_
   refine wE (ev_int rfl rfl (bo_geq _ _ _ _)) F S rfl fun a F=>?_
   refine wpList_nil ?_
   refine then_n ?_
   obtain ⟨hc9, hm⟩ | ⟨hc9, hm⟩ := ite_or hm
   ·refine wp_condT F rfl hc9 ?_
    refine wp_skip ?_
    refine then_n ?_
    refine wp_cut (fun a w => ∃ (x15 : List Int) (v12 : Value) (c12 : Hl) (g9 : Gh), Fr 147 a [(8, .i6 x12), (7, .func (.func 59) #[] #[bp b2 0, bp b1 0]), (6, bp b2 0), (5, bp b1 0), (0, va_1), (1, vb_1)] ∧ Le g8 g9 ∧ St g9 [[bx b2 #[v12] 31], [bx b1 #[.i6 z1] 3], c12] fr w ∧ OwnS g9 x15 v12 c12 ∧ diff_Align.j3 x12 x15 = some x14) ?_ ?_
    ·refine wp_block ?_
     refine wp_seq ?_
     refine wp_region_lit ?_
     refine wE (ev_move rfl) F S rfl fun a F=>?_
     refine wE (ev_lenSh hb_1 rfl tu22) F S rfl fun a F=>?_
     obtain ⟨z12, hz12, hm⟩ := bind_some hm
     refine wE (ev_int rfl rfl (bo_sub hz12)) F S rfl fun a F=>?_
     refine wE (ev_assign rfl) F S rfl fun a F=>?_
     refine wpList_nil ?_
     refine then_n ?_
     refine wp_cut1 (fun a w => ∃ (x16 : List Int) (v13 : Value) (c13 : Hl) (g10 : Gh), Fr 147 a [(8, .i6 x12), (7, .func (.func 59) #[] #[bp b2 0, bp b1 0]), (6, bp b2 0), (5, bp b1 0), (0, va_1), (1, vb_1)] ∧ Le g8 g10 ∧ St g10 [[bx b2 #[v13] 31], [bx b1 #[.i6 z1] 3], c13] fr w ∧ OwnS g10 x16 v13 c13 ∧ diff_Align.j4 x12 x16 = some x14) ?_ ?_
     ·refine wp_block ?_
      obtain ⟨r3, hr8, hm⟩ := bind_some hm
      have hmo3 := hm; clear hm
      refine wp_iter (σ := Int × (List Int)) (ρ := (List Int)) (m := fun s => diff_Align.l3 a_ b_ z1 x12 s.1 s.2) (I := fun s a w => match s with | (x17, x18) => ∃ (v14 : Value) (c14 : Hl) (g11 : Gh), Fr 147 a [(9, .i6 x17), (8, .i6 x12), (7, .func (.func 59) #[] #[bp b2 0, bp b1 0]), (6, bp b2 0), (5, bp b1 0), (0, va_1), (1, vb_1)] ∧ Le g8 g11 ∧ St g11 [[bx b2 #[v14] 31], [bx b1 #[.i6 z1] 3], c14] fr w ∧ OwnS g11 x18 v14 c14) hr8 ?_ ?_
      ·dsimp only
       exact ⟨v11, c11, g8, F.sub ⟨rfl, rfl, rfl, rfl, rfl, rfl, rfl, trivial⟩, (Le.refl _), S, h11⟩
      ·clear F S; rintro ⟨x17, x18⟩ a w x19 ⟨v14, c14, g11, F, l11, S, h14⟩ hx8 hfin3
       have hm : diff_Align.l3 a_ b_ z1 x12 x17 x18 = some x19 := hx8; clear hx8
       unfold diff_Align.l3 at hm
       refine wp_seq ?_
       refine wp_seq ?_
       refine wp_region_lit ?_
       refine wE (ev_move rfl) F S rfl fun a F=>?_
       refine wE (ev_int rfl rfl (bo_geq _ _ _ _)) F S rfl fun a F=>?_
       refine wpList_nil ?_
       refine then_n ?_
       obtain ⟨hc10, hm⟩ | ⟨hc10, hm⟩ := ite_or hm
       ·refine wp_condT F rfl hc10 ?_
        refine wp_skip ?_
        refine then_n ?_
        refine wp_seq ?_
        refine wp_block ?_
        refine wp_seq ?_
        refine wp_region_lit ?_
        refine wE (ev_move rfl) F S rfl fun a F=>?_
        refine wE (ev_move rfl) F S rfl fun a F=>?_
        obtain ⟨z13, hz13, hm⟩ := bind_some hm
        refine wE (ev_int rfl rfl (bo_add hz13)) F S rfl fun a F=>?_
        refine wE (ev_move rfl) F S rfl fun a F=>?_
        replace S : St g11 [[bx b2 #[v14] 31], c14, [bx b1 #[.i6 z1] 3]] fr w := (((S.frontC 1 rfl).frontC 3 rfl).frontC 2 rfl)
        obtain ⟨y9, hy9, hm⟩ := bind_some hm
        refine wl_call (wn rfl) rfl (xs := [.tmp 40, .tmp 41]) (vs := [.i6 z13, .i6 x17]) (cap := [bp b2 0, bp b1 0]) F rfl rfl tc59 (diff_Align_s1_ok (g := g11) (fr := fr) (w := w) z13 x17 b2 x18 v14 c14 h14 b1 z1 S hy9) rfl rfl ?_; clear F a S
        rintro _ a w ⟨g12, l12, S, rfl⟩ F; replace S : St g12 [[bx b2 #[v14] 31], c14, [bx b1 #[.i6 z1] 3]] fr w := S
        refine wE (ev_move rfl) F S rfl fun a F=>?_
        refine wE (ev_move rfl) F S rfl fun a F=>?_
        refine wE (ev_move rfl) F S rfl fun a F=>?_
        obtain ⟨z14, hz14, hm⟩ := bind_some hm
        refine wE (ev_int rfl rfl (bo_add hz14)) F S rfl fun a F=>?_
        obtain ⟨y10, hy10, hm⟩ := bind_some hm
        refine wl_call (wn rfl) rfl (xs := [.tmp 44, .tmp 46]) (vs := [.i6 x12, .i6 z14]) (cap := [bp b2 0, bp b1 0]) F rfl rfl tc59 (diff_Align_s1_ok (g := g12) (fr := fr) (w := w) x12 z14 b2 x18 v14 c14 (h14.mono l12) b1 z1 S hy10) rfl rfl ?_; clear F a S
        rintro _ a w ⟨g13, l13, S, rfl⟩ F; replace S : St g13 [[bx b2 #[v14] 31], c14, [bx b1 #[.i6 z1] 3]] fr w := S
        refine wE (ev_max rfl rfl) F S rfl fun a F=>?_
        refine wE (ev_assign rfl) F S rfl fun a F=>?_
        refine wpList_nil ?_
        refine then_n ?_
        refine wp_cut (fun a w => ∃ (x20 : Int) (g14 : Gh), Fr 147 a [(10, .i6 x20), (9, .i6 x17), (8, .i6 x12), (7, .func (.func 59) #[] #[bp b2 0, bp b1 0]), (6, bp b2 0), (5, bp b1 0), (0, va_1), (1, vb_1)] ∧ Le g13 g14 ∧ St g14 [[bx b2 #[v14] 31], [bx b1 #[.i6 z1] 3], c14] fr w ∧ diff_Align.j5 z1 x12 x17 x18 x20 = some x19) ?_ ?_
        ·refine wp_seq ?_
         refine wp_quiet mo (by kernel_rfl) S ?_
         refine wq_ev (wn rfl) (ev_move rfl) F rfl rfl ?_; clear F a; intro a F
         refine wq_ev (wn rfl) (ev_move rfl) F rfl rfl ?_; clear F a; intro a F
         obtain ⟨y13, hy13, hm⟩ := bind_some hm
         obtain ⟨cs6, hr9, hp3⟩ := elemS (ha_1.mono (((l8.trans l11).trans l12).trans l13)) hy13
         obtain rfl := rep_str hr9
         refine wq_ev (wn rfl) (ev_idxS (ha_1.mono (((l8.trans l11).trans l12).trans l13)) hy13 tu22 ts9 rfl rfl) F rfl rfl ?_; clear F a; intro a F
         refine wq_ev (wn rfl) (ev_load1 tu9 rfl rfl (ptr_mono (cks := [[bx b2 #[v14] 31], c14, [bx b1 #[.i6 z1] 3]]) (fr := fr) hp3 (Le.refl _))) F rfl rfl ?_; clear F a; intro a F
         refine wq_ev (wn rfl) (ev_move rfl) F rfl rfl ?_; clear F a; intro a F
         refine wq_ev (wn rfl) (ev_move rfl) F rfl rfl ?_; clear F a; intro a F
         obtain ⟨y14, hy14, hm⟩ := bind_some hm
         obtain ⟨cs7, hr10, hp4⟩ := elemS (hb_1.mono (((l8.trans l11).trans l12).trans l13)) hy14
         obtain rfl := rep_str hr10
         refine wq_ev (wn rfl) (ev_idxS (hb_1.mono (((l8.trans l11).trans l12).trans l13)) hy14 tu22 ts9 rfl rfl) F rfl rfl ?_; clear F a; intro a F
         refine wq_ev (wn rfl) (ev_load1 tu9 rfl rfl (ptr_mono (cks := [[bx b2 #[v14] 31], c14, [bx b1 #[.i6 z1] 3]]) (fr := fr) hp4 (Le.refl _))) F rfl rfl ?_; clear F a; intro a F
         refine wq_ev (wn rfl) (ev_str rfl rfl (bs_eql _ _ _)) F rfl rfl ?_; clear F a; intro a F
         refine wq_nil ?_; clear S; intro w S
         refine then_n ?_
         obtain ⟨hc11, hm⟩ | ⟨hc11, hm⟩ := ite_or hm
         ·refine wp_condT F rfl hc11 ?_
          refine wp_region_lit ?_
          refine wE (ev_move rfl) F S rfl fun a F=>?_
          refine wE (ev_move rfl) F S rfl fun a F=>?_
          obtain ⟨z18, hz18, hm⟩ := bind_some hm
          refine wE (ev_int rfl rfl (bo_add hz18)) F S rfl fun a F=>?_
          refine wE (ev_move rfl) F S rfl fun a F=>?_
          obtain ⟨z19, hz19, hm⟩ := bind_some hm
          refine wE (ev_int rfl rfl (bo_add hz19)) F S rfl fun a F=>?_
          obtain ⟨y15, hy15, hm⟩ := bind_some hm
          refine wl_call (wn rfl) rfl (xs := [.tmp 60, .tmp 62]) (vs := [.i6 z18, .i6 z19]) (cap := [bp b2 0, bp b1 0]) F rfl rfl tc59 (diff_Align_s1_ok (g := g13) (fr := fr) (w := w) z18 z19 b2 x18 v14 c14 (h14.mono (l12.trans l13)) b1 z1 S hy15) rfl rfl ?_; clear F a S
          rintro _ a w ⟨g15, l15, S, rfl⟩ F; replace S : St g15 [[bx b2 #[v14] 31], c14, [bx b1 #[.i6 z1] 3]] fr w := S
          obtain ⟨z20, hz20, hm⟩ := bind_some hm
          refine wE (ev_int rfl rfl (bo_add hz20)) F S rfl fun a F=>?_
          refine wE (ev_assign rfl) F S rfl fun a F=>?_
          refine wpList_nil ?_
          refine then_n ?_
          replace S : St g15 [[bx b2 #[v14] 31], [bx b1 #[.i6 z1] 3], c14] fr w := St.tail [[bx b2 #[v14] 31], [bx b1 #[.i6 z1] 3], c14] _ (((S.frontC 1 rfl).frontC 3 rfl).frontC 2 rfl)
          exact ⟨z20, g15, F.sub ⟨rfl, rfl, rfl, rfl, rfl, rfl, rfl, rfl, trivial⟩, l15, S, hm⟩
         ·refine wp_condF F rfl hc11 ?_
          refine wp_skip ?_
          refine then_n ?_
          replace S : St g13 [[bx b2 #[v14] 31], [bx b1 #[.i6 z1] 3], c14] fr w := St.tail [[bx b2 #[v14] 31], [bx b1 #[.i6 z1] 3], c14] _ (((S.frontC 1 rfl).frontC 3 rfl).frontC 2 rfl)
          exact ⟨(max y9 y10), g13, F.sub ⟨rfl, rfl, rfl, rfl, rfl, rfl, rfl, rfl, trivial⟩, (Le.refl _), S, hm⟩
        ·clear F S hm; rintro a w ⟨x20, g14, F, l14, S, hm⟩
         refine wp_region_lit ?_
         refine wE (ev_load1 tu31 rfl rfl (box_ptr (cells := [v14]) 0 rfl 0 rfl (lb rfl))) F S rfl fun a F=>?_
         refine wE (ev_move rfl) F S rfl fun a F=>?_
         refine wE (ev_load1 tu3 rfl rfl (box_ptr (cells := [.i6 z1]) 1 rfl 0 rfl (lb rfl))) F S rfl fun a F=>?_
         obtain ⟨z15, hz15, hm⟩ := bind_some hm
         refine wE (ev_int rfl rfl (bo_mul hz15)) F S rfl fun a F=>?_
         refine wE (ev_move rfl) F S rfl fun a F=>?_
         obtain ⟨z16, hz16, hm⟩ := bind_some hm
         refine wE (ev_int rfl rfl (bo_add hz16)) F S rfl fun a F=>?_
         refine wE (ev_move rfl) F S rfl fun a F=>?_
         obtain ⟨y11, hy11, hm⟩ := bind_some hm
         refine wE (ev_idxO (h14.mono ((l12.trans l13).trans l14)) hy11 tu31 ts3 rfl rfl) F S rfl fun a F=>?_
         obtain ⟨y12, hy12, hm⟩ := bind_some hm
         refine wl_storeW (z' := x20) (wn rfl) rfl F S (h14.mono ((l12.trans l13).trans l14)) hy11 rfl rfl (us := [.i6 x20]) rfl ts3 (one_cons rfl one_nil) (k := 2) rfl rfl (show Rep.rep _ x20 _ from rfl) rfl ?_; clear S
         rintro c15 w h15 S; replace S : St g14 [[bx b2 #[v14] 31], [bx b1 #[.i6 z1] 3], c15] fr w := S; replace h15 : OwnS g14 y12 v14 c15 := sinj hy12 ▸ h15
         refine wpList_nil ?_
         refine inb_n ?_
         refine then_n ?_
         refine wp_region_lit ?_
         refine wE (ev_move rfl) F S rfl fun a F=>?_
         obtain ⟨z17, hz17, hm⟩ := bind_some hm
         refine wE (ev_int rfl rfl (bo_sub hz17)) F S rfl fun a F=>?_
         refine wE (ev_assign rfl) F S rfl fun a F=>?_
         refine wpList_nil ?_
         refine then_n ?_
         obtain rfl := sinj hm
         refine ⟨_, rfl, ?_⟩
         dsimp only
         exact ⟨v14, c15, g14, F.sub ⟨rfl, rfl, rfl, rfl, rfl, rfl, rfl, trivial⟩, (((l11.trans l12).trans l13).trans l14), S, h15⟩
       ·refine wp_condF F rfl hc10 ?_
        refine wp_exit ?_
        refine then_e ?_
        refine then_e ?_
        refine inb_x ?_
        refine then_n ?_
        obtain rfl := sinj hm
        obtain rfl := hfin3 _ rfl
        clear hm
        have hm : (diff_Align.j4 x12 x18 : Option (Step (Int × (List Int)) (List Int))) = some _ := hmo3
        exact ⟨x18, v14, c14, g11, F.sub ⟨rfl, rfl, rfl, rfl, rfl, rfl, trivial⟩, l11, S, h14, hm⟩
     ·clear F S hm; rintro a w ⟨x16, v13, c13, g10, F, l10, S, h13, hm⟩
      refine inb_n ?_
      refine then_n ?_
      exact ⟨x16, v13, c13, g10, F.sub ⟨rfl, rfl, rfl, rfl, rfl, rfl, trivial⟩, l10, S, h13, hm⟩
    ·clear F S hm; rintro a w ⟨x15, v12, c12, g9, F, l9, S, h12, hm⟩
     refine wp_region_lit ?_
     refine wE (ev_move rfl) F S rfl fun a F=>?_
     obtain ⟨z11, hz11, hm⟩ := bind_some hm
     refine wE (ev_int rfl rfl (bo_sub hz11)) F S rfl fun a F=>?_
     refine wE (ev_assign rfl) F S rfl fun a F=>?_
     refine wpList_nil ?_
     refine then_n ?_
     obtain rfl := sinj hm
     refine ⟨_, rfl, ?_⟩
     dsimp only
     exact ⟨v12, c12, g9, F.sub ⟨rfl, rfl, rfl, rfl, rfl, rfl, trivial⟩, (l8.trans l9), S, h12⟩
   ·refine wp_condF F rfl hc9 ?_
    refine wp_exit ?_
    refine then_e ?_
    refine then_e ?_
    refine inb_x ?_
    refine then_n ?_
    obtain rfl := sinj hm
    obtain rfl := hfin2 _ rfl
    clear hm
    have hm : (diff_Align.j1 a_ b_ z1 x13 : Option (List Int)) = some _ := hmo2
    exact ⟨x13, v11, c11, g8, F.sub ⟨rfl, rfl, rfl, trivial⟩, l8, S, h11, hm⟩
 ·clear F S hm; rintro a w ⟨x1, v2, c2, g1, F, l1, S, h2, hm⟩
  refine wp_seq ?_
  refine wp_region_lit ?_
  refine wE (ev_assign rfl) F S rfl fun a F=>?_
  refine wpList_nil ?_
  refine then_n ?_
  refine wp_cut (fun a w => ∃ (x2 : List Int) (v3 : Value) (c3 : Hl) (g2 : Gh), Fr 147 a [(11, v3)] ∧ Le g1 g2 ∧ St g2 [c3] fr w ∧ OwnS g2 x2 v3 c3 ∧ diff_Align.j2 x2 = some r) ?_ ?_
  ·refine wp_seq ?_
   refine wp_region_lit ?_
   refine wE (ev_assign rfl) F S rfl fun a F=>?_
   refine wE (ev_assign rfl) F S rfl fun a F=>?_
   refine wpList_nil ?_
   refine then_n ?_
   refine wp_block ?_
   obtain ⟨r1, hr1, hm⟩ := bind_some hm
   have hmo1 := hm; clear hm
   refine wp_iter (σ := Int × Int × (List Int)) (ρ := (List Int)) (m := fun s => diff_Align.l1 a_ b_ z1 x1 s.1 s.2.1 s.2.2) (I := fun s a w => match s with | (x3, x4, x5) => ∃ (v4 : Value) (c4 : Hl) (g3 : Gh), Fr 147 a [(13, .i6 x3), (12, .i6 x4), (11, v4), (7, .func (.func 59) #[] #[bp b2 0, bp b1 0]), (0, va_1), (1, vb_1)] ∧ Le g1 g3 ∧ St g3 [c4, [bx b2 #[v2] 31], [bx b1 #[.i6 z1] 3], c2] fr w ∧ OwnS g3 x5 v4 c4) hr1 ?_ ?_
   ·dsimp only
    replace S : St g1 [[], [bx b2 #[v2] 31], [bx b1 #[.i6 z1] 3], c2] fr w := S
    exact ⟨(nilS), [], g1, F.sub ⟨rfl, rfl, rfl, rfl, rfl, rfl, trivial⟩, (Le.refl _), S, (OwnS.nil _)⟩
   ·clear F S; rintro ⟨x3, x4, x5⟩ a w x6 ⟨v4, c4, g3, F, l3, S, h4⟩ hx1 hfin1
    have hm : diff_Align.l1 a_ b_ z1 x1 x3 x4 x5 = some x6 := hx1; clear hx1
    unfold diff_Align.l1 at hm
    refine wp_seq ?_
    refine wp_seq ?_
    refine wp_region_lit ?_
    refine wE (ev_move rfl) F S rfl fun a F=>?_
    refine wE (ev_move rfl) F S rfl fun a F=>?_
    refine wE (ev_lenSh ha_1 rfl tu22) F S rfl fun a F=>?_
    refine wE (ev_int rfl rfl (bo_lss _ _ _ _)) F S rfl fun a F=>?_
    refine wE (ev_move rfl) F S rfl fun a F=>?_
    obtain ⟨x7, hx2, hm⟩ := bind_some hm
    refine wl_cut 5 (fun a w' => w = w' ∧ Fr 147 a [(82, .bool x7), (13, .i6 x3), (12, .i6 x4), (11, v4), (7, .func (.func 59) #[] #[bp b2 0, bp b1 0]), (0, va_1), (1, vb_1)]) ?_ ?_
    ·clear hm; obtain ⟨hc1, hm⟩ | ⟨hc1, hm⟩ := ite_or hx2
     ·refine wl_skip rfl rfl rfl rfl (ne_ft hc1) F rfl rfl ?_; clear F a; intro a F
      refine wl_skip rfl rfl rfl rfl (ne_ft hc1) F rfl rfl ?_; clear F a; intro a F
      refine wl_skip rfl rfl rfl rfl (ne_ft hc1) F rfl rfl ?_; clear F a; intro a F
      refine wl_skip rfl rfl rfl rfl (ne_ft hc1) F rfl rfl ?_; clear F a; intro a F
      refine wE (ev_pickT rfl hc1 rfl) F S rfl fun a F=>?_
      obtain rfl := sinj hm
      refine wpList_nil (then_n ?_); exact ⟨rfl, F.sub ⟨rfl, rfl, rfl, rfl, rfl, rfl, rfl, trivial⟩⟩
     ·refine wl_ev (wg F rfl rfl rfl rfl hc1) (ev_move rfl) F S rfl rfl ?_; clear F a; intro a F
      refine wl_ev (wg F rfl rfl rfl rfl hc1) (ev_move rfl) F S rfl rfl ?_; clear F a; intro a F
      refine wl_ev (wg F rfl rfl rfl rfl hc1) (ev_lenSh hb_1 rfl tu22) F S rfl rfl ?_; clear F a; intro a F
      refine wl_ev (wg F rfl rfl rfl rfl hc1) (ev_int rfl rfl (bo_lss _ _ _ _)) F S rfl rfl ?_; clear F a; intro a F
      refine wE (ev_pickF rfl hc1 rfl) F S rfl fun a F=>?_
      obtain rfl := sinj hm
      refine wpList_nil (then_n ?_); exact ⟨rfl, F.sub ⟨rfl, rfl, rfl, rfl, rfl, rfl, rfl, trivial⟩⟩
    clear F; rintro a w' ⟨rfl, F⟩
    refine wpList_nil ?_
    refine then_n ?_
    obtain ⟨hc2, hm⟩ | ⟨hc2, hm⟩ := ite_or hm
    ·refine wp_condT F rfl hc2 ?_
     refine wp_skip ?_
     refine then_n ?_
     refine wp_block ?_
     refine wp_block ?_
     refine wp_seq ?_
     refine wp_quiet mo (by kernel_rfl) S ?_
     refine wq_ev (wn rfl) (ev_move rfl) F rfl rfl ?_; clear F a; intro a F
     refine wq_ev (wn rfl) (ev_move rfl) F rfl rfl ?_; clear F a; intro a F
     refine wq_ev (wn rfl) (ev_lenSh ha_1 rfl tu22) F rfl rfl ?_; clear F a; intro a F
     refine wq_ev (wn rfl) (ev_int rfl rfl (bo_lss _ _ _ _)) F rfl rfl ?_; clear F a; intro a F
     refine wq_ev (wn rfl) (ev_move rfl) F rfl rfl ?_; clear F a; intro a F
     obtain ⟨x8, hx3, hm⟩ := bind_some hm
     refine wq_cut 5 (fun a => Fr 147 a [(98, .bool x8), (13, .i6 x3), (12, .i6 x4), (11, v4), (7, .func (.func 59) #[] #[bp b2 0, bp b1 0]), (0, va_1), (1, vb_1)]) ?_ ?_
     ·clear hm; obtain ⟨hc3, hm⟩ | ⟨hc3, hm⟩ := ite_or hx3
      ·refine wq_ev (wg F rfl rfl rfl rfl hc3) (ev_move rfl) F rfl rfl ?_; clear F a; intro a F
       refine wq_ev (wg F rfl rfl rfl rfl hc3) (ev_move rfl) F rfl rfl ?_; clear F a; intro a F
       refine wq_ev (wg F rfl rfl rfl rfl hc3) (ev_lenSh hb_1 rfl tu22) F rfl rfl ?_; clear F a; intro a F
       refine wq_ev (wg F rfl rfl rfl rfl hc3) (ev_int rfl rfl (bo_lss _ _ _ _)) F rfl rfl ?_; clear F a; intro a F
       refine wq_ev (wn rfl) (ev_pickT rfl hc3 rfl) F rfl rfl ?_; clear F a; intro a F
       obtain rfl := sinj hm
       refine wq_nil ?_; exact F.sub ⟨rfl, rfl, rfl, rfl, rfl, rfl, rfl, trivial⟩
      ·refine wq_skip rfl rfl rfl rfl (ne_tf hc3) F rfl rfl ?_; clear F a; intro a F
       refine wq_skip rfl rfl rfl rfl (ne_tf hc3) F rfl rfl ?_; clear F a; intro a F
       refine wq_skip rfl rfl rfl rfl (ne_tf hc3) F rfl rfl ?_; clear F a; intro a F
       refine wq_skip rfl rfl rfl rfl (ne_tf hc3) F rfl rfl ?_; clear F a; intro a F
       refine wq_ev (wn rfl) (ev_pickF rfl hc3 rfl) F rfl rfl ?_; clear F a; intro a F
       obtain rfl := sinj hm
       refine wq_nil ?_; exact F.sub ⟨rfl, rfl, rfl, rfl, rfl, rfl, rfl, trivial⟩
     clear F; intro a F
     refine wq_ev (wn rfl) (ev_move rfl) F rfl rfl ?_; clear F a; intro a F
     obtain ⟨x9, hx4, hm⟩ := bind_some hm
     refine wq_cut 10 (fun a => Fr 147 a [(109, .bool x9), (13, .i6 x3), (12, .i6 x4), (11, v4), (7, .func (.func 59) #[] #[bp b2 0, bp b1 0]), (0, va_1), (1, vb_1)]) ?_ ?_
     ·clear hm; obtain ⟨hc4, hm⟩ | ⟨hc4, hm⟩ := ite_or hx4
      ·refine wq_ev (wg F rfl rfl rfl rfl hc4) (ev_move rfl) F rfl rfl ?_; clear F a; intro a F
       refine wq_ev (wg F rfl rfl rfl rfl hc4) (ev_move rfl) F rfl rfl ?_; clear F a; intro a F
       obtain ⟨y2, hy2, hm⟩ := bind_some hm
       obtain ⟨cs1, hr2, hp1⟩ := elemS (ha_1.mono (l1.trans l3)) hy2
       obtain rfl := rep_str hr2
       refine wq_ev (wg F rfl rfl rfl rfl hc4) (ev_idxS (ha_1.mono (l1.trans l3)) hy2 tu22 ts9 rfl rfl) F rfl rfl ?_; clear F a; intro a F
       refine wq_ev (wg F rfl rfl rfl rfl hc4) (ev_load1 tu9 rfl rfl (ptr_mono (cks := [c4, [bx b2 #[v2] 31], [bx b1 #[.i6 z1] 3], c2]) (fr := fr) hp1 (Le.refl _))) F rfl rfl ?_; clear F a; intro a F
       refine wq_ev (wg F rfl rfl rfl rfl hc4) (ev_move rfl) F rfl rfl ?_; clear F a; intro a F
       refine wq_ev (wg F rfl rfl rfl rfl hc4) (ev_move rfl) F rfl rfl ?_; clear F a; intro a F
       obtain ⟨y3, hy3, hm⟩ := bind_some hm
       obtain ⟨cs2, hr3, hp2⟩ := elemS (hb_1.mono (l1.trans l3)) hy3
       obtain rfl := rep_str hr3
       refine wq_ev (wg F rfl rfl rfl rfl hc4) (ev_idxS (hb_1.mono (l1.trans l3)) hy3 tu22 ts9 rfl rfl) F rfl rfl ?_; clear F a; intro a F
       refine wq_ev (wg F rfl rfl rfl rfl hc4) (ev_load1 tu9 rfl rfl (ptr_mono (cks := [c4, [bx b2 #[v2] 31], [bx b1 #[.i6 z1] 3], c2]) (fr := fr) hp2 (Le.refl _))) F rfl rfl ?_; clear F a; intro a F
       refine wq_ev (wg F rfl rfl rfl rfl hc4) (ev_str rfl rfl (bs_eql _ _ _)) F rfl rfl ?_; clear F a; intro a F
       refine wq_ev (wn rfl) (ev_pickT rfl hc4 rfl) F rfl rfl ?_; clear F a; intro a F
       obtain rfl := sinj hm
       refine wq_nil ?_; exact F.sub ⟨rfl, rfl, rfl, rfl, rfl, rfl, rfl, trivial⟩
      ·refine wq_skip rfl rfl rfl rfl (ne_tf hc4) F rfl rfl ?_; clear F a; intro a F
       refine wq_skip rfl rfl rfl rfl (ne_tf hc4) F rfl rfl ?_; clear F a; intro a F
       refine wq_skip rfl rfl rfl rfl (ne_tf hc4) F rfl rfl ?_; clear F a; intro a F
       refine wq_skip rfl rfl rfl rfl (ne_tf hc4) F rfl rfl ?_; clear F a; intro a F
       refine wq_skip rfl rfl rfl rfl (ne_tf hc4) F rfl rfl ?_; clear F a; intro a F
       refine wq_skip rfl rfl rfl rfl (ne_tf hc4) F rfl rfl ?_; clear F a; intro a F
       refine wq_skip rfl rfl rfl rfl (ne_tf hc4) F rfl rfl ?_; clear F a; intro a F
       refine wq_skip rfl rfl rfl rfl (ne_tf hc4) F rfl rfl ?_; clear F a; intro a F
       refine wq_skip rfl rfl rfl rfl (ne_tf hc4) F rfl rfl ?_; clear F a; intro a F
       refine wq_ev (wn rfl) (ev_pickF rfl hc4 rfl) F rfl rfl ?_; clear F a; intro a F
       obtain rfl := sinj hm
       refine wq_nil ?_; exact F.sub ⟨rfl, rfl, rfl, rfl, rfl, rfl, rfl, trivial⟩
     clear F; intro a F
     refine wq_ev (wn rfl) (ev_assign rfl) F rfl rfl ?_; clear F a; intro a F
     refine wq_nil ?_; clear S; intro w S
     refine then_n ?_
     obtain ⟨hc5, hm⟩ | ⟨hc5, hm⟩ := ite_or hm
     ·refine wp_condT F rfl hc5 ?_
      refine wp_seq ?_
      refine wp_region_lit ?_
      refine wE (ev_move rfl) F S rfl fun a F=>?_
      refine wl_lit (l := ([0] : List Int)) (vs := [.i6 0]) (parts := [(0, .const (.i6 0))]) (wn rfl) rfl rfl rfl tu31 te3 (sz_cons rfl sz_nil) rfl (Cat.cons (show Rep.rep _ 0 _ from rfl) (Cat.nil _)) (coa_cons rfl coa_nil) rfl F S rfl rfl ?_; clear F a S
      rintro v5 c5 a w h5 F S
      obtain ⟨cs3, hk1, hr4⟩ := OwnS.reads h5
      obtain ⟨y4, hy4, hm⟩ := bind_some hm
      refine wl_append (wn rfl) rfl tu31 tu31 te3 (by decide) (by decide) F S rfl rfl (k := 1) rfl h4 hk1 rfl (hr4 _ _ _ 0 rfl S) hy4 rfl rfl ?_; clear F a S
      rintro v6 c6 a w h6 S F; replace S : St g3 [c5, c6, [bx b2 #[v2] 31], [bx b1 #[.i6 z1] 3], c2] fr w := S
      refine wE (ev_assign rfl) F S rfl fun a F=>?_
      refine wpList_nil ?_
      refine then_n ?_
      refine wp_region_lit ?_
      refine wE (ev_move rfl) F S rfl fun a F=>?_
      obtain ⟨z4, hz4, hm⟩ := bind_some hm
      refine wE (ev_int rfl rfl (bo_add hz4)) F S rfl fun a F=>?_
      refine wE (ev_move rfl) F S rfl fun a F=>?_
      obtain ⟨z5, hz5, hm⟩ := bind_some hm
      refine wE (ev_int rfl rfl (bo_add hz5)) F S rfl fun a F=>?_
      refine wE (ev_assign rfl) F S rfl fun a F=>?_
      refine wE (ev_assign rfl) F S rfl fun a F=>?_
      refine wpList_nil ?_
      refine inb_n ?_
      refine inb_n ?_
      refine then_n ?_
      obtain rfl := sinj hm
      refine ⟨_, rfl, ?_⟩
      dsimp only
      replace S : St g3 [c6, [bx b2 #[v2] 31], [bx b1 #[.i6 z1] 3], c2] fr w := St.tail [c6, [bx b2 #[v2] 31], [bx b1 #[.i6 z1] 3], c2] _ ((((S.frontC 4 rfl).frontC 4 rfl).frontC 4 rfl).frontC 4 rfl)
      exact ⟨v6, c6, g3, F.sub ⟨rfl, rfl, rfl, rfl, rfl, rfl, trivial⟩, l3, S, h6⟩
     ·refine wp_condF F rfl hc5 ?_
      refine wp_seq ?_
      refine wp_region_lit ?_
      refine wE (ev_move rfl) F S rfl fun a F=>?_
      refine wE (ev_move rfl) F S rfl fun a F=>?_
      refine wE (ev_lenSh hb_1 rfl tu22) F S rfl fun a F=>?_
      refine wE (ev_int rfl rfl (bo_eql _ _ _ _)) F S rfl fun a F=>?_
      refine wE (ev_move rfl) F S rfl fun a F=>?_
      obtain ⟨x10, hx5, hm⟩ := bind_some hm
      refine wl_cut 18 (fun a w => ∃ g4, Fr 147 a [(140, .bool x10), (13, .i6 x3), (12, .i6 x4), (11, v4), (7, .func (.func 59) #[] #[bp b2 0, bp b1 0]), (0, va_1), (1, vb_1)] ∧ Le g3 g4 ∧ St g4 [c4, [bx b2 #[v2] 31], [bx b1 #[.i6 z1] 3], c2] fr w) ?_ ?_
      ·clear hm; obtain ⟨hc6, hm⟩ | ⟨hc6, hm⟩ := ite_or hx5
       ·refine wl_skip rfl rfl rfl rfl (ne_ft hc6) F rfl rfl ?_; clear F a; intro a F
        refine wl_skip rfl rfl rfl rfl (ne_ft hc6) F rfl rfl ?_; clear F a; intro a F
        refine wl_skip rfl rfl rfl rfl (ne_ft hc6) F rfl rfl ?_; clear F a; intro a F
        refine wl_skip rfl rfl rfl rfl (ne_ft hc6) F rfl rfl ?_; clear F a; intro a F
        refine wl_skip rfl rfl rfl rfl (ne_ft hc6) F rfl rfl ?_; clear F a; intro a F
        refine wl_skipu rfl rfl rfl rfl F rfl rfl ?_; clear F a; intro a F
        refine wl_skipu rfl rfl rfl rfl F rfl rfl ?_; clear F a; intro a F
        refine wl_skipu rfl rfl rfl rfl F rfl rfl ?_; clear F a; intro a F
        refine wl_skipu rfl rfl rfl rfl F rfl rfl ?_; clear F a; intro a F
        refine wl_skipu rfl rfl rfl rfl F rfl rfl ?_; clear F a; intro a F
        refine wl_skipu rfl rfl rfl rfl F rfl rfl ?_; clear F a; intro a F
        refine wl_skipu rfl rfl rfl rfl F rfl rfl ?_; clear F a; intro a F
        refine wl_skipu rfl rfl rfl rfl F rfl rfl ?_; clear F a; intro a F
        refine wl_skipu rfl rfl rfl rfl F rfl rfl ?_; clear F a; intro a F
        refine wl_skipu rfl rfl rfl rfl F rfl rfl ?_; clear F a; intro a F
        refine wl_skipu rfl rfl rfl rfl F rfl rfl ?_; clear F a; intro a F
        refine wl_skip rfl rfl rfl rfl (ne_ft hc6) F rfl rfl ?_; clear F a; intro a F
        refine wE (ev_pickT rfl hc6 rfl) F S rfl fun a F=>?_
        obtain rfl := sinj hm
        refine wpList_nil (then_n ?_); exact ⟨g3, F.sub ⟨rfl, rfl, rfl, rfl, rfl, rfl, rfl, trivial⟩, (Le.refl _), S⟩
       ·refine wl_ev (wg F rfl rfl rfl rfl hc6) (ev_move rfl) F S rfl rfl ?_; clear F a; intro a F
        refine wl_ev (wg F rfl rfl rfl rfl hc6) (ev_move rfl) F S rfl rfl ?_; clear F a; intro a F
        refine wl_ev (wg F rfl rfl rfl rfl hc6) (ev_lenSh ha_1 rfl tu22) F S rfl rfl ?_; clear F a; intro a F
        refine wl_ev (wg F rfl rfl rfl rfl hc6) (ev_int rfl rfl (bo_lss _ _ _ _)) F S rfl rfl ?_; clear F a; intro a F
        refine wl_ev (wg F rfl rfl rfl rfl hc6) (ev_move rfl) F S rfl rfl ?_; clear F a; intro a F
        obtain ⟨x11, hx6, hm⟩ := bind_some hm
        refine wl_cut 12 (fun a w => ∃ g5, Fr 147 a [(139, .bool x11), (127, .bool (decide (x4 < (a_.length : Int)))), (126, .bool (decide (x4 < (a_.length : Int)))), (125, .i6 (a_.length : Int)), (124, va_1), (123, .i6 x4), (122, .bool (decide (x3 = (b_.length : Int)))), (13, .i6 x3), (12, .i6 x4), (11, v4), (7, .func (.func 59) #[] #[bp b2 0, bp b1 0]), (0, va_1), (1, vb_1)] ∧ Le g3 g5 ∧ St g5 [c4, [bx b2 #[v2] 31], [bx b1 #[.i6 z1] 3], c2] fr w) ?_ ?_
        ·clear hm; obtain ⟨hc7, hm⟩ | ⟨hc7, hm⟩ := ite_or hx6
         ·refine wl_ev (wg F rfl rfl rfl rfl hc7) (ev_move rfl) F S rfl rfl ?_; clear F a; intro a F
          refine wl_ev (wg F rfl rfl rfl rfl hc7) (ev_move rfl) F S rfl rfl ?_; clear F a; intro a F
          obtain ⟨z6, hz6, hm⟩ := bind_some hm
          refine wl_ev (wg F rfl rfl rfl rfl hc7) (ev_int rfl rfl (bo_add hz6)) F S rfl rfl ?_; clear F a; intro a F
          refine wl_ev (wg F rfl rfl rfl rfl hc7) (ev_move rfl) F S rfl rfl ?_; clear F a; intro a F
          replace S : St g3 [[bx b2 #[v2] 31], c2, [bx b1 #[.i6 z1] 3], c4] fr w := ((((S.frontC 0 rfl).frontC 3 rfl).frontC 5 rfl).frontC 4 rfl)
          obtain ⟨y5, hy5, hm⟩ := bind_some hm
          refine wl_call (wg F rfl rfl rfl rfl hc7) rfl (xs := [.tmp 130, .tmp 131]) (vs := [.i6 z6, .i6 x3]) (cap := [bp b2 0, bp b1 0]) F rfl rfl tc59 (diff_Align_s1_ok (g := g3) (fr := (fl [c4] fr)) (w := w) z6 x3 b2 x1 v2 c2 (h2.mono l3) b1 z1 S hy5) rfl rfl ?_; clear F a S
          rintro _ a w ⟨g6, l6, S, rfl⟩ F; replace S : St g6 [[bx b2 #[v2] 31], c2, [bx b1 #[.i6 z1] 3], c4] fr w := S
          refine wl_ev (wg F rfl rfl rfl rfl hc7) (ev_move rfl) F S rfl rfl ?_; clear F a; intro a F
          refine wl_ev (wg F rfl rfl rfl rfl hc7) (ev_move rfl) F S rfl rfl ?_; clear F a; intro a F
          refine wl_ev (wg F rfl rfl rfl rfl hc7) (ev_move rfl) F S rfl rfl ?_; clear F a; intro a F
          obtain ⟨z7, hz7, hm⟩ := bind_some hm
          refine wl_ev (wg F rfl rfl rfl rfl hc7) (ev_int rfl rfl (bo_add hz7)) F S rfl rfl ?_; clear F a; intro a F
          obtain ⟨y6, hy6, hm⟩ := bind_some hm
          refine wl_call (wg F rfl rfl rfl rfl hc7) rfl (xs := [.tmp 134, .tmp 136]) (vs := [.i6 x4, .i6 z7]) (cap := [bp b2 0, bp b1 0]) F rfl rfl tc59 (diff_Align_s1_ok (g := g6) (fr := (fl [c4] fr)) (w := w) x4 z7 b2 x1 v2 c2 (h2.mono (l3.trans l6)) b1 z1 S hy6) rfl rfl ?_; clear F a S
          rintro _ a w ⟨g7, l7, S, rfl⟩ F; replace S : St g7 [[bx b2 #[v2] 31], c2, [bx b1 #[.i6 z1] 3], c4] fr w := S
          refine wl_ev (wg F rfl rfl rfl rfl hc7) (ev_int rfl rfl (bo_geq _ _ _ _)) F S rfl rfl ?_; clear F a; intro a F
          refine wl_ev (wg F rfl rfl rfl rfl hc6) (ev_pickT rfl hc7 rfl) F S rfl rfl ?_; clear F a; intro a F
          obtain rfl := sinj hm
          replace S : St g7 [c4, [bx b2 #[v2] 31], [bx b1 #[.i6 z1] 3], c2] fr w := St.tail [c4, [bx b2 #[v2] 31], [bx b1 #[.i6 z1] 3], c2] _ ((((S.frontC 1 rfl).frontC 3 rfl).frontC 2 rfl).frontC 6 rfl)
          refine wpList_nil (then_n ?_); exact ⟨g7, F.sub ⟨rfl, rfl, rfl, rfl, rfl, rfl, rfl, rfl, rfl, rfl, rfl, rfl, rfl, trivial⟩, (l6.trans l7), S⟩
         ·refine wl_skip rfl rfl rfl rfl (ne_tf hc7) F rfl rfl ?_; clear F a; intro a F
          refine wl_skip rfl rfl rfl rfl (ne_tf hc7) F rfl rfl ?_; clear F a; intro a F
          refine wl_skip rfl rfl rfl rfl (ne_tf hc7) F rfl rfl ?_; clear F a; intro a F
          refine wl_skip rfl rfl rfl rfl (ne_tf hc7) F rfl rfl ?_; clear F a; intro a F
          refine wl_skip rfl rfl rfl rfl (ne_tf hc7) F rfl rfl ?_; clear F a; intro a F
          refine wl_skip rfl rfl rfl rfl (ne_tf hc7) F rfl rfl ?_; clear F a; intro a F
          refine wl_skip rfl rfl rfl rfl (ne_tf hc7) F rfl rfl ?_; clear F a; intro a F
          refine wl_skip rfl rfl rfl rfl (ne_tf hc7) F rfl rfl ?_; clear F a; intro a F
          refine wl_skip rfl rfl rfl rfl (ne_tf hc7) F rfl rfl ?_; clear F a; intro a F
          refine wl_skip rfl rfl rfl rfl (ne_tf hc7) F rfl rfl ?_; clear F a; intro a F
          refine wl_skip rfl rfl rfl rfl (ne_tf hc7) F rfl rfl ?_; clear F a; intro a F
          refine wl_ev (wg F rfl rfl rfl rfl hc6) (ev_pickF rfl hc7 rfl) F S rfl rfl ?_; clear F a; intro a F
          obtain rfl := sinj hm
          refine wpList_nil (then_n ?_); exact ⟨g3, F.sub ⟨rfl, rfl, rfl, rfl, rfl, rfl, rfl, rfl, rfl, rfl, rfl, rfl, rfl, trivial⟩, (Le.refl _), S⟩
        clear F S; rintro a w ⟨g5, F, l5, S⟩
        refine wE (ev_pickF rfl hc6 rfl) F S rfl fun a F=>?_
        obtain rfl := sinj hm
        refine wpList_nil (then_n ?_); exact ⟨g5, F.sub ⟨rfl, rfl, rfl, rfl, rfl, rfl, rfl, trivial⟩, l5, S⟩
      clear F S; rintro a w ⟨g4, F, l4, S⟩
      refine wE (ev_assign rfl) F S rfl fun a F=>?_
      refine wpList_nil ?_
      refine then_n ?_
      obtain ⟨hc8, hm⟩ | ⟨hc8, hm⟩ := ite_or hm
      ·refine wp_condT F rfl hc8 ?_
       refine wp_seq ?_
       refine wp_region_lit ?_
       refine wE (ev_move rfl) F S rfl fun a F=>?_
       refine wl_lit (l := ([1] : List Int)) (vs := [.i6 1]) (parts := [(0, .const (.i6 1))]) (wn rfl) rfl rfl rfl tu31 te3 (sz_cons rfl sz_nil) rfl (Cat.cons (show Rep.rep _ 1 _ from rfl) (Cat.nil _)) (coa_cons rfl coa_nil) rfl F S rfl rfl ?_; clear F a S
       rintro v7 c7 a w h7 F S
       obtain ⟨cs4, hk2, hr5⟩ := OwnS.reads h7
       obtain ⟨y7, hy7, hm⟩ := bind_some hm
       refine wl_append (wn rfl) rfl tu31 tu31 te3 (by decide) (by decide) F S rfl rfl (k := 1) rfl (h4.mono l4) hk2 rfl (hr5 _ _ _ 0 rfl S) hy7 rfl rfl ?_; clear F a S
       rintro v8 c8 a w h8 S F; replace S : St g4 [c7, c8, [bx b2 #[v2] 31], [bx b1 #[.i6 z1] 3], c2] fr w := S
       refine wE (ev_assign rfl) F S rfl fun a F=>?_
       refine wpList_nil ?_
       refine then_n ?_
       refine wp_region_lit ?_
       refine wE (ev_move rfl) F S rfl fun a F=>?_
       obtain ⟨z8, hz8, hm⟩ := bind_some hm
       refine wE (ev_int rfl rfl (bo_add hz8)) F S rfl fun a F=>?_
       refine wE (ev_assign rfl) F S rfl fun a F=>?_
       refine wpList_nil ?_
       refine inb_n ?_
       refine inb_n ?_
       refine then_n ?_
       obtain rfl := sinj hm
       refine ⟨_, rfl, ?_⟩
       dsimp only
       replace S : St g4 [c8, [bx b2 #[v2] 31], [bx b1 #[.i6 z1] 3], c2] fr w := St.tail [c8, [bx b2 #[v2] 31], [bx b1 #[.i6 z1] 3], c2] _ ((((S.frontC 4 rfl).frontC 4 rfl).frontC 4 rfl).frontC 4 rfl)
       exact ⟨v8, c8, g4, F.sub ⟨rfl, rfl, rfl, rfl, rfl, rfl, trivial⟩, (l3.trans l4), S, h8⟩
      ·refine wp_condF F rfl hc8 ?_
       refine wp_seq ?_
       refine wp_region_lit ?_
       refine wE (ev_move rfl) F S rfl fun a F=>?_
       refine wl_lit (l := ([2] : List Int)) (vs := [.i6 2]) (parts := [(0, .const (.i6 2))]) (wn rfl) rfl rfl rfl tu31 te3 (sz_cons rfl sz_nil) rfl (Cat.cons (show Rep.rep _ 2 _ from rfl) (Cat.nil _)) (coa_cons rfl coa_nil) rfl F S rfl rfl ?_; clear F a S
       rintro v9 c9 a w h9 F S
       obtain ⟨cs5, hk3, hr6⟩ := OwnS.reads h9
       obtain ⟨y8, hy8, hm⟩ := bind_some hm
       refine wl_append (wn rfl) rfl tu31 tu31 te3 (by decide) (by decide) F S rfl rfl (k := 1) rfl (h4.mono l4) hk3 rfl (hr6 _ _ _ 0 rfl S) hy8 rfl rfl ?_; clear F a S
       rintro v10 c10 a w h10 S F; replace S : St g4 [c9, c10, [bx b2 #[v2] 31], [bx b1 #[.i6 z1] 3], c2] fr w := S
       refine wE (ev_assign rfl) F S rfl fun a F=>?_
       refine wpList_nil ?_
       refine then_n ?_
       refine wp_region_lit ?_
       refine wE (ev_move rfl) F S rfl fun a F=>?_
       obtain ⟨z9, hz9, hm⟩ := bind_some hm
       refine wE (ev_int rfl rfl (bo_add hz9)) F S rfl fun a F=>?_
       refine wE (ev_assign rfl) F S rfl fun a F=>?_
       refine wpList_nil ?_
       refine inb_n ?_
       refine inb_n ?_
       refine then_n ?_
       obtain rfl := sinj hm
       refine ⟨_, rfl, ?_⟩
       dsimp only
       replace S : St g4 [c10, [bx b2 #[v2] 31], [bx b1 #[.i6 z1] 3], c2] fr w := St.tail [c10, [bx b2 #[v2] 31], [bx b1 #[.i6 z1] 3], c2] _ ((((S.frontC 4 rfl).frontC 4 rfl).frontC 4 rfl).frontC 4 rfl)
       exact ⟨v10, c10, g4, F.sub ⟨rfl, rfl, rfl, rfl, rfl, rfl, trivial⟩, (l3.trans l4), S, h10⟩
    ·refine wp_condF F rfl hc2 ?_
     refine wp_exit ?_
     refine then_e ?_
     refine then_e ?_
     refine inb_x ?_
     refine then_n ?_
     obtain rfl := sinj hm
     obtain rfl := hfin1 _ rfl
     clear hm
     have hm : (diff_Align.j2 x5 : Option (List Int)) = some _ := hmo1
     replace S : St g3 [c4] fr w := St.tail [c4] _ (S.frontC 0 rfl)
     exact ⟨x5, v4, c4, g3, F.sub ⟨rfl, trivial⟩, l3, S, h4, hm⟩
  ·clear F S hm; rintro a w ⟨x2, v3, c3, g2, F, l2, S, h3, hm⟩
   refine wp_seq ?_
   refine wp_region_lit ?_
   refine wE (ev_move rfl) F S rfl fun a F=>?_
   refine wE (ev_assign rfl) F S rfl fun a F=>?_
   refine wpList_nil ?_
   refine then_n ?_
   refine wp_ret ?_
   obtain rfl := sinj hm
   refine post_r _ F rfl (ar_cons (resT rfl) ar_nil) ?_
   exact ⟨_, rfl, g2, v3, c3, (l1.trans l2), S, h3, rfl⟩

theorem stringslite_Index_ok {g : Gh} {fr : Hl} {w : World} {r : Int} (s_ : ByteArray) (S : St g [] fr w) (hm : stringslite_Index s_ = some r) :
  Calls Tryd.prog 141 [.string s_, .string (⟨#[47]⟩ : ByteArray)].toArray w (fun en w' => ∃ v, en = .returned v ∧ ∃ (g' : Gh), Le g g' ∧ St g' [] fr w' ∧ .i6 r = v) := by
 unfold stringslite_Index at hm
 refine calls_enter (fn := Tryd.f141) Tryd.func141 rfl Tryd.ntmps141 (lb rfl) ?_
 intro a F
 replace F : Fr 143 a [(0, .string s_), (1, .string (⟨#[47]⟩ : ByteArray))] := F
 refine wp_seq ?_
 refine wp_region_lit ?_
 refine wE (ev_assign rfl) F S rfl fun a F=>?_
 refine wpList_nil ?_
 refine then_n ?_
 refine wp_seq ?_
 refine wp_region_lit ?_
 refine wE (ev_move rfl) F S rfl fun a F=>?_
 refine wE (ev_lenS rfl tu9) F S rfl fun a F=>?_
 refine wE (ev_assign rfl) F S rfl fun a F=>?_
 refine wpList_nil ?_
 refine then_n ?_
 refine wp_seq ?_
 refine wp_block ?_
 refine wp_seq ?_
 refine wp_region_lit ?_
 refine wE (ev_move rfl) F S rfl fun a F=>?_
 refine wE (ev_int rfl rfl (bo_eql _ _ _ _)) F S rfl fun a F=>?_
 refine wE (ev_move rfl) F S rfl fun a F=>?_
 refine wl_ev (wg F rfl rfl rfl rfl rfl) (ev_move rfl) F S rfl rfl ?_; clear F a; intro a F
 refine wl_ev (wg F rfl rfl rfl rfl rfl) (ev_move rfl) F S rfl rfl ?_; clear F a; intro a F
 refine wl_ev (wg F rfl rfl rfl rfl rfl) (ev_str rfl rfl (bs_eql _ _ _)) F S rfl rfl ?_; clear F a; intro a F
 refine wE (ev_pickF rfl rfl rfl) F S rfl fun a F=>?_
 refine wE (ev_assign rfl) F S rfl fun a F=>?_
 refine wpList_nil ?_
 refine then_n ?_
 obtain ⟨hc1, hm⟩ | ⟨hc1, hm⟩ := ite_or hm
 ·refine wp_condT F rfl hc1 ?_
  refine wp_seq ?_
  refine wp_region_lit ?_
  refine wE (ev_assign rfl) F S rfl fun a F=>?_
  refine wpList_nil ?_
  refine then_n ?_
  refine wp_ret ?_
  refine inb_r ?_
  refine then_r ?_
  obtain rfl := sinj hm
  refine post_r _ F rfl (ar_cons (resT rfl) ar_nil) ?_
  exact ⟨_, rfl, g, (Le.refl _), S, rfl⟩
 ·refine wp_condF F rfl hc1 ?_
  refine wp_seq ?_
  refine wp_region_lit ?_
  refine wE (ev_move rfl) F S rfl fun a F=>?_
  refine wE (ev_int rfl rfl (bo_eql _ _ _ _)) F S rfl fun a F=>?_
  refine wE (ev_assign rfl) F S rfl fun a F=>?_
  refine wpList_nil ?_
  refine then_n ?_
  refine wp_condT F rfl rfl ?_
  refine wp_seq ?_
  refine wp_region_lit ?_
  refine wE (ev_move rfl) F S rfl fun a F=>?_
  refine wE (ev_move rfl) F S rfl fun a F=>?_
  obtain ⟨y1, hy1, hm⟩ := bind_some hm
  refine wE (ev_sAt hy1 tu9 rfl rfl) F S rfl fun a F=>?_
  obtain ⟨y2, hy2, hm⟩ := bind_some hm
  refine wl_call0 (wn rfl) rfl F rfl (stringslite_IndexByte_ok s_ y1 S hy2) rfl tc104 rfl rfl ?_; clear F a S
  rintro _ a w ⟨g1, l1, S, rfl⟩ F; replace S : St g1 [] fr w := S
  refine wE (ev_assign rfl) F S rfl fun a F=>?_
  refine wpList_nil ?_
  refine then_n ?_
  refine wp_ret ?_
  refine inb_r ?_
  refine then_r ?_
  obtain rfl := sinj hm
  refine post_r _ F rfl (ar_cons (resT rfl) ar_nil) ?_
  exact ⟨_, rfl, g1, l1, S, rfl⟩

theorem strings_Index_ok {g : Gh} {fr : Hl} {w : World} {r : Int} (s_ : ByteArray) (S : St g [] fr w) (hm : strings_Index s_ = some r) :
  Calls Tryd.prog 133 [.string s_, .string (⟨#[47]⟩ : ByteArray)].toArray w (fun en w' => ∃ v, en = .returned v ∧ ∃ (g' : Gh), Le g g' ∧ St g' [] fr w' ∧ .i6 r = v) := by
 unfold strings_Index at hm
 refine calls_enter (fn := Tryd.f133) Tryd.func133 rfl Tryd.ntmps133 (lb rfl) ?_
 intro a F
 replace F : Fr 8 a [(0, .string s_), (1, .string (⟨#[47]⟩ : ByteArray))] := F
 refine wp_seq ?_
 refine wp_region_lit ?_
 refine wE (ev_assign rfl) F S rfl fun a F=>?_
 refine wpList_nil ?_
 refine then_n ?_
 refine wp_seq ?_
 refine wp_region_lit ?_
 refine wE (ev_move rfl) F S rfl fun a F=>?_
 refine wE (ev_move rfl) F S rfl fun a F=>?_
 obtain ⟨y1, hy1, hm⟩ := bind_some hm
 refine wl_call0 (wn rfl) rfl F rfl (stringslite_Index_ok s_ S hy1) rfl tc141 rfl rfl ?_; clear F a S
 rintro _ a w ⟨g1, l1, S, rfl⟩ F; replace S : St g1 [] fr w := S
 refine wE (ev_assign rfl) F S rfl fun a F=>?_
 refine wpList_nil ?_
 refine then_n ?_
 refine wp_ret ?_
 obtain rfl := sinj hm
 refine post_r _ F rfl (ar_cons (resT rfl) ar_nil) ?_
 exact ⟨_, rfl, g1, l1, S, rfl⟩

theorem treepatch_Letter_ok {g : Gh} {fr : Hl} {w : World} {r : Bool} (c_ : Int) (S : St g [] fr w) (hm : treepatch_Letter c_ = some r) :
  Calls Tryd.prog 80 [.int .u8 c_].toArray w (fun en w' => ∃ v, en = .returned v ∧ ∃ (g' : Gh), Le g g' ∧ St g' [] fr w' ∧ .bool r = v) := by
 unfold treepatch_Letter at hm
 refine calls_enter (fn := Tryd.f80) Tryd.func80 rfl Tryd.ntmps80 (lb rfl) ?_
 intro a F
 replace F : Fr 37 a [(0, .int .u8 c_)] := F
 refine wp_seq ?_
 refine wp_region_lit ?_
 refine wE (ev_assign rfl) F S rfl fun a F=>?_
 refine wpList_nil ?_
 refine then_n ?_
 refine wp_seq ?_
 refine wp_region_lit ?_
 refine wE (ev_move rfl) F S rfl fun a F=>?_
 refine wE (ev_int rfl rfl (bo_geq _ _ _ _)) F S rfl fun a F=>?_
 refine wE (ev_move rfl) F S rfl fun a F=>?_
 obtain ⟨x1, hx1, hm⟩ := bind_some hm
 refine wl_cut 3 (fun a w' => w = w' ∧ Fr 37 a [(8, .bool x1), (2, .bool false), (0, .int .u8 c_)]) ?_ ?_
 ·clear hm; obtain ⟨hc1, hm⟩ | ⟨hc1, hm⟩ := ite_or hx1
  ·refine wl_ev (wg F rfl rfl rfl rfl hc1) (ev_move rfl) F S rfl rfl ?_; clear F a; intro a F
   refine wl_ev (wg F rfl rfl rfl rfl hc1) (ev_int rfl rfl (bo_leq _ _ _ _)) F S rfl rfl ?_; clear F a; intro a F
   refine wE (ev_pickT rfl hc1 rfl) F S rfl fun a F=>?_
   obtain rfl := sinj hm
   refine wpList_nil (then_n ?_); exact ⟨rfl, F.sub ⟨rfl, rfl, rfl, trivial⟩⟩
  ·refine wl_skip rfl rfl rfl rfl (ne_tf hc1) F rfl rfl ?_; clear F a; intro a F
   refine wl_skip rfl rfl rfl rfl (ne_tf hc1) F rfl rfl ?_; clear F a; intro a F
   refine wE (ev_pickF rfl hc1 rfl) F S rfl fun a F=>?_
   obtain rfl := sinj hm
   refine wpList_nil (then_n ?_); exact ⟨rfl, F.sub ⟨rfl, rfl, rfl, trivial⟩⟩
 clear F; rintro a w' ⟨rfl, F⟩
 refine wE (ev_move rfl) F S rfl fun a F=>?_
 obtain ⟨x2, hx2, hm⟩ := bind_some hm
 refine wl_cut 7 (fun a w' => w = w' ∧ Fr 37 a [(16, .bool x2), (2, .bool false), (0, .int .u8 c_)]) ?_ ?_
 ·clear hm; obtain ⟨hc2, hm⟩ | ⟨hc2, hm⟩ := ite_or hx2
  ·refine wl_skip rfl rfl rfl rfl (ne_ft hc2) F rfl rfl ?_; clear F a; intro a F
   refine wl_skip rfl rfl rfl rfl (ne_ft hc2) F rfl rfl ?_; clear F a; intro a F
   refine wl_skip rfl rfl rfl rfl (ne_ft hc2) F rfl rfl ?_; clear F a; intro a F
   refine wl_skipu rfl rfl rfl rfl F rfl rfl ?_; clear F a; intro a F
   refine wl_skipu rfl rfl rfl rfl F rfl rfl ?_; clear F a; intro a F
   refine wl_skip rfl rfl rfl rfl (ne_ft hc2) F rfl rfl ?_; clear F a; intro a F
   refine wE (ev_pickT rfl hc2 rfl) F S rfl fun a F=>?_
   obtain rfl := sinj hm
   refine wpList_nil (then_n ?_); exact ⟨rfl, F.sub ⟨rfl, rfl, rfl, trivial⟩⟩
  ·refine wl_ev (wg F rfl rfl rfl rfl hc2) (ev_move rfl) F S rfl rfl ?_; clear F a; intro a F
   refine wl_ev (wg F rfl rfl rfl rfl hc2) (ev_int rfl rfl (bo_geq _ _ _ _)) F S rfl rfl ?_; clear F a; intro a F
   refine wl_ev (wg F rfl rfl rfl rfl hc2) (ev_move rfl) F S rfl rfl ?_; clear F a; intro a F
   obtain ⟨x3, hx3, hm⟩ := bind_some hm
   refine wl_cut 3 (fun a w' => w = w' ∧ Fr 37 a [(15, .bool x3), (9, .bool x1), (2, .bool false), (0, .int .u8 c_)]) ?_ ?_
   ·clear hm; obtain ⟨hc3, hm⟩ | ⟨hc3, hm⟩ := ite_or hx3
    ·refine wl_ev (wg F rfl rfl rfl rfl hc3) (ev_move rfl) F S rfl rfl ?_; clear F a; intro a F
     refine wl_ev (wg F rfl rfl rfl rfl hc3) (ev_int rfl rfl (bo_leq _ _ _ _)) F S rfl rfl ?_; clear F a; intro a F
     refine wl_ev (wg F rfl rfl rfl rfl hc2) (ev_pickT rfl hc3 rfl) F S rfl rfl ?_; clear F a; intro a F
     obtain rfl := sinj hm
     refine wpList_nil (then_n ?_); exact ⟨rfl, F.sub ⟨rfl, rfl, rfl, rfl, trivial⟩⟩
    ·refine wl_skip rfl rfl rfl rfl (ne_tf hc3) F rfl rfl ?_; clear F a; intro a F
     refine wl_skip rfl rfl rfl rfl (ne_tf hc3) F rfl rfl ?_; clear F a; intro a F
     refine wl_ev (wg F rfl rfl rfl rfl hc2) (ev_pickF rfl hc3 rfl) F S rfl rfl ?_; clear F a; intro a F
     obtain rfl := sinj hm
     refine wpList_nil (then_n ?_); exact ⟨rfl, F.sub ⟨rfl, rfl, rfl, rfl, trivial⟩⟩
   clear F; rintro a w' ⟨rfl, F⟩
   refine wE (ev_pickF rfl hc2 rfl) F S rfl fun a F=>?_
   obtain rfl := sinj hm
   refine wpList_nil (then_n ?_); exact ⟨rfl, F.sub ⟨rfl, rfl, rfl, trivial⟩⟩
 clear F; rintro a w' ⟨rfl, F⟩
 refine wE (ev_move rfl) F S rfl fun a F=>?_
 obtain ⟨x4, hx4, hm⟩ := bind_some hm
 refine wl_cut 7 (fun a w' => w = w' ∧ Fr 37 a [(24, .bool x4), (2, .bool false), (0, .int .u8 c_)]) ?_ ?_
 ·clear hm; obtain ⟨hc4, hm⟩ | ⟨hc4, hm⟩ := ite_or hx4
  ·refine wl_skip rfl rfl rfl rfl (ne_ft hc4) F rfl rfl ?_; clear F a; intro a F
   refine wl_skip rfl rfl rfl rfl (ne_ft hc4) F rfl rfl ?_; clear F a; intro a F
   refine wl_skip rfl rfl rfl rfl (ne_ft hc4) F rfl rfl ?_; clear F a; intro a F
   refine wl_skipu rfl rfl rfl rfl F rfl rfl ?_; clear F a; intro a F
   refine wl_skipu rfl rfl rfl rfl F rfl rfl ?_; clear F a; intro a F
   refine wl_skip rfl rfl rfl rfl (ne_ft hc4) F rfl rfl ?_; clear F a; intro a F
   refine wE (ev_pickT rfl hc4 rfl) F S rfl fun a F=>?_
   obtain rfl := sinj hm
   refine wpList_nil (then_n ?_); exact ⟨rfl, F.sub ⟨rfl, rfl, rfl, trivial⟩⟩
  ·refine wl_ev (wg F rfl rfl rfl rfl hc4) (ev_move rfl) F S rfl rfl ?_; clear F a; intro a F
   refine wl_ev (wg F rfl rfl rfl rfl hc4) (ev_int rfl rfl (bo_geq _ _ _ _)) F S rfl rfl ?_; clear F a; intro a F
   refine wl_ev (wg F rfl rfl rfl rfl hc4) (ev_move rfl) F S rfl rfl ?_; clear F a; intro a F
   obtain ⟨x5, hx5, hm⟩ := bind_some hm
   refine wl_cut 3 (fun a w' => w = w' ∧ Fr 37 a [(23, .bool x5), (17, .bool x2), (2, .bool false), (0, .int .u8 c_)]) ?_ ?_
   ·clear hm; obtain ⟨hc5, hm⟩ | ⟨hc5, hm⟩ := ite_or hx5
    ·refine wl_ev (wg F rfl rfl rfl rfl hc5) (ev_move rfl) F S rfl rfl ?_; clear F a; intro a F
     refine wl_ev (wg F rfl rfl rfl rfl hc5) (ev_int rfl rfl (bo_leq _ _ _ _)) F S rfl rfl ?_; clear F a; intro a F
     refine wl_ev (wg F rfl rfl rfl rfl hc4) (ev_pickT rfl hc5 rfl) F S rfl rfl ?_; clear F a; intro a F
     obtain rfl := sinj hm
     refine wpList_nil (then_n ?_); exact ⟨rfl, F.sub ⟨rfl, rfl, rfl, rfl, trivial⟩⟩
    ·refine wl_skip rfl rfl rfl rfl (ne_tf hc5) F rfl rfl ?_; clear F a; intro a F
     refine wl_skip rfl rfl rfl rfl (ne_tf hc5) F rfl rfl ?_; clear F a; intro a F
     refine wl_ev (wg F rfl rfl rfl rfl hc4) (ev_pickF rfl hc5 rfl) F S rfl rfl ?_; clear F a; intro a F
     obtain rfl := sinj hm
     refine wpList_nil (then_n ?_); exact ⟨rfl, F.sub ⟨rfl, rfl, rfl, rfl, trivial⟩⟩
   clear F; rintro a w' ⟨rfl, F⟩
   refine wE (ev_pickF rfl hc4 rfl) F S rfl fun a F=>?_
   obtain rfl := sinj hm
   refine wpList_nil (then_n ?_); exact ⟨rfl, F.sub ⟨rfl, rfl, rfl, trivial⟩⟩
 clear F; rintro a w' ⟨rfl, F⟩
 refine wE (ev_move rfl) F S rfl fun a F=>?_
 obtain ⟨x6, hx6, hm⟩ := bind_some hm
 refine wl_cut 3 (fun a w' => w = w' ∧ Fr 37 a [(28, .bool x6), (2, .bool false), (0, .int .u8 c_)]) ?_ ?_
 ·clear hm; obtain ⟨hc6, hm⟩ | ⟨hc6, hm⟩ := ite_or hx6
  ·refine wl_skip rfl rfl rfl rfl (ne_ft hc6) F rfl rfl ?_; clear F a; intro a F
   refine wl_skip rfl rfl rfl rfl (ne_ft hc6) F rfl rfl ?_; clear F a; intro a F
   refine wE (ev_pickT rfl hc6 rfl) F S rfl fun a F=>?_
   obtain rfl := sinj hm
   refine wpList_nil (then_n ?_); exact ⟨rfl, F.sub ⟨rfl, rfl, rfl, trivial⟩⟩
  ·refine wl_ev (wg F rfl rfl rfl rfl hc6) (ev_move rfl) F S rfl rfl ?_; clear F a; intro a F
   refine wl_ev (wg F rfl rfl rfl rfl hc6) (ev_int rfl rfl (bo_eql _ _ _ _)) F S rfl rfl ?_; clear F a; intro a F
   refine wE (ev_pickF rfl hc6 rfl) F S rfl fun a F=>?_
   obtain rfl := sinj hm
   refine wpList_nil (then_n ?_); exact ⟨rfl, F.sub ⟨rfl, rfl, rfl, trivial⟩⟩
 clear F; rintro a w' ⟨rfl, F⟩
 refine wE (ev_move rfl) F S rfl fun a F=>?_
 obtain ⟨x7, hx7, hm⟩ := bind_some hm
 refine wl_cut 3 (fun a w' => w = w' ∧ Fr 37 a [(32, .bool x7), (2, .bool false), (0, .int .u8 c_)]) ?_ ?_
 ·clear hm; obtain ⟨hc7, hm⟩ | ⟨hc7, hm⟩ := ite_or hx7
  ·refine wl_skip rfl rfl rfl rfl (ne_ft hc7) F rfl rfl ?_; clear F a; intro a F
   refine wl_skip rfl rfl rfl rfl (ne_ft hc7) F rfl rfl ?_; clear F a; intro a F
   refine wE (ev_pickT rfl hc7 rfl) F S rfl fun a F=>?_
   obtain rfl := sinj hm
   refine wpList_nil (then_n ?_); exact ⟨rfl, F.sub ⟨rfl, rfl, rfl, trivial⟩⟩
  ·refine wl_ev (wg F rfl rfl rfl rfl hc7) (ev_move rfl) F S rfl rfl ?_; clear F a; intro a F
   refine wl_ev (wg F rfl rfl rfl rfl hc7) (ev_int rfl rfl (bo_eql _ _ _ _)) F S rfl rfl ?_; clear F a; intro a F
   refine wE (ev_pickF rfl hc7 rfl) F S rfl fun a F=>?_
   obtain rfl := sinj hm
   refine wpList_nil (then_n ?_); exact ⟨rfl, F.sub ⟨rfl, rfl, rfl, trivial⟩⟩
 clear F; rintro a w' ⟨rfl, F⟩
 refine wE (ev_move rfl) F S rfl fun a F=>?_
 obtain ⟨x8, hx8, hm⟩ := bind_some hm
 refine wl_cut 3 (fun a w' => w = w' ∧ Fr 37 a [(36, .bool x8), (2, .bool false)]) ?_ ?_
 ·clear hm; obtain ⟨hc8, hm⟩ | ⟨hc8, hm⟩ := ite_or hx8
  ·refine wl_skip rfl rfl rfl rfl (ne_ft hc8) F rfl rfl ?_; clear F a; intro a F
   refine wl_skip rfl rfl rfl rfl (ne_ft hc8) F rfl rfl ?_; clear F a; intro a F
   refine wE (ev_pickT rfl hc8 rfl) F S rfl fun a F=>?_
   obtain rfl := sinj hm
   refine wpList_nil (then_n ?_); exact ⟨rfl, F.sub ⟨rfl, rfl, trivial⟩⟩
  ·refine wl_ev (wg F rfl rfl rfl rfl hc8) (ev_move rfl) F S rfl rfl ?_; clear F a; intro a F
   refine wl_ev (wg F rfl rfl rfl rfl hc8) (ev_int rfl rfl (bo_eql _ _ _ _)) F S rfl rfl ?_; clear F a; intro a F
   refine wE (ev_pickF rfl hc8 rfl) F S rfl fun a F=>?_
   obtain rfl := sinj hm
   refine wpList_nil (then_n ?_); exact ⟨rfl, F.sub ⟨rfl, rfl, trivial⟩⟩
 clear F; rintro a w' ⟨rfl, F⟩
 refine wE (ev_assign rfl) F S rfl fun a F=>?_
 refine wpList_nil ?_
 refine then_n ?_
 refine wp_ret ?_
 obtain rfl := sinj hm
 refine post_r _ F rfl (ar_cons (resT rfl) ar_nil) ?_
 exact ⟨_, rfl, g, (Le.refl _), S, rfl⟩
end Go.Dc
