/- Walks: each function comes to what its model says. -/
import Derived.Test.YtibigfejalemjaaDcTab
import Derived.Test.YtibigfejalemjaaDcM
namespace Go.Dc
open Go Go.Proofs
set_option maxRecDepth 100000
set_option maxHeartbeats 4000000
set_option linter.unusedVariables false
theorem sequence_own_ok {g : Gh} {fr : Hl} {w : World} {r : Element_sequence} (o_ : SeqOp) (S : St g [] fr w) (hm : sequence_own o_ = some r) :
  Calls Try.prog 23 [.agg #[.bool o_.Delete, .i6 o_.Replica, .i6 o_.Counter, .i6 o_.AfterReplica, .i6 o_.AfterCounter, .string o_.Line]].toArray w (fun en w' => ∃ v, en = .returned v ∧ ∃ (g' : Gh), Le g g' ∧ St g' [] fr w' ∧ .agg #[.i6 r.counter, .i6 r.replica] = v) := by
 unfold sequence_own at hm
 refine calls_enter (fn := Try.f23) Try.func23 rfl Try.ntmps23 (lb rfl) ?_
 intro a F
 replace F : Fr 8 a [(0, .agg #[.bool o_.Delete, .i6 o_.Replica, .i6 o_.Counter, .i6 o_.AfterReplica, .i6 o_.AfterCounter, .string o_.Line])] := F
 refine wp_seq ?_
 refine wp_region_lit ?_
 refine wl_boxC (wn rfl) rfl rfl rfl F S rfl rfl ?_; clear F a S; rintro b1 a w F S
 refine wl_alloc (wn rfl) rfl tz48 (cs := [.i6 0, .i6 0]) rfl F S rfl rfl ?_; clear F a S; rintro b2 a w F S
 refine wpList_nil ?_
 refine then_n ?_
 refine wp_seq ?_
 refine wp_region_lit ?_
 refine wE (ev_fieldAddr' tu33 tf33_2 (z := 0) ts3 rfl ⟨_, rfl⟩ rfl) F S rfl fun a F=>?_
 refine wE (ev_load1 tu3 rfl rfl (box_ptr (cells := [.i6 o_.Counter]) 1 rfl 2 rfl (lb rfl))) F S rfl fun a F=>?_
 refine wE (ev_fieldAddr' tu33 tf33_1 (z := 0) ts3 rfl ⟨_, rfl⟩ rfl) F S rfl fun a F=>?_
 refine wE (ev_load1 tu3 rfl rfl (box_ptr (cells := [.i6 o_.Replica]) 1 rfl 1 rfl (lb rfl))) F S rfl fun a F=>?_
 refine wE (ev_build (parts := [(0, .tmp 4), (1, .tmp 6)]) (vs := [(0, .i6 o_.Counter), (1, .i6 o_.Replica)]) rfl (fun w => tb48_0_1 o_.Counter o_.Replica w)) F S rfl fun a F=>?_
 refine wl_storeC (wn rfl) rfl F S rfl rfl (vs := [.i6 o_.Counter, .i6 o_.Replica]) rfl ts48 (one_cons rfl (one_cons rfl one_nil)) (k := 0) rfl (lb rfl) (c' := #[.i6 o_.Counter, .i6 o_.Replica]) rfl rfl ?_; clear S; intro w S
 refine wpList_nil ?_
 refine then_n ?_
 refine wp_ret ?_
 obtain rfl := sinj hm
 refine post_r _ F rfl (ar_cons (resA rfl tu48 rfl (box_ptr (cells := [.i6 o_.Counter, .i6 o_.Replica]) 0 rfl 0 rfl (lb rfl) w S) ts48) ar_nil) ?_
 replace S : St g [] fr w := St.tail [] _ S
 exact ⟨_, rfl, g, (Le.refl _), S, rfl⟩

theorem sequence_after_ok {g : Gh} {fr : Hl} {w : World} {r : Element_sequence} (o_ : SeqOp) (S : St g [] fr w) (hm : sequence_after o_ = some r) :
  Calls Try.prog 24 [.agg #[.bool o_.Delete, .i6 o_.Replica, .i6 o_.Counter, .i6 o_.AfterReplica, .i6 o_.AfterCounter, .string o_.Line]].toArray w (fun en w' => ∃ v, en = .returned v ∧ ∃ (g' : Gh), Le g g' ∧ St g' [] fr w' ∧ .agg #[.i6 r.counter, .i6 r.replica] = v) := by
 unfold sequence_after at hm
 refine calls_enter (fn := Try.f24) Try.func24 rfl Try.ntmps24 (lb rfl) ?_
 intro a F
 replace F : Fr 8 a [(0, .agg #[.bool o_.Delete, .i6 o_.Replica, .i6 o_.Counter, .i6 o_.AfterReplica, .i6 o_.AfterCounter, .string o_.Line])] := F
 refine wp_seq ?_
 refine wp_region_lit ?_
 refine wl_boxC (wn rfl) rfl rfl rfl F S rfl rfl ?_; clear F a S; rintro b1 a w F S
 refine wl_alloc (wn rfl) rfl tz48 (cs := [.i6 0, .i6 0]) rfl F S rfl rfl ?_; clear F a S; rintro b2 a w F S
 refine wpList_nil ?_
 refine then_n ?_
 refine wp_seq ?_
 refine wp_region_lit ?_
 refine wE (ev_fieldAddr' tu33 tf33_4 (z := 0) ts3 rfl ⟨_, rfl⟩ rfl) F S rfl fun a F=>?_
 refine wE (ev_load1 tu3 rfl rfl (box_ptr (cells := [.i6 o_.AfterCounter]) 1 rfl 4 rfl (lb rfl))) F S rfl fun a F=>?_
 refine wE (ev_fieldAddr' tu33 tf33_3 (z := 0) ts3 rfl ⟨_, rfl⟩ rfl) F S rfl fun a F=>?_
 refine wE (ev_load1 tu3 rfl rfl (box_ptr (cells := [.i6 o_.AfterReplica]) 1 rfl 3 rfl (lb rfl))) F S rfl fun a F=>?_
 refine wE (ev_build (parts := [(0, .tmp 4), (1, .tmp 6)]) (vs := [(0, .i6 o_.AfterCounter), (1, .i6 o_.AfterReplica)]) rfl (fun w => tb48_0_1 o_.AfterCounter o_.AfterReplica w)) F S rfl fun a F=>?_
 refine wl_storeC (wn rfl) rfl F S rfl rfl (vs := [.i6 o_.AfterCounter, .i6 o_.AfterReplica]) rfl ts48 (one_cons rfl (one_cons rfl one_nil)) (k := 0) rfl (lb rfl) (c' := #[.i6 o_.AfterCounter, .i6 o_.AfterReplica]) rfl rfl ?_; clear S; intro w S
 refine wpList_nil ?_
 refine then_n ?_
 refine wp_ret ?_
 obtain rfl := sinj hm
 refine post_r _ F rfl (ar_cons (resA rfl tu48 rfl (box_ptr (cells := [.i6 o_.AfterCounter, .i6 o_.AfterReplica]) 0 rfl 0 rfl (lb rfl) w S) ts48) ar_nil) ?_
 replace S : St g [] fr w := St.tail [] _ S
 exact ⟨_, rfl, g, (Le.refl _), S, rfl⟩

theorem stringslite_IndexByte_ok {g : Gh} {fr : Hl} {w : World} {r : Int} (s_ : ByteArray) (c_ : Int) (S : St g [] fr w) (hm : stringslite_IndexByte s_ c_ = some r) :
  Calls Try.prog 43 [.string s_, .int .u8 c_].toArray w (fun en w' => ∃ v, en = .returned v ∧ ∃ (g' : Gh), Le g g' ∧ St g' [] fr w' ∧ .i6 r = v) := by
 unfold stringslite_IndexByte at hm
 refine calls_enter (fn := Try.f43) Try.func43 rfl Try.ntmps43 (lb rfl) ?_
 intro a F
 replace F : Fr 8 a [(0, .string s_), (1, .int .u8 c_)] := F
 refine wp_seq ?_
 refine wp_region_lit ?_
 refine wE (ev_assign rfl) F S rfl fun a F=>?_
 refine wpList_nil ?_
 refine then_n ?_
 refine wp_seq ?_
 refine wp_region_lit ?_
 refine wE (ev_move rfl) F S rfl fun a F=>?_
 refine wE (ev_move rfl) F S rfl fun a F=>?_
 refine wE (ev_callx (xs := [.tmp 5, .tmp 6]) (vs := [.string s_, .int .u8 c_]) rfl rfl (fun w => tx59 s_ c_ w)) F S rfl fun a F=>?_
 refine wE (ev_assign rfl) F S rfl fun a F=>?_
 refine wpList_nil ?_
 refine then_n ?_
 refine wp_ret ?_
 obtain rfl := sinj hm
 refine post_r _ F rfl (ar_cons (resT rfl) ar_nil) ?_
 exact ⟨_, rfl, g, (Le.refl _), S, rfl⟩

theorem strings_IndexByte_ok {g : Gh} {fr : Hl} {w : World} {r : Int} (s_ : ByteArray) (c_ : Int) (S : St g [] fr w) (hm : strings_IndexByte s_ c_ = some r) :
  Calls Try.prog 29 [.string s_, .int .u8 c_].toArray w (fun en w' => ∃ v, en = .returned v ∧ ∃ (g' : Gh), Le g g' ∧ St g' [] fr w' ∧ .i6 r = v) := by
 unfold strings_IndexByte at hm
 refine calls_enter (fn := Try.f29) Try.func29 rfl Try.ntmps29 (lb rfl) ?_
 intro a F
 replace F : Fr 8 a [(0, .string s_), (1, .int .u8 c_)] := F
 refine wp_seq ?_
 refine wp_region_lit ?_
 refine wE (ev_assign rfl) F S rfl fun a F=>?_
 refine wpList_nil ?_
 refine then_n ?_
 refine wp_seq ?_
 refine wp_region_lit ?_
 refine wE (ev_move rfl) F S rfl fun a F=>?_
 refine wE (ev_move rfl) F S rfl fun a F=>?_
 obtain ⟨y1, hy1, hm⟩ := bind_some hm
 refine wl_call0 (wn rfl) rfl F rfl (stringslite_IndexByte_ok s_ c_ S hy1) rfl tc43 rfl rfl ?_; clear F a S
 rintro _ a w ⟨g1, l1, S, rfl⟩ F; replace S : St g1 [] fr w := S
 refine wE (ev_assign rfl) F S rfl fun a F=>?_
 refine wpList_nil ?_
 refine then_n ?_
 refine wp_ret ?_
 obtain rfl := sinj hm
 refine post_r _ F rfl (ar_cons (resT rfl) ar_nil) ?_
 exact ⟨_, rfl, g1, l1, S, rfl⟩

theorem lines_Validate_ok {g : Gh} {fr : Hl} {w : World} {r : Fault} (lines : (List ByteArray)) (vlines1 : Value) (hlines1 : RepSl g lines vlines1) (S : St g [] fr w) (hm : lines_Validate lines = some r) :
  Calls Try.prog 16 [vlines1].toArray w (fun en w' => ∃ v, en = .returned v ∧ ∃ (g' : Gh), Le g g' ∧ St g' [] fr w' ∧ .agg #[.i6 r.Code, .i6 r.Index] = v) := by
 unfold lines_Validate at hm
 refine calls_enter (fn := Try.f16) Try.func16 rfl Try.ntmps16 (lb rfl) ?_
 intro a F
 replace F : Fr 28 a [(0, vlines1)] := F
 refine wp_seq ?_
 refine wp_region_lit ?_
 refine wl_alloc (wn rfl) rfl tz25 (cs := [.i6 0, .i6 0]) rfl F S rfl rfl ?_; clear F a S; rintro b1 a w F S
 refine wpList_nil ?_
 refine then_n ?_
 refine wp_seq ?_
 refine wp_seq ?_
 refine wp_region_lit ?_
 refine wE (ev_move rfl) F S rfl fun a F=>?_
 refine wE (ev_lenSh hlines1 rfl tu23) F S rfl fun a F=>?_
 refine wE (ev_int rfl rfl (bo_gtr _ _ _ _)) F S rfl fun a F=>?_
 refine wpList_nil ?_
 refine then_n ?_
 obtain ⟨hc1, hm⟩ | ⟨hc1, hm⟩ := ite_or hm
 ·refine wp_condT F rfl hc1 ?_
  refine wp_seq ?_
  refine wp_region_lit ?_
  refine wE (ev_build (parts := [(0, .const (.i6 2)), (1, .const (.i6 (-1)))]) (vs := [(0, .i6 2), (1, .i6 (-1))]) rfl (fun w => tb25_0_1 2 (-1) w)) F S rfl fun a F=>?_
  refine wl_storeC (wn rfl) rfl F S rfl rfl (vs := [.i6 2, .i6 (-1)]) rfl ts25 (one_cons rfl (one_cons rfl one_nil)) (k := 0) rfl (lb rfl) (c' := #[.i6 2, .i6 (-1)]) rfl rfl ?_; clear S; intro w S
  refine wpList_nil ?_
  refine then_n ?_
  refine wp_ret ?_
  refine then_r ?_
  obtain rfl := sinj hm
  refine post_r _ F rfl (ar_cons (resA rfl tu25 rfl (box_ptr (cells := [.i6 2, .i6 (-1)]) 0 rfl 0 rfl (lb rfl) w S) ts25) ar_nil) ?_
  replace S : St g [] fr w := St.tail [] _ S
  exact ⟨_, rfl, g, (Le.refl _), S, rfl⟩
 ·refine wp_condF F rfl hc1 ?_
  refine wp_skip ?_
  refine then_n ?_
  refine wp_cut (fun a w => ∃ (g1 : Gh), Fr 28 a [(2, bp b1 0)] ∧ Le g g1 ∧ St g1 [[bx b1 #[.i6 0, .i6 0] 25]] fr w ∧ lines_Validate.j1 = some r) ?_ ?_
  ·refine wp_seq ?_
   refine wp_region_lit ?_
   refine wE (ev_move rfl) F S rfl fun a F=>?_
   refine wE (ev_lenSh hlines1 rfl tu23) F S rfl fun a F=>?_
   refine wE (ev_move rfl) F S rfl fun a F=>?_
   refine wpList_nil ?_
   refine then_n ?_
   refine wp_block ?_
   obtain ⟨r1, hr1, hm⟩ := bind_some hm
   have hmo1 := hm; clear hm
   refine wp_iter (σ := Int) (ρ := Fault ⊕ Unit) (m := fun s => lines_Validate.l1 lines s) (I := fun x1 a w => ∃ (g2 : Gh), Fr 28 a [(11, .i6 x1), (10, .i6 (lines.length : Int)), (9, vlines1), (2, bp b1 0)] ∧ Le g g2 ∧ St g2 [[bx b1 #[.i6 0, .i6 0] 25]] fr w) hr1 ?_ ?_
   ·exact ⟨g, F.sub ⟨rfl, rfl, rfl, rfl, trivial⟩, (Le.refl _), S⟩
   ·clear F S; rintro x1 a w x2 ⟨g2, F, l2, S⟩ hx1 hfin1
    have hm : lines_Validate.l1 lines x1 = some x2 := hx1; clear hx1
    unfold lines_Validate.l1 at hm
    refine wp_seq ?_
    refine wp_region_lit ?_
    refine wE (ev_int rfl rfl (bo_lss _ _ _ _)) F S rfl fun a F=>?_
    refine wpList_nil ?_
    refine then_n ?_
    refine wp_seq ?_
    obtain ⟨hc2, hm⟩ | ⟨hc2, hm⟩ := ite_or hm
    ·refine wp_condT F rfl hc2 ?_
     refine wp_skip ?_
     refine then_n ?_
     refine wp_seq ?_
     refine wp_block ?_
     refine wp_seq ?_
     refine wp_region_lit ?_
     refine wE (ev_move rfl) F S rfl fun a F=>?_
     obtain ⟨y1, hy1, hm⟩ := bind_some hm
     obtain ⟨cs1, hr2, hp1⟩ := elemS (hlines1.mono l2) hy1
     obtain rfl := rep_str hr2
     refine wE (ev_idxS (hlines1.mono l2) hy1 tu23 ts9 rfl rfl) F S rfl fun a F=>?_
     refine wE (ev_load1 tu9 rfl rfl (ptr_mono (cks := [[bx b1 #[.i6 0, .i6 0] 25]]) (fr := fr) hp1 (Le.refl _))) F S rfl fun a F=>?_
     refine wE (ev_assign rfl) F S rfl fun a F=>?_
     refine wE (ev_assign rfl) F S rfl fun a F=>?_
     refine wpList_nil ?_
     refine then_n ?_
     refine wp_seq ?_
     refine wp_seq ?_
     refine wp_region_lit ?_
     refine wE (ev_move rfl) F S rfl fun a F=>?_
     refine wE (ev_lenS rfl tu9) F S rfl fun a F=>?_
     refine wE (ev_int rfl rfl (bo_gtr _ _ _ _)) F S rfl fun a F=>?_
     refine wpList_nil ?_
     refine then_n ?_
     obtain ⟨hc3, hm⟩ | ⟨hc3, hm⟩ := ite_or hm
     ·refine wp_condT F rfl hc3 ?_
      refine wp_seq ?_
      refine wp_region_lit ?_
      refine wE (ev_move rfl) F S rfl fun a F=>?_
      refine wE (ev_build (parts := [(0, .const (.i6 2)), (1, .tmp 19)]) (vs := [(0, .i6 2), (1, .i6 x1)]) rfl (fun w => tb25_0_1 2 x1 w)) F S rfl fun a F=>?_
      refine wl_storeC (wn rfl) rfl F S rfl rfl (vs := [.i6 2, .i6 x1]) rfl ts25 (one_cons rfl (one_cons rfl one_nil)) (k := 0) rfl (lb rfl) (c' := #[.i6 2, .i6 x1]) rfl rfl ?_; clear S; intro w S
      refine wpList_nil ?_
      refine then_n ?_
      refine wp_ret ?_
      refine then_r ?_
      refine inb_r ?_
      refine then_r ?_
      refine then_r ?_
      refine inb_r ?_
      refine then_r ?_
      obtain rfl := sinj hm
      obtain rfl := hfin1 _ rfl
      clear hm
      have hm : (some ({ Code := 2, Index := x1 } : Fault) : Option Fault) = some _ := hmo1
      obtain rfl := sinj hm
      refine post_r _ F rfl (ar_cons (resA rfl tu25 rfl (box_ptr (cells := [.i6 2, .i6 x1]) 0 rfl 0 rfl (lb rfl) w S) ts25) ar_nil) ?_
      replace S : St g2 [] fr w := St.tail [] _ S
      exact ⟨_, rfl, g2, l2, S, rfl⟩
     ·refine wp_condF F rfl hc3 ?_
      refine wp_skip ?_
      refine then_n ?_
      refine wp_seq ?_
      refine wp_region_lit ?_
      refine wE (ev_move rfl) F S rfl fun a F=>?_
      obtain ⟨y2, hy2, hm⟩ := bind_some hm
      refine wl_call0 (wn rfl) rfl F rfl (strings_IndexByte_ok (fr := (fl [[bx b1 #[.i6 0, .i6 0] 25]] fr)) y1 10 S hy2) rfl tc29 rfl rfl ?_; clear F a S
      rintro _ a w ⟨g3, l3, S, rfl⟩ F; replace S : St g3 [[bx b1 #[.i6 0, .i6 0] 25]] fr w := S
      refine wE (ev_int rfl rfl (bo_geq _ _ _ _)) F S rfl fun a F=>?_
      refine wpList_nil ?_
      refine then_n ?_
      obtain ⟨hc4, hm⟩ | ⟨hc4, hm⟩ := ite_or hm
      ·refine wp_condT F rfl hc4 ?_
       refine wp_seq ?_
       refine wp_region_lit ?_
       refine wE (ev_move rfl) F S rfl fun a F=>?_
       refine wE (ev_build (parts := [(0, .const (.i6 5)), (1, .tmp 24)]) (vs := [(0, .i6 5), (1, .i6 x1)]) rfl (fun w => tb25_0_1 5 x1 w)) F S rfl fun a F=>?_
       refine wl_storeC (wn rfl) rfl F S rfl rfl (vs := [.i6 5, .i6 x1]) rfl ts25 (one_cons rfl (one_cons rfl one_nil)) (k := 0) rfl (lb rfl) (c' := #[.i6 5, .i6 x1]) rfl rfl ?_; clear S; intro w S
       refine wpList_nil ?_
       refine then_n ?_
       refine wp_ret ?_
       refine inb_r ?_
       refine then_r ?_
       refine then_r ?_
       refine inb_r ?_
       refine then_r ?_
       obtain rfl := sinj hm
       obtain rfl := hfin1 _ rfl
       clear hm
       have hm : (some ({ Code := 5, Index := x1 } : Fault) : Option Fault) = some _ := hmo1
       obtain rfl := sinj hm
       refine post_r _ F rfl (ar_cons (resA rfl tu25 rfl (box_ptr (cells := [.i6 5, .i6 x1]) 0 rfl 0 rfl (lb rfl) w S) ts25) ar_nil) ?_
       replace S : St g3 [] fr w := St.tail [] _ S
       exact ⟨_, rfl, g3, (l2.trans l3), S, rfl⟩
      ·refine wp_condF F rfl hc4 ?_
       refine wp_skip ?_
       refine inb_n ?_
       refine then_n ?_
       refine wp_region_lit ?_
       obtain ⟨z1, hz1, hm⟩ := bind_some hm
       refine wE (ev_int rfl rfl (bo_add hz1)) F S rfl fun a F=>?_
       refine wE (ev_move rfl) F S rfl fun a F=>?_
       refine wpList_nil ?_
       refine then_n ?_
       obtain rfl := sinj hm
       refine ⟨_, rfl, ?_⟩
       exact ⟨g3, F.sub ⟨rfl, rfl, rfl, rfl, trivial⟩, (l2.trans l3), S⟩
    ·refine wp_condF F rfl hc2 ?_
     refine wp_exit ?_
     refine then_e ?_
     refine then_e ?_
     refine inb_x ?_
     refine then_n ?_
     obtain rfl := sinj hm
     obtain rfl := hfin1 _ rfl
     clear hm
     have hm : (lines_Validate.j1 : Option Fault) = some _ := hmo1
     exact ⟨g2, F.sub ⟨rfl, trivial⟩, l2, S, hm⟩
  ·clear F S hm; rintro a w ⟨g1, F, l1, S, hm⟩
   refine wp_seq ?_
   refine wp_region_lit ?_
   refine wE (ev_build (parts := []) (vs := []) rfl (fun w => tb25_  w)) F S rfl fun a F=>?_
   refine wl_storeC (wn rfl) rfl F S rfl rfl (vs := [.i6 0, .i6 0]) rfl ts25 (one_cons rfl (one_cons rfl one_nil)) (k := 0) rfl (lb rfl) (c' := #[.i6 0, .i6 0]) rfl rfl ?_; clear S; intro w S
   refine wpList_nil ?_
   refine then_n ?_
   refine wp_ret ?_
   obtain rfl := sinj hm
   refine post_r _ F rfl (ar_cons (resA rfl tu25 rfl (box_ptr (cells := [.i6 0, .i6 0]) 0 rfl 0 rfl (lb rfl) w S) ts25) ar_nil) ?_
   replace S : St g1 [] fr w := St.tail [] _ S
   exact ⟨_, rfl, g1, l1, S, rfl⟩

theorem cmp_Or_ok {g : Gh} {fr : Hl} {w : World} {r : Int} (vals : (List Int)) (vvals1 : Value) (hvals1 : RepSl g vals vvals1) (S : St g [] fr w) (hm : cmp_Or vals = some r) :
  Calls Try.prog 41 [vvals1].toArray w (fun en w' => ∃ v, en = .returned v ∧ ∃ (g' : Gh), Le g g' ∧ St g' [] fr w' ∧ .i6 r = v) := by
 unfold cmp_Or at hm
 refine calls_enter (fn := Try.f41) Try.func41 rfl Try.ntmps41 (lb rfl) ?_
 intro a F
 replace F : Fr 18 a [(0, vvals1)] := F
 refine wp_seq ?_
 refine wp_region_lit ?_
 refine wE (ev_assign rfl) F S rfl fun a F=>?_
 refine wpList_nil ?_
 refine then_n ?_
 refine wp_seq ?_
 refine wp_region_lit ?_
 refine wE (ev_assign rfl) F S rfl fun a F=>?_
 refine wpList_nil ?_
 refine then_n ?_
 refine wp_cut (fun a w => ∃ (g1 : Gh), Fr 18 a [(3, .i6 0)] ∧ Le g g1 ∧ St g1 [] fr w ∧ cmp_Or.j1 = some r) ?_ ?_
 ·refine wp_seq ?_
  refine wp_region_lit ?_
  refine wE (ev_move rfl) F S rfl fun a F=>?_
  refine wE (ev_lenSh hvals1 rfl tu82) F S rfl fun a F=>?_
  refine wE (ev_move rfl) F S rfl fun a F=>?_
  refine wpList_nil ?_
  refine then_n ?_
  refine wp_block ?_
  obtain ⟨r1, hr1, hm⟩ := bind_some hm
  have hmo1 := hm; clear hm
  refine wp_iter (σ := Int) (ρ := Int ⊕ Unit) (m := fun s => cmp_Or.l1 vals s) (I := fun x1 a w => ∃ (g2 : Gh), Fr 18 a [(8, .i6 x1), (7, .i6 (vals.length : Int)), (6, vvals1), (3, .i6 0)] ∧ Le g g2 ∧ St g2 [] fr w) hr1 ?_ ?_
  ·exact ⟨g, F.sub ⟨rfl, rfl, rfl, rfl, trivial⟩, (Le.refl _), S⟩
  ·clear F S; rintro x1 a w x2 ⟨g2, F, l2, S⟩ hx1 hfin1
   have hm : cmp_Or.l1 vals x1 = some x2 := hx1; clear hx1
   unfold cmp_Or.l1 at hm
   refine wp_seq ?_
   refine wp_region_lit ?_
   refine wE (ev_int rfl rfl (bo_lss _ _ _ _)) F S rfl fun a F=>?_
   refine wpList_nil ?_
   refine then_n ?_
   refine wp_seq ?_
   obtain ⟨hc1, hm⟩ | ⟨hc1, hm⟩ := ite_or hm
   ·refine wp_condT F rfl hc1 ?_
    refine wp_skip ?_
    refine then_n ?_
    refine wp_seq ?_
    refine wp_block ?_
    refine wp_seq ?_
    refine wp_region_lit ?_
    obtain ⟨y1, hy1, hm⟩ := bind_some hm
    obtain ⟨cs1, hr2, hp1⟩ := elemS (hvals1.mono l2) hy1
    obtain rfl := rep_int hr2
    refine wE (ev_idxS (hvals1.mono l2) hy1 tu82 ts3 rfl rfl) F S rfl fun a F=>?_
    refine wE (ev_load1 tu3 rfl rfl (ptr_mono (cks := []) (fr := fr) hp1 (Le.refl _))) F S rfl fun a F=>?_
    refine wE (ev_assign rfl) F S rfl fun a F=>?_
    refine wpList_nil ?_
    refine then_n ?_
    refine wp_seq ?_
    refine wp_region_lit ?_
    refine wE (ev_move rfl) F S rfl fun a F=>?_
    refine wE (ev_move rfl) F S rfl fun a F=>?_
    refine wE (ev_int rfl rfl (bo_neq _ _ _ _)) F S rfl fun a F=>?_
    refine wpList_nil ?_
    refine then_n ?_
    obtain ⟨hc2, hm⟩ | ⟨hc2, hm⟩ := ite_or hm
    ·refine wp_condT F rfl hc2 ?_
     refine wp_seq ?_
     refine wp_region_lit ?_
     refine wE (ev_move rfl) F S rfl fun a F=>?_
     refine wE (ev_assign rfl) F S rfl fun a F=>?_
     refine wpList_nil ?_
     refine then_n ?_
     refine wp_ret ?_
     refine inb_r ?_
     refine then_r ?_
     refine then_r ?_
     refine inb_r ?_
     refine then_r ?_
     obtain rfl := sinj hm
     obtain rfl := hfin1 _ rfl
     clear hm
     have hm : (some y1 : Option Int) = some _ := hmo1
     obtain rfl := sinj hm
     refine post_r _ F rfl (ar_cons (resT rfl) ar_nil) ?_
     exact ⟨_, rfl, g2, l2, S, rfl⟩
    ·refine wp_condF F rfl hc2 ?_
     refine wp_skip ?_
     refine inb_n ?_
     refine then_n ?_
     refine wp_region_lit ?_
     obtain ⟨z1, hz1, hm⟩ := bind_some hm
     refine wE (ev_int rfl rfl (bo_add hz1)) F S rfl fun a F=>?_
     refine wE (ev_move rfl) F S rfl fun a F=>?_
     refine wpList_nil ?_
     refine then_n ?_
     obtain rfl := sinj hm
     refine ⟨_, rfl, ?_⟩
     exact ⟨g2, F.sub ⟨rfl, rfl, rfl, rfl, trivial⟩, l2, S⟩
   ·refine wp_condF F rfl hc1 ?_
    refine wp_exit ?_
    refine then_e ?_
    refine then_e ?_
    refine inb_x ?_
    refine then_n ?_
    obtain rfl := sinj hm
    obtain rfl := hfin1 _ rfl
    clear hm
    have hm : (cmp_Or.j1 : Option Int) = some _ := hmo1
    exact ⟨g2, F.sub ⟨rfl, trivial⟩, l2, S, hm⟩
 ·clear F S hm; rintro a w ⟨g1, F, l1, S, hm⟩
  refine wp_seq ?_
  refine wp_region_lit ?_
  refine wE (ev_move rfl) F S rfl fun a F=>?_
  refine wE (ev_assign rfl) F S rfl fun a F=>?_
  refine wpList_nil ?_
  refine then_n ?_
  refine wp_ret ?_
  obtain rfl := sinj hm
  refine post_r _ F rfl (ar_cons (resT rfl) ar_nil) ?_
  exact ⟨_, rfl, g1, l1, S, rfl⟩

theorem cmp_isNaN_ok {g : Gh} {fr : Hl} {w : World} {r : Bool} (x_ : Int) (S : St g [] fr w) (hm : cmp_isNaN x_ = some r) :
  Calls Try.prog 58 [.i6 x_].toArray w (fun en w' => ∃ v, en = .returned v ∧ ∃ (g' : Gh), Le g g' ∧ St g' [] fr w' ∧ .bool r = v) := by
 unfold cmp_isNaN at hm
 refine calls_enter (fn := Try.f58) Try.func58 rfl Try.ntmps58 (lb rfl) ?_
 intro a F
 replace F : Fr 6 a [(0, .i6 x_)] := F
 refine wp_seq ?_
 refine wp_region_lit ?_
 refine wE (ev_assign rfl) F S rfl fun a F=>?_
 refine wpList_nil ?_
 refine then_n ?_
 refine wp_seq ?_
 refine wp_region_lit ?_
 refine wE (ev_move rfl) F S rfl fun a F=>?_
 refine wE (ev_move rfl) F S rfl fun a F=>?_
 refine wE (ev_int rfl rfl (bo_neq _ _ _ _)) F S rfl fun a F=>?_
 refine wE (ev_assign rfl) F S rfl fun a F=>?_
 refine wpList_nil ?_
 refine then_n ?_
 refine wp_ret ?_
 obtain rfl := sinj hm
 refine post_r _ F rfl (ar_cons (resT rfl) ar_nil) ?_
 exact ⟨_, rfl, g, (Le.refl _), S, rfl⟩

theorem cmp_Compare_ok {g : Gh} {fr : Hl} {w : World} {r : Int} (x_ : Int) (y : Int) (S : St g [] fr w) (hm : cmp_Compare x_ y = some r) :
  Calls Try.prog 42 [.i6 x_, .i6 y].toArray w (fun en w' => ∃ v, en = .returned v ∧ ∃ (g' : Gh), Le g g' ∧ St g' [] fr w' ∧ .i6 r = v) := by
 unfold cmp_Compare at hm
 refine calls_enter (fn := Try.f42) Try.func42 rfl Try.ntmps42 (lb rfl) ?_
 intro a F
 replace F : Fr 20 a [(0, .i6 x_), (1, .i6 y)] := F
 refine wp_seq ?_
 refine wp_region_lit ?_
 refine wE (ev_assign rfl) F S rfl fun a F=>?_
 refine wpList_nil ?_
 refine then_n ?_
 refine wp_seq ?_
 refine wp_region_lit ?_
 refine wE (ev_move rfl) F S rfl fun a F=>?_
 obtain ⟨y1, hy1, hm⟩ := bind_some hm
 refine wl_call0 (wn rfl) rfl F rfl (cmp_isNaN_ok x_ S hy1) rfl tc58 rfl rfl ?_; clear F a S
 rintro _ a w ⟨g1, l1, S, rfl⟩ F; replace S : St g1 [] fr w := S
 refine wE (ev_assign rfl) F S rfl fun a F=>?_
 refine wpList_nil ?_
 refine then_n ?_
 refine wp_seq ?_
 refine wp_region_lit ?_
 refine wE (ev_move rfl) F S rfl fun a F=>?_
 obtain ⟨y2, hy2, hm⟩ := bind_some hm
 refine wl_call0 (wn rfl) rfl F rfl (cmp_isNaN_ok y S hy2) rfl tc58 rfl rfl ?_; clear F a S
 rintro _ a w ⟨g2, l2, S, rfl⟩ F; replace S : St g2 [] fr w := S
 refine wE (ev_assign rfl) F S rfl fun a F=>?_
 refine wpList_nil ?_
 refine then_n ?_
 refine wp_seq ?_
 refine wp_seq ?_
 refine wp_region_lit ?_
 refine wE (ev_move rfl) F S rfl fun a F=>?_
 refine wpList_nil ?_
 refine then_n ?_
 obtain ⟨hc1, hm⟩ | ⟨hc1, hm⟩ := ite_or hm
 ·refine wp_condT F rfl hc1 ?_
  refine wp_seq ?_
  refine wp_seq ?_
  refine wp_region_lit ?_
  refine wE (ev_move rfl) F S rfl fun a F=>?_
  refine wpList_nil ?_
  refine then_n ?_
  obtain ⟨hc2, hm⟩ | ⟨hc2, hm⟩ := ite_or hm
  ·refine wp_condT F rfl hc2 ?_
   refine wp_seq ?_
   refine wp_region_lit ?_
   refine wE (ev_assign rfl) F S rfl fun a F=>?_
   refine wpList_nil ?_
   refine then_n ?_
   refine wp_ret ?_
   refine then_r ?_
   refine then_r ?_
   obtain rfl := sinj hm
   refine post_r _ F rfl (ar_cons (resT rfl) ar_nil) ?_
   exact ⟨_, rfl, g2, (l1.trans l2), S, rfl⟩
  ·refine wp_condF F rfl hc2 ?_
   refine wp_skip ?_
   refine then_n ?_
   refine wp_seq ?_
   refine wp_region_lit ?_
   refine wE (ev_assign rfl) F S rfl fun a F=>?_
   refine wpList_nil ?_
   refine then_n ?_
   refine wp_ret ?_
   refine then_r ?_
   obtain rfl := sinj hm
   refine post_r _ F rfl (ar_cons (resT rfl) ar_nil) ?_
   exact ⟨_, rfl, g2, (l1.trans l2), S, rfl⟩
 ·refine wp_condF F rfl hc1 ?_
  refine wp_skip ?_
  refine then_n ?_
  refine wp_seq ?_
  refine wp_seq ?_
  refine wp_region_lit ?_
  refine wE (ev_move rfl) F S rfl fun a F=>?_
  refine wpList_nil ?_
  refine then_n ?_
  obtain ⟨hc3, hm⟩ | ⟨hc3, hm⟩ := ite_or hm
  ·refine wp_condT F rfl hc3 ?_
   refine wp_seq ?_
   refine wp_region_lit ?_
   refine wE (ev_assign rfl) F S rfl fun a F=>?_
   refine wpList_nil ?_
   refine then_n ?_
   refine wp_ret ?_
   refine then_r ?_
   obtain rfl := sinj hm
   refine post_r _ F rfl (ar_cons (resT rfl) ar_nil) ?_
   exact ⟨_, rfl, g2, (l1.trans l2), S, rfl⟩
  ·refine wp_condF F rfl hc3 ?_
   refine wp_skip ?_
   refine then_n ?_
   refine wp_seq ?_
   refine wp_seq ?_
   refine wp_region_lit ?_
   refine wE (ev_move rfl) F S rfl fun a F=>?_
   refine wE (ev_move rfl) F S rfl fun a F=>?_
   refine wE (ev_int rfl rfl (bo_lss _ _ _ _)) F S rfl fun a F=>?_
   refine wpList_nil ?_
   refine then_n ?_
   obtain ⟨hc4, hm⟩ | ⟨hc4, hm⟩ := ite_or hm
   ·refine wp_condT F rfl hc4 ?_
    refine wp_seq ?_
    refine wp_region_lit ?_
    refine wE (ev_assign rfl) F S rfl fun a F=>?_
    refine wpList_nil ?_
    refine then_n ?_
    refine wp_ret ?_
    refine then_r ?_
    obtain rfl := sinj hm
    refine post_r _ F rfl (ar_cons (resT rfl) ar_nil) ?_
    exact ⟨_, rfl, g2, (l1.trans l2), S, rfl⟩
   ·refine wp_condF F rfl hc4 ?_
    refine wp_skip ?_
    refine then_n ?_
    refine wp_seq ?_
    refine wp_seq ?_
    refine wp_region_lit ?_
    refine wE (ev_move rfl) F S rfl fun a F=>?_
    refine wE (ev_move rfl) F S rfl fun a F=>?_
    refine wE (ev_int rfl rfl (bo_gtr _ _ _ _)) F S rfl fun a F=>?_
    refine wpList_nil ?_
    refine then_n ?_
    obtain ⟨hc5, hm⟩ | ⟨hc5, hm⟩ := ite_or hm
    ·refine wp_condT F rfl hc5 ?_
     refine wp_seq ?_
     refine wp_region_lit ?_
     refine wE (ev_assign rfl) F S rfl fun a F=>?_
     refine wpList_nil ?_
     refine then_n ?_
     refine wp_ret ?_
     refine then_r ?_
     obtain rfl := sinj hm
     refine post_r _ F rfl (ar_cons (resT rfl) ar_nil) ?_
     exact ⟨_, rfl, g2, (l1.trans l2), S, rfl⟩
    ·refine wp_condF F rfl hc5 ?_
     refine wp_skip ?_
     refine then_n ?_
     refine wp_seq ?_
     refine wp_region_lit ?_
     refine wE (ev_assign rfl) F S rfl fun a F=>?_
     refine wpList_nil ?_
     refine then_n ?_
     refine wp_ret ?_
     obtain rfl := sinj hm
     refine post_r _ F rfl (ar_cons (resT rfl) ar_nil) ?_
     exact ⟨_, rfl, g2, (l1.trans l2), S, rfl⟩

theorem sequence_compare_ok {g : Gh} {fr : Hl} {w : World} {r : Int} (a_ : Element_sequence) (b_ : Element_sequence) (S : St g [] fr w) (hm : sequence_compare a_ b_ = some r) :
  Calls Try.prog 28 [.agg #[.i6 a_.counter, .i6 a_.replica], .agg #[.i6 b_.counter, .i6 b_.replica]].toArray w (fun en w' => ∃ v, en = .returned v ∧ ∃ (g' : Gh), Le g g' ∧ St g' [] fr w' ∧ .i6 r = v) := by
 unfold sequence_compare at hm
 refine calls_enter (fn := Try.f28) Try.func28 rfl Try.ntmps28 (lb rfl) ?_
 intro a F
 replace F : Fr 17 a [(0, .agg #[.i6 a_.counter, .i6 a_.replica]), (1, .agg #[.i6 b_.counter, .i6 b_.replica])] := F
 refine wp_seq ?_
 refine wp_region_lit ?_
 refine wl_boxC (wn rfl) rfl rfl rfl F S rfl rfl ?_; clear F a S; rintro b1 a w F S
 refine wl_boxC (wn rfl) rfl rfl rfl F S rfl rfl ?_; clear F a S; rintro b2 a w F S
 refine wE (ev_assign rfl) F S rfl fun a F=>?_
 refine wpList_nil ?_
 refine then_n ?_
 refine wp_seq ?_
 refine wp_dv [] mo S ?_; clear S; intro ok1 w S
 refine dv_et ok1 0 rfl (ev_fieldAddr' tu48 tf48_0 (z := 0) ts3 rfl ⟨_, rfl⟩ rfl) F rfl fun a F=>?_
 refine dv_ev ok1 1 rfl (ev_load1 tu3 rfl rfl (box_ptr (cells := [.i6 a_.counter]) 1 rfl 0 rfl (lb rfl))) F S rfl fun a F=>?_
 refine dv_et ok1 2 rfl (ev_fieldAddr' tu48 tf48_0 (z := 0) ts3 rfl ⟨_, rfl⟩ rfl) F rfl fun a F=>?_
 refine dv_ev ok1 3 rfl (ev_load1 tu3 rfl rfl (box_ptr (cells := [.i6 b_.counter]) 0 rfl 0 rfl (lb rfl))) F S rfl fun a F=>?_
 refine dv_et ok1 5 rfl (ev_fieldAddr' tu48 tf48_1 (z := 0) ts3 rfl ⟨_, rfl⟩ rfl) F rfl fun a F=>?_
 refine dv_ev ok1 6 rfl (ev_load1 tu3 rfl rfl (box_ptr (cells := [.i6 a_.replica]) 1 rfl 1 rfl (lb rfl))) F S rfl fun a F=>?_
 refine dv_et ok1 7 rfl (ev_fieldAddr' tu48 tf48_1 (z := 0) ts3 rfl ⟨_, rfl⟩ rfl) F rfl fun a F=>?_
 refine dv_ev ok1 8 rfl (ev_load1 tu3 rfl rfl (box_ptr (cells := [.i6 b_.replica]) 0 rfl 1 rfl (lb rfl))) F S rfl fun a F=>?_
 refine dv_op ok1 4 rfl [(8, .i6 b_.replica), (6, .i6 a_.replica)] ?_
 obtain ⟨y1, hy1, hm⟩ := bind_some hm
 refine wl_call0 (wn rfl) rfl F rfl (cmp_Compare_ok (fr := (fl [[bx b2 #[.i6 b_.counter, .i6 b_.replica] 48], [bx b1 #[.i6 a_.counter, .i6 a_.replica] 48]] fr)) a_.counter b_.counter S hy1) rfl tc42 rfl rfl ?_; clear F a S
 rintro _ a w ⟨g1, l1, S, rfl⟩ F; replace S : St g1 [[bx b2 #[.i6 b_.counter, .i6 b_.replica] 48], [bx b1 #[.i6 a_.counter, .i6 a_.replica] 48]] fr w := S
 refine dv_nx ⟨yl_ev rfl rfl (ev_load1 tu3 rfl rfl (box_ptr (cells := [.i6 b_.replica]) 0 rfl 1 rfl (lb rfl))) F S, yl_ev rfl rfl (ev_load1 tu3 rfl rfl (box_ptr (cells := [.i6 a_.replica]) 1 rfl 1 rfl (lb rfl))) F S, trivial⟩ ?_
 refine dv_op ok1 9 rfl [] ?_
 obtain ⟨y2, hy2, hm⟩ := bind_some hm
 refine wl_call0 (wn rfl) rfl F rfl (cmp_Compare_ok (fr := (fl [[bx b2 #[.i6 b_.counter, .i6 b_.replica] 48], [bx b1 #[.i6 a_.counter, .i6 a_.replica] 48]] fr)) a_.replica b_.replica S hy2) rfl tc42 rfl rfl ?_; clear F a S
 rintro _ a w ⟨g2, l2, S, rfl⟩ F; replace S : St g2 [[bx b2 #[.i6 b_.counter, .i6 b_.replica] 48], [bx b1 #[.i6 a_.counter, .i6 a_.replica] 48]] fr w := S
 refine dv_nx trivial ?_
 refine dv_op ok1 10 rfl [] ?_
 refine wl_lit (l := ([y1, y2] : List Int)) (vs := [.i6 y1, .i6 y2]) (parts := [(0, .tmp 9), (1, .tmp 14)]) (wn rfl) rfl rfl rfl tu82 te3 (sz_cons rfl (sz_cons rfl sz_nil)) rfl (Cat.cons (show Rep.rep _ y1 _ from rfl) (Cat.cons (show Rep.rep _ y2 _ from rfl) (Cat.nil _))) (coa_cons rfl (coa_cons rfl coa_nil)) rfl F S rfl rfl ?_; clear F a S
 rintro v1 c1 a w h1 F S
 refine dv_nx trivial ?_
 refine dv_op ok1 11 rfl [] ?_
 obtain ⟨g3, l3, S, h2⟩ : ∃ gz, Le g2 gz ∧ St gz [[bx b2 #[.i6 b_.counter, .i6 b_.replica] 48], [bx b1 #[.i6 a_.counter, .i6 a_.replica] 48]] fr w ∧ RepSl gz ([y1, y2] : List Int) v1 := ⟨_, Le.add _ _, S.freeze 0 rfl, OwnS.freeze (S.front 0 rfl) h1⟩
 obtain ⟨y3, hy3, hm⟩ := bind_some hm
 refine wl_call0 (wn rfl) rfl F rfl (cmp_Or_ok (fr := (fl [[bx b2 #[.i6 b_.counter, .i6 b_.replica] 48], [bx b1 #[.i6 a_.counter, .i6 a_.replica] 48]] fr)) ([y1, y2] : List Int) v1 h2 S hy3) rfl tc41 rfl rfl ?_; clear F a S
 rintro _ a w ⟨g4, l4, S, rfl⟩ F; replace S : St g4 [[bx b2 #[.i6 b_.counter, .i6 b_.replica] 48], [bx b1 #[.i6 a_.counter, .i6 a_.replica] 48]] fr w := S
 refine dv_nx trivial ?_
 refine dv_et ok1 12 rfl (ev_assign rfl) F rfl fun a F=>?_
 refine dv_fin ok1 ?_
 refine then_n ?_
 refine wp_ret ?_
 obtain rfl := sinj hm
 refine post_r _ F rfl (ar_cons (resT rfl) ar_nil) ?_
 replace S : St g4 [] fr w := St.tail [] _ S
 exact ⟨_, rfl, g4, (((l1.trans l2).trans l3).trans l4), S, rfl⟩

theorem sequence_valid_ok {g : Gh} {fr : Hl} {w : World} {r : Bool} (e_ : Element_sequence) (S : St g [] fr w) (hm : sequence_valid e_ = some r) :
  Calls Try.prog 47 [.agg #[.i6 e_.counter, .i6 e_.replica]].toArray w (fun en w' => ∃ v, en = .returned v ∧ ∃ (g' : Gh), Le g g' ∧ St g' [] fr w' ∧ .bool r = v) := by
 unfold sequence_valid at hm
 refine calls_enter (fn := Try.f47) Try.func47 rfl Try.ntmps47 (lb rfl) ?_
 intro a F
 replace F : Fr 21 a [(0, .agg #[.i6 e_.counter, .i6 e_.replica])] := F
 refine wp_seq ?_
 refine wp_region_lit ?_
 refine wl_boxC (wn rfl) rfl rfl rfl F S rfl rfl ?_; clear F a S; rintro b1 a w F S
 refine wE (ev_assign rfl) F S rfl fun a F=>?_
 refine wpList_nil ?_
 refine then_n ?_
 refine wp_seq ?_
 refine wp_region_lit ?_
 refine wE (ev_fieldAddr' tu48 tf48_0 (z := 0) ts3 rfl ⟨_, rfl⟩ rfl) F S rfl fun a F=>?_
 refine wE (ev_load1 tu3 rfl rfl (box_ptr (cells := [.i6 e_.counter]) 0 rfl 0 rfl (lb rfl))) F S rfl fun a F=>?_
 refine wE (ev_int rfl rfl (bo_geq _ _ _ _)) F S rfl fun a F=>?_
 refine wE (ev_move rfl) F S rfl fun a F=>?_
 obtain ⟨x1, hx1, hm⟩ := bind_some hm
 refine wl_cut 4 (fun a w' => w = w' ∧ Fr 21 a [(10, .bool x1), (2, .bool false), (1, bp b1 0)]) ?_ ?_
 ·clear hm; obtain ⟨hc1, hm⟩ | ⟨hc1, hm⟩ := ite_or hx1
  ·refine wl_ev (wg F rfl rfl rfl rfl hc1) (ev_fieldAddr' tu48 tf48_0 (z := 0) ts3 rfl ⟨_, rfl⟩ rfl) F S rfl rfl ?_; clear F a; intro a F
   refine wl_ev (wg F rfl rfl rfl rfl hc1) (ev_load1 tu3 rfl rfl (box_ptr (cells := [.i6 e_.counter]) 0 rfl 0 rfl (lb rfl))) F S rfl rfl ?_; clear F a; intro a F
   refine wl_ev (wg F rfl rfl rfl rfl hc1) (ev_int rfl rfl (bo_leq _ _ _ _)) F S rfl rfl ?_; clear F a; intro a F
   refine wE (ev_pickT rfl hc1 rfl) F S rfl fun a F=>?_
   obtain rfl := sinj hm
   refine wpList_nil (then_n ?_); exact ⟨rfl, F.sub ⟨rfl, rfl, rfl, trivial⟩⟩
  ·refine wl_skip rfl rfl rfl rfl (ne_tf hc1) F rfl rfl ?_; clear F a; intro a F
   refine wl_skip rfl rfl rfl rfl (ne_tf hc1) F rfl rfl ?_; clear F a; intro a F
   refine wl_skip rfl rfl rfl rfl (ne_tf hc1) F rfl rfl ?_; clear F a; intro a F
   refine wE (ev_pickF rfl hc1 rfl) F S rfl fun a F=>?_
   obtain rfl := sinj hm
   refine wpList_nil (then_n ?_); exact ⟨rfl, F.sub ⟨rfl, rfl, rfl, trivial⟩⟩
 clear F; rintro a w' ⟨rfl, F⟩
 refine wE (ev_move rfl) F S rfl fun a F=>?_
 obtain ⟨x2, hx2, hm⟩ := bind_some hm
 refine wl_cut 4 (fun a w' => w = w' ∧ Fr 21 a [(15, .bool x2), (2, .bool false), (1, bp b1 0)]) ?_ ?_
 ·clear hm; obtain ⟨hc2, hm⟩ | ⟨hc2, hm⟩ := ite_or hx2
  ·refine wl_ev (wg F rfl rfl rfl rfl hc2) (ev_fieldAddr' tu48 tf48_1 (z := 0) ts3 rfl ⟨_, rfl⟩ rfl) F S rfl rfl ?_; clear F a; intro a F
   refine wl_ev (wg F rfl rfl rfl rfl hc2) (ev_load1 tu3 rfl rfl (box_ptr (cells := [.i6 e_.replica]) 0 rfl 1 rfl (lb rfl))) F S rfl rfl ?_; clear F a; intro a F
   refine wl_ev (wg F rfl rfl rfl rfl hc2) (ev_int rfl rfl (bo_geq _ _ _ _)) F S rfl rfl ?_; clear F a; intro a F
   refine wE (ev_pickT rfl hc2 rfl) F S rfl fun a F=>?_
   obtain rfl := sinj hm
   refine wpList_nil (then_n ?_); exact ⟨rfl, F.sub ⟨rfl, rfl, rfl, trivial⟩⟩
  ·refine wl_skip rfl rfl rfl rfl (ne_tf hc2) F rfl rfl ?_; clear F a; intro a F
   refine wl_skip rfl rfl rfl rfl (ne_tf hc2) F rfl rfl ?_; clear F a; intro a F
   refine wl_skip rfl rfl rfl rfl (ne_tf hc2) F rfl rfl ?_; clear F a; intro a F
   refine wE (ev_pickF rfl hc2 rfl) F S rfl fun a F=>?_
   obtain rfl := sinj hm
   refine wpList_nil (then_n ?_); exact ⟨rfl, F.sub ⟨rfl, rfl, rfl, trivial⟩⟩
 clear F; rintro a w' ⟨rfl, F⟩
 refine wE (ev_move rfl) F S rfl fun a F=>?_
 obtain ⟨x3, hx3, hm⟩ := bind_some hm
 refine wl_cut 4 (fun a w' => w = w' ∧ Fr 21 a [(20, .bool x3), (2, .bool false)]) ?_ ?_
 ·clear hm; obtain ⟨hc3, hm⟩ | ⟨hc3, hm⟩ := ite_or hx3
  ·refine wl_ev (wg F rfl rfl rfl rfl hc3) (ev_fieldAddr' tu48 tf48_1 (z := 0) ts3 rfl ⟨_, rfl⟩ rfl) F S rfl rfl ?_; clear F a; intro a F
   refine wl_ev (wg F rfl rfl rfl rfl hc3) (ev_load1 tu3 rfl rfl (box_ptr (cells := [.i6 e_.replica]) 0 rfl 1 rfl (lb rfl))) F S rfl rfl ?_; clear F a; intro a F
   refine wl_ev (wg F rfl rfl rfl rfl hc3) (ev_int rfl rfl (bo_lss _ _ _ _)) F S rfl rfl ?_; clear F a; intro a F
   refine wE (ev_pickT rfl hc3 rfl) F S rfl fun a F=>?_
   obtain rfl := sinj hm
   refine wpList_nil (then_n ?_); exact ⟨rfl, F.sub ⟨rfl, rfl, trivial⟩⟩
  ·refine wl_skip rfl rfl rfl rfl (ne_tf hc3) F rfl rfl ?_; clear F a; intro a F
   refine wl_skip rfl rfl rfl rfl (ne_tf hc3) F rfl rfl ?_; clear F a; intro a F
   refine wl_skip rfl rfl rfl rfl (ne_tf hc3) F rfl rfl ?_; clear F a; intro a F
   refine wE (ev_pickF rfl hc3 rfl) F S rfl fun a F=>?_
   obtain rfl := sinj hm
   refine wpList_nil (then_n ?_); exact ⟨rfl, F.sub ⟨rfl, rfl, trivial⟩⟩
 clear F; rintro a w' ⟨rfl, F⟩
 refine wE (ev_assign rfl) F S rfl fun a F=>?_
 refine wpList_nil ?_
 refine then_n ?_
 refine wp_ret ?_
 obtain rfl := sinj hm
 refine post_r _ F rfl (ar_cons (resT rfl) ar_nil) ?_
 replace S : St g [] fr w := St.tail [] _ S
 exact ⟨_, rfl, g, (Le.refl _), S, rfl⟩

theorem sequence_check_ok {g : Gh} {fr : Hl} {w : World} {r : Int} (o_ : SeqOp) (S : St g [] fr w) (hm : sequence_check o_ = some r) :
  Calls Try.prog 38 [.agg #[.bool o_.Delete, .i6 o_.Replica, .i6 o_.Counter, .i6 o_.AfterReplica, .i6 o_.AfterCounter, .string o_.Line]].toArray w (fun en w' => ∃ v, en = .returned v ∧ ∃ (g' : Gh), Le g g' ∧ St g' [] fr w' ∧ .i6 r = v) := by
 unfold sequence_check at hm
 refine calls_enter (fn := Try.f38) Try.func38 rfl Try.ntmps38 (lb rfl) ?_
 intro a F
 replace F : Fr 56 a [(0, .agg #[.bool o_.Delete, .i6 o_.Replica, .i6 o_.Counter, .i6 o_.AfterReplica, .i6 o_.AfterCounter, .string o_.Line])] := F
 refine wp_seq ?_
 refine wp_region_lit ?_
 refine wl_boxC (wn rfl) rfl rfl rfl F S rfl rfl ?_; clear F a S; rintro b1 a w F S
 refine wE (ev_assign rfl) F S rfl fun a F=>?_
 refine wpList_nil ?_
 refine then_n ?_
 refine wp_seq ?_
 refine wp_region_lit ?_
 refine wE (ev_loadA tu33 rfl (cs := [.bool o_.Delete, .i6 o_.Replica, .i6 o_.Counter, .i6 o_.AfterReplica, .i6 o_.AfterCounter, .string o_.Line]) ts33 rfl (box_ptr (cells := [.bool o_.Delete, .i6 o_.Replica, .i6 o_.Counter, .i6 o_.AfterReplica, .i6 o_.AfterCounter, .string o_.Line]) 0 rfl 0 rfl (lb rfl))) F S rfl fun a F=>?_
 obtain ⟨y1, hy1, hm⟩ := bind_some hm
 refine wl_call0 (wn rfl) rfl F rfl (sequence_after_ok (fr := (fl [[bx b1 #[.bool o_.Delete, .i6 o_.Replica, .i6 o_.Counter, .i6 o_.AfterReplica, .i6 o_.AfterCounter, .string o_.Line] 33]] fr)) o_ S hy1) rfl tc24 rfl rfl ?_; clear F a S
 rintro _ a w ⟨g1, l1, S, rfl⟩ F; replace S : St g1 [[bx b1 #[.bool o_.Delete, .i6 o_.Replica, .i6 o_.Counter, .i6 o_.AfterReplica, .i6 o_.AfterCounter, .string o_.Line] 33]] fr w := S
 refine wE (ev_build (parts := []) (vs := []) rfl (fun w => tb48_  w)) F S rfl fun a F=>?_
 refine wE (ev_eqS tu48 tqa48 tqb48 tqc48 (xs := [.i6 y1.counter, .i6 y1.replica]) (ys := [.i6 0, .i6 0]) rfl rfl ⟨_, _, rfl, by decide, ⟨_, _, rfl, rfl, leaf_int tu3⟩, ⟨_, _, rfl, by decide, ⟨_, _, rfl, rfl, leaf_int tu3⟩, rfl⟩⟩) F S rfl fun a F=>?_
 refine wE (ev_assign rfl) F S rfl fun a F=>?_
 refine wpList_nil ?_
 refine then_n ?_
 refine wp_seq ?_
 refine wp_block ?_
 refine wp_seq ?_
 refine wp_region_lit ?_
 refine wE (ev_loadA tu33 rfl (cs := [.bool o_.Delete, .i6 o_.Replica, .i6 o_.Counter, .i6 o_.AfterReplica, .i6 o_.AfterCounter, .string o_.Line]) ts33 rfl (box_ptr (cells := [.bool o_.Delete, .i6 o_.Replica, .i6 o_.Counter, .i6 o_.AfterReplica, .i6 o_.AfterCounter, .string o_.Line]) 0 rfl 0 rfl (lb rfl))) F S rfl fun a F=>?_
 obtain ⟨y2, hy2, hm⟩ := bind_some hm
 refine wl_call0 (wn rfl) rfl F rfl (sequence_own_ok (fr := (fl [[bx b1 #[.bool o_.Delete, .i6 o_.Replica, .i6 o_.Counter, .i6 o_.AfterReplica, .i6 o_.AfterCounter, .string o_.Line] 33]] fr)) o_ S hy2) rfl tc23 rfl rfl ?_; clear F a S
 rintro _ a w ⟨g2, l2, S, rfl⟩ F; replace S : St g2 [[bx b1 #[.bool o_.Delete, .i6 o_.Replica, .i6 o_.Counter, .i6 o_.AfterReplica, .i6 o_.AfterCounter, .string o_.Line] 33]] fr w := S
 obtain ⟨y3, hy3, hm⟩ := bind_some hm
 refine wl_call0 (wn rfl) rfl F rfl (sequence_valid_ok (fr := (fl [[bx b1 #[.bool o_.Delete, .i6 o_.Replica, .i6 o_.Counter, .i6 o_.AfterReplica, .i6 o_.AfterCounter, .string o_.Line] 33]] fr)) y2 S hy3) rfl tc47 rfl rfl ?_; clear F a S
 rintro _ a w ⟨g3, l3, S, rfl⟩ F; replace S : St g3 [[bx b1 #[.bool o_.Delete, .i6 o_.Replica, .i6 o_.Counter, .i6 o_.AfterReplica, .i6 o_.AfterCounter, .string o_.Line] 33]] fr w := S
 refine wE (ev_not rfl) F S rfl fun a F=>?_
 refine wE (ev_assign rfl) F S rfl fun a F=>?_
 refine wpList_nil ?_
 refine then_n ?_
 obtain ⟨hc1, hm⟩ | ⟨hc1, hm⟩ := ite_or hm
 ·refine wp_condT F rfl hc1 ?_
  refine wp_seq ?_
  refine wp_region_lit ?_
  refine wE (ev_assign rfl) F S rfl fun a F=>?_
  refine wpList_nil ?_
  refine then_n ?_
  refine wp_ret ?_
  refine inb_r ?_
  refine then_r ?_
  obtain rfl := sinj hm
  refine post_r _ F rfl (ar_cons (resT rfl) ar_nil) ?_
  replace S : St g3 [] fr w := St.tail [] _ S
  exact ⟨_, rfl, g3, ((l1.trans l2).trans l3), S, rfl⟩
 ·refine wp_condF F rfl hc1 ?_
  refine wp_seq ?_
  refine wp_region_lit ?_
  refine wE (ev_fieldAddr' tu33 tf33_0 (z := 0) ts4 rfl ⟨_, rfl⟩ rfl) F S rfl fun a F=>?_
  refine wE (ev_load1 tu4 rfl rfl (box_ptr (cells := [.bool o_.Delete]) 0 rfl 0 rfl (lb rfl))) F S rfl fun a F=>?_
  refine wE (ev_move rfl) F S rfl fun a F=>?_
  obtain ⟨x1, hx1, hm⟩ := bind_some hm
  refine wl_cut 8 (fun a w' => w = w' ∧ Fr 56 a [(24, .bool x1), (3, .bool (decide (y1.counter = 0) && decide (y1.replica = 0))), (1, bp b1 0)]) ?_ ?_
  ·clear hm; obtain ⟨hc2, hm⟩ | ⟨hc2, hm⟩ := ite_or hx1
   ·refine wl_ev (wg F rfl rfl rfl rfl hc2) (ev_move rfl) F S rfl rfl ?_; clear F a; intro a F
    refine wl_ev (wg F rfl rfl rfl rfl hc2) (ev_not rfl) F S rfl rfl ?_; clear F a; intro a F
    refine wl_ev (wg F rfl rfl rfl rfl hc2) (ev_move rfl) F S rfl rfl ?_; clear F a; intro a F
    obtain ⟨x2, hx2, hm⟩ := bind_some hm
    refine wl_cut 4 (fun a w' => w = w' ∧ Fr 56 a [(23, .bool x2), (16, .bool o_.Delete), (3, .bool (decide (y1.counter = 0) && decide (y1.replica = 0))), (1, bp b1 0)]) ?_ ?_
    ·clear hm; obtain ⟨hc3, hm⟩ | ⟨hc3, hm⟩ := ite_or hx2
     ·refine wl_skip rfl rfl rfl rfl (ne_ft hc3) F rfl rfl ?_; clear F a; intro a F
      refine wl_skip rfl rfl rfl rfl (ne_ft hc3) F rfl rfl ?_; clear F a; intro a F
      refine wl_skip rfl rfl rfl rfl (ne_ft hc3) F rfl rfl ?_; clear F a; intro a F
      refine wl_ev (wg F rfl rfl rfl rfl hc2) (ev_pickT rfl hc3 rfl) F S rfl rfl ?_; clear F a; intro a F
      obtain rfl := sinj hm
      refine wpList_nil (then_n ?_); exact ⟨rfl, F.sub ⟨rfl, rfl, rfl, rfl, trivial⟩⟩
     ·refine wl_ev (wg F rfl rfl rfl rfl hc3) (ev_fieldAddr' tu33 tf33_5 (z := 0) ts9 rfl ⟨_, rfl⟩ rfl) F S rfl rfl ?_; clear F a; intro a F
      refine wl_ev (wg F rfl rfl rfl rfl hc3) (ev_load1 tu9 rfl rfl (box_ptr (cells := [.string o_.Line]) 0 rfl 5 rfl (lb rfl))) F S rfl rfl ?_; clear F a; intro a F
      refine wl_ev (wg F rfl rfl rfl rfl hc3) (ev_str rfl rfl (bs_neq _ _ _)) F S rfl rfl ?_; clear F a; intro a F
      refine wl_ev (wg F rfl rfl rfl rfl hc2) (ev_pickF rfl hc3 rfl) F S rfl rfl ?_; clear F a; intro a F
      obtain rfl := sinj hm
      refine wpList_nil (then_n ?_); exact ⟨rfl, F.sub ⟨rfl, rfl, rfl, rfl, trivial⟩⟩
    clear F; rintro a w' ⟨rfl, F⟩
    refine wE (ev_pickT rfl hc2 rfl) F S rfl fun a F=>?_
    obtain rfl := sinj hm
    refine wpList_nil (then_n ?_); exact ⟨rfl, F.sub ⟨rfl, rfl, rfl, trivial⟩⟩
   ·refine wl_skip rfl rfl rfl rfl (ne_tf hc2) F rfl rfl ?_; clear F a; intro a F
    refine wl_skip rfl rfl rfl rfl (ne_tf hc2) F rfl rfl ?_; clear F a; intro a F
    refine wl_skip rfl rfl rfl rfl (ne_tf hc2) F rfl rfl ?_; clear F a; intro a F
    refine wl_skipu rfl rfl rfl rfl F rfl rfl ?_; clear F a; intro a F
    refine wl_skipu rfl rfl rfl rfl F rfl rfl ?_; clear F a; intro a F
    refine wl_skipu rfl rfl rfl rfl F rfl rfl ?_; clear F a; intro a F
    refine wl_skip rfl rfl rfl rfl (ne_tf hc2) F rfl rfl ?_; clear F a; intro a F
    refine wE (ev_pickF rfl hc2 rfl) F S rfl fun a F=>?_
    obtain rfl := sinj hm
    refine wpList_nil (then_n ?_); exact ⟨rfl, F.sub ⟨rfl, rfl, rfl, trivial⟩⟩
  clear F; rintro a w' ⟨rfl, F⟩
  refine wE (ev_assign rfl) F S rfl fun a F=>?_
  refine wpList_nil ?_
  refine then_n ?_
  obtain ⟨hc4, hm⟩ | ⟨hc4, hm⟩ := ite_or hm
  ·refine wp_condT F rfl hc4 ?_
   refine wp_seq ?_
   refine wp_region_lit ?_
   refine wE (ev_assign rfl) F S rfl fun a F=>?_
   refine wpList_nil ?_
   refine then_n ?_
   refine wp_ret ?_
   refine inb_r ?_
   refine then_r ?_
   obtain rfl := sinj hm
   refine post_r _ F rfl (ar_cons (resT rfl) ar_nil) ?_
   replace S : St g3 [] fr w := St.tail [] _ S
   exact ⟨_, rfl, g3, ((l1.trans l2).trans l3), S, rfl⟩
  ·refine wp_condF F rfl hc4 ?_
   refine wp_seq ?_
   refine wp_region_lit ?_
   refine wE (ev_fieldAddr' tu33 tf33_0 (z := 0) ts4 rfl ⟨_, rfl⟩ rfl) F S rfl fun a F=>?_
   refine wE (ev_load1 tu4 rfl rfl (box_ptr (cells := [.bool o_.Delete]) 0 rfl 0 rfl (lb rfl))) F S rfl fun a F=>?_
   refine wE (ev_not rfl) F S rfl fun a F=>?_
   refine wE (ev_move rfl) F S rfl fun a F=>?_
   obtain ⟨x3, hx3, hm⟩ := bind_some hm
   refine wl_cut 3 (fun a w' => w = w' ∧ Fr 56 a [(32, .bool x3), (1, bp b1 0)]) ?_ ?_
   ·clear hm; obtain ⟨hc5, hm⟩ | ⟨hc5, hm⟩ := ite_or hx3
    ·refine wl_ev (wg F rfl rfl rfl rfl hc5) (ev_move rfl) F S rfl rfl ?_; clear F a; intro a F
     refine wl_ev (wg F rfl rfl rfl rfl hc5) (ev_not rfl) F S rfl rfl ?_; clear F a; intro a F
     refine wE (ev_pickT rfl hc5 rfl) F S rfl fun a F=>?_
     obtain rfl := sinj hm
     refine wpList_nil (then_n ?_); exact ⟨rfl, F.sub ⟨rfl, rfl, trivial⟩⟩
    ·refine wl_skip rfl rfl rfl rfl (ne_tf hc5) F rfl rfl ?_; clear F a; intro a F
     refine wl_skip rfl rfl rfl rfl (ne_tf hc5) F rfl rfl ?_; clear F a; intro a F
     refine wE (ev_pickF rfl hc5 rfl) F S rfl fun a F=>?_
     obtain rfl := sinj hm
     refine wpList_nil (then_n ?_); exact ⟨rfl, F.sub ⟨rfl, rfl, trivial⟩⟩
   clear F; rintro a w' ⟨rfl, F⟩
   refine wE (ev_move rfl) F S rfl fun a F=>?_
   obtain ⟨x4, hx4, hm⟩ := bind_some hm
   refine wl_cut 5 (fun a w => ∃ g4, Fr 56 a [(38, .bool x4), (1, bp b1 0)] ∧ Le g3 g4 ∧ St g4 [[bx b1 #[.bool o_.Delete, .i6 o_.Replica, .i6 o_.Counter, .i6 o_.AfterReplica, .i6 o_.AfterCounter, .string o_.Line] 33]] fr w) ?_ ?_
   ·clear hm; obtain ⟨hc6, hm⟩ | ⟨hc6, hm⟩ := ite_or hx4
    ·refine wl_ev (wg F rfl rfl rfl rfl hc6) (ev_loadA tu33 rfl (cs := [.bool o_.Delete, .i6 o_.Replica, .i6 o_.Counter, .i6 o_.AfterReplica, .i6 o_.AfterCounter, .string o_.Line]) ts33 rfl (box_ptr (cells := [.bool o_.Delete, .i6 o_.Replica, .i6 o_.Counter, .i6 o_.AfterReplica, .i6 o_.AfterCounter, .string o_.Line]) 0 rfl 0 rfl (lb rfl))) F S rfl rfl ?_; clear F a; intro a F
     obtain ⟨y4, hy4, hm⟩ := bind_some hm
     refine wl_call0 (wg F rfl rfl rfl rfl hc6) rfl F rfl (sequence_after_ok (fr := (fl [[bx b1 #[.bool o_.Delete, .i6 o_.Replica, .i6 o_.Counter, .i6 o_.AfterReplica, .i6 o_.AfterCounter, .string o_.Line] 33]] fr)) o_ S hy4) rfl tc24 rfl rfl ?_; clear F a S
     rintro _ a w ⟨g5, l5, S, rfl⟩ F; replace S : St g5 [[bx b1 #[.bool o_.Delete, .i6 o_.Replica, .i6 o_.Counter, .i6 o_.AfterReplica, .i6 o_.AfterCounter, .string o_.Line] 33]] fr w := S
     obtain ⟨y5, hy5, hm⟩ := bind_some hm
     refine wl_call0 (wg F rfl rfl rfl rfl hc6) rfl F rfl (sequence_valid_ok (fr := (fl [[bx b1 #[.bool o_.Delete, .i6 o_.Replica, .i6 o_.Counter, .i6 o_.AfterReplica, .i6 o_.AfterCounter, .string o_.Line] 33]] fr)) y4 S hy5) rfl tc47 rfl rfl ?_; clear F a S
     rintro _ a w ⟨g6, l6, S, rfl⟩ F; replace S : St g6 [[bx b1 #[.bool o_.Delete, .i6 o_.Replica, .i6 o_.Counter, .i6 o_.AfterReplica, .i6 o_.AfterCounter, .string o_.Line] 33]] fr w := S
     refine wl_ev (wg F rfl rfl rfl rfl hc6) (ev_not rfl) F S rfl rfl ?_; clear F a; intro a F
     refine wE (ev_pickT rfl hc6 rfl) F S rfl fun a F=>?_
     obtain rfl := sinj hm
     refine wpList_nil (then_n ?_); exact ⟨g6, F.sub ⟨rfl, rfl, trivial⟩, (l5.trans l6), S⟩
    ·refine wl_skip rfl rfl rfl rfl (ne_tf hc6) F rfl rfl ?_; clear F a; intro a F
     refine wl_skip rfl rfl rfl rfl (ne_tf hc6) F rfl rfl ?_; clear F a; intro a F
     refine wl_skip rfl rfl rfl rfl (ne_tf hc6) F rfl rfl ?_; clear F a; intro a F
     refine wl_skip rfl rfl rfl rfl (ne_tf hc6) F rfl rfl ?_; clear F a; intro a F
     refine wE (ev_pickF rfl hc6 rfl) F S rfl fun a F=>?_
     obtain rfl := sinj hm
     refine wpList_nil (then_n ?_); exact ⟨g3, F.sub ⟨rfl, rfl, trivial⟩, (Le.refl _), S⟩
   clear F S; rintro a w ⟨g4, F, l4, S⟩
   refine wE (ev_assign rfl) F S rfl fun a F=>?_
   refine wpList_nil ?_
   refine then_n ?_
   obtain ⟨hc7, hm⟩ | ⟨hc7, hm⟩ := ite_or hm
   ·refine wp_condT F rfl hc7 ?_
    refine wp_seq ?_
    refine wp_region_lit ?_
    refine wE (ev_assign rfl) F S rfl fun a F=>?_
    refine wpList_nil ?_
    refine then_n ?_
    refine wp_ret ?_
    refine inb_r ?_
    refine then_r ?_
    obtain rfl := sinj hm
    refine post_r _ F rfl (ar_cons (resT rfl) ar_nil) ?_
    replace S : St g4 [] fr w := St.tail [] _ S
    exact ⟨_, rfl, g4, (((l1.trans l2).trans l3).trans l4), S, rfl⟩
   ·refine wp_condF F rfl hc7 ?_
    refine wp_seq ?_
    refine wp_quiet mo (by kernel_rfl) S ?_
    refine wq_ev (wn rfl) (ev_fieldAddr' tu33 tf33_0 (z := 0) ts4 rfl ⟨_, rfl⟩ rfl) F rfl rfl ?_; clear F a; intro a F
    refine wq_ev (wn rfl) (ev_load1 tu4 rfl rfl (box_ptr (cells := [.bool o_.Delete]) 0 rfl 0 rfl (lb rfl))) F rfl rfl ?_; clear F a; intro a F
    refine wq_ev (wn rfl) (ev_not rfl) F rfl rfl ?_; clear F a; intro a F
    refine wq_ev (wn rfl) (ev_move rfl) F rfl rfl ?_; clear F a; intro a F
    obtain ⟨x5, hx5, hm⟩ := bind_some hm
    refine wq_cut 7 (fun a => Fr 56 a [(50, .bool x5), (1, bp b1 0)]) ?_ ?_
    ·clear hm; obtain ⟨hc8, hm⟩ | ⟨hc8, hm⟩ := ite_or hx5
     ·refine wq_ev (wg F rfl rfl rfl rfl hc8) (ev_loadA tu33 rfl (cs := [.bool o_.Delete, .i6 o_.Replica, .i6 o_.Counter, .i6 o_.AfterReplica, .i6 o_.AfterCounter, .string o_.Line]) ts33 rfl (box_ptr (cells := [.bool o_.Delete, .i6 o_.Replica, .i6 o_.Counter, .i6 o_.AfterReplica, .i6 o_.AfterCounter, .string o_.Line]) 0 rfl 0 rfl (lb rfl))) F rfl rfl ?_; clear F a; intro a F
      obtain ⟨y6, hy6, hm⟩ := bind_some hm
      refine wq_call (wg F rfl rfl rfl rfl hc8) rfl (xs := [.tmp 44]) (vs := [.agg #[.bool o_.Delete, .i6 o_.Replica, .i6 o_.Counter, .i6 o_.AfterReplica, .i6 o_.AfterCounter, .string o_.Line]]) (cap := []) F rfl rfl tc24 (v := .agg #[.i6 y6.counter, .i6 y6.replica]) (fun w S => (sequence_after_ok (g := g4) (fr := (fl [[bx b1 #[.bool o_.Delete, .i6 o_.Replica, .i6 o_.Counter, .i6 o_.AfterReplica, .i6 o_.AfterCounter, .string o_.Line] 33]] fr)) (w := w) o_ S hy6).mono (by rintro en w' ⟨_, rfl, g2, l2, S2, rfl⟩; exact ⟨rfl, S2.weak l2⟩)) rfl rfl ?_; clear F a; intro a F
      refine wq_ev (wg F rfl rfl rfl rfl hc8) (ev_loadA tu33 rfl (cs := [.bool o_.Delete, .i6 o_.Replica, .i6 o_.Counter, .i6 o_.AfterReplica, .i6 o_.AfterCounter, .string o_.Line]) ts33 rfl (box_ptr (cells := [.bool o_.Delete, .i6 o_.Replica, .i6 o_.Counter, .i6 o_.AfterReplica, .i6 o_.AfterCounter, .string o_.Line]) 0 rfl 0 rfl (lb rfl))) F rfl rfl ?_; clear F a; intro a F
      obtain ⟨y7, hy7, hm⟩ := bind_some hm
      refine wq_call (wg F rfl rfl rfl rfl hc8) rfl (xs := [.tmp 46]) (vs := [.agg #[.bool o_.Delete, .i6 o_.Replica, .i6 o_.Counter, .i6 o_.AfterReplica, .i6 o_.AfterCounter, .string o_.Line]]) (cap := []) F rfl rfl tc23 (v := .agg #[.i6 y7.counter, .i6 y7.replica]) (fun w S => (sequence_own_ok (g := g4) (fr := (fl [[bx b1 #[.bool o_.Delete, .i6 o_.Replica, .i6 o_.Counter, .i6 o_.AfterReplica, .i6 o_.AfterCounter, .string o_.Line] 33]] fr)) (w := w) o_ S hy7).mono (by rintro en w' ⟨_, rfl, g2, l2, S2, rfl⟩; exact ⟨rfl, S2.weak l2⟩)) rfl rfl ?_; clear F a; intro a F
      obtain ⟨y8, hy8, hm⟩ := bind_some hm
      refine wq_call (wg F rfl rfl rfl rfl hc8) rfl (xs := [.tmp 45, .tmp 47]) (vs := [.agg #[.i6 y6.counter, .i6 y6.replica], .agg #[.i6 y7.counter, .i6 y7.replica]]) (cap := []) F rfl rfl tc28 (v := .i6 y8) (fun w S => (sequence_compare_ok (g := g4) (fr := (fl [[bx b1 #[.bool o_.Delete, .i6 o_.Replica, .i6 o_.Counter, .i6 o_.AfterReplica, .i6 o_.AfterCounter, .string o_.Line] 33]] fr)) (w := w) y6 y7 S hy8).mono (by rintro en w' ⟨_, rfl, g2, l2, S2, rfl⟩; exact ⟨rfl, S2.weak l2⟩)) rfl rfl ?_; clear F a; intro a F
      refine wq_ev (wg F rfl rfl rfl rfl hc8) (ev_int rfl rfl (bo_geq _ _ _ _)) F rfl rfl ?_; clear F a; intro a F
      refine wq_ev (wn rfl) (ev_pickT rfl hc8 rfl) F rfl rfl ?_; clear F a; intro a F
      obtain rfl := sinj hm
      refine wq_nil ?_; exact F.sub ⟨rfl, rfl, trivial⟩
     ·refine wq_skip rfl rfl rfl rfl (ne_tf hc8) F rfl rfl ?_; clear F a; intro a F
      refine wq_skip rfl rfl rfl rfl (ne_tf hc8) F rfl rfl ?_; clear F a; intro a F
      refine wq_skip rfl rfl rfl rfl (ne_tf hc8) F rfl rfl ?_; clear F a; intro a F
      refine wq_skip rfl rfl rfl rfl (ne_tf hc8) F rfl rfl ?_; clear F a; intro a F
      refine wq_skip rfl rfl rfl rfl (ne_tf hc8) F rfl rfl ?_; clear F a; intro a F
      refine wq_skip rfl rfl rfl rfl (ne_tf hc8) F rfl rfl ?_; clear F a; intro a F
      refine wq_ev (wn rfl) (ev_pickF rfl hc8 rfl) F rfl rfl ?_; clear F a; intro a F
      obtain rfl := sinj hm
      refine wq_nil ?_; exact F.sub ⟨rfl, rfl, trivial⟩
    clear F; intro a F
    refine wq_ev (wn rfl) (ev_assign rfl) F rfl rfl ?_; clear F a; intro a F
    refine wq_nil ?_; clear S; intro w S
    refine then_n ?_
    obtain ⟨hc9, hm⟩ | ⟨hc9, hm⟩ := ite_or hm
    ·refine wp_condT F rfl hc9 ?_
     refine wp_seq ?_
     refine wp_region_lit ?_
     refine wE (ev_assign rfl) F S rfl fun a F=>?_
     refine wpList_nil ?_
     refine then_n ?_
     refine wp_ret ?_
     refine inb_r ?_
     refine then_r ?_
     obtain rfl := sinj hm
     refine post_r _ F rfl (ar_cons (resT rfl) ar_nil) ?_
     replace S : St g4 [] fr w := St.tail [] _ S
     exact ⟨_, rfl, g4, (((l1.trans l2).trans l3).trans l4), S, rfl⟩
    ·refine wp_condF F rfl hc9 ?_
     refine wp_skip ?_
     refine inb_n ?_
     refine then_n ?_
     refine wp_seq ?_
     refine wp_region_lit ?_
     refine wE (ev_fieldAddr' tu33 tf33_5 (z := 0) ts9 rfl ⟨_, rfl⟩ rfl) F S rfl fun a F=>?_
     refine wE (ev_load1 tu9 rfl rfl (box_ptr (cells := [.string o_.Line]) 0 rfl 5 rfl (lb rfl))) F S rfl fun a F=>?_
     refine wl_lit (l := ([o_.Line] : List ByteArray)) (vs := [.string o_.Line]) (parts := [(0, .tmp 52)]) (wn rfl) rfl rfl rfl tu23 te9 (sz_cons rfl sz_nil) rfl (Cat.cons (show Rep.rep _ o_.Line _ from rfl) (Cat.nil _)) (coa_cons rfl coa_nil) rfl F S rfl rfl ?_; clear F a S
     rintro v1 c1 a w h1 F S
     obtain ⟨g10, l10, S, h2⟩ : ∃ gz, Le g4 gz ∧ St gz [[bx b1 #[.bool o_.Delete, .i6 o_.Replica, .i6 o_.Counter, .i6 o_.AfterReplica, .i6 o_.AfterCounter, .string o_.Line] 33]] fr w ∧ RepSl gz ([o_.Line] : List ByteArray) v1 := ⟨_, Le.add _ _, S.freeze 0 rfl, OwnS.freeze (S.front 0 rfl) h1⟩
     obtain ⟨y9, hy9, hm⟩ := bind_some hm
     refine wl_call0 (wn rfl) rfl F rfl (lines_Validate_ok (fr := (fl [[bx b1 #[.bool o_.Delete, .i6 o_.Replica, .i6 o_.Counter, .i6 o_.AfterReplica, .i6 o_.AfterCounter, .string o_.Line] 33]] fr)) ([o_.Line] : List ByteArray) v1 h2 S hy9) rfl tc16 rfl rfl ?_; clear F a S
     rintro _ a w ⟨g11, l11, S, rfl⟩ F; replace S : St g11 [[bx b1 #[.bool o_.Delete, .i6 o_.Replica, .i6 o_.Counter, .i6 o_.AfterReplica, .i6 o_.AfterCounter, .string o_.Line] 33]] fr w := S
     refine wE (ev_field1 tu25 tf25_0 tu3 rfl (cs := [.i6 y9.Code, .i6 y9.Index]) rfl rfl) F S rfl fun a F=>?_
     refine wE (ev_assign rfl) F S rfl fun a F=>?_
     refine wpList_nil ?_
     refine then_n ?_
     refine wp_ret ?_
     obtain rfl := sinj hm
     refine post_r _ F rfl (ar_cons (resT rfl) ar_nil) ?_
     replace S : St g11 [] fr w := St.tail [] _ S
     exact ⟨_, rfl, g11, (((((l1.trans l2).trans l3).trans l4).trans l10).trans l11), S, rfl⟩

theorem sequence_Validate_ok {g : Gh} {fr : Hl} {w : World} {r : Fault} (ops : (List SeqOp)) (vops1 : Value) (hops1 : RepSl g ops vops1) (S : St g [] fr w) (hm : sequence_Validate ops = some r) :
  Calls Try.prog 20 [vops1].toArray w (fun en w' => ∃ v, en = .returned v ∧ ∃ (g' : Gh), Le g g' ∧ St g' [] fr w' ∧ .agg #[.i6 r.Code, .i6 r.Index] = v) := by
 unfold sequence_Validate at hm
 refine calls_enter (fn := Try.f20) Try.func20 rfl Try.ntmps20 (lb rfl) ?_
 intro a F
 replace F : Fr 73 a [(0, vops1)] := F
 refine wp_seq ?_
 refine wp_region_lit ?_
 refine wl_alloc (wn rfl) rfl tz25 (cs := [.i6 0, .i6 0]) rfl F S rfl rfl ?_; clear F a S; rintro b1 a w F S
 refine wpList_nil ?_
 refine then_n ?_
 refine wp_seq ?_
 refine wp_seq ?_
 refine wp_region_lit ?_
 refine wE (ev_move rfl) F S rfl fun a F=>?_
 refine wE (ev_lenSh hops1 rfl tu22) F S rfl fun a F=>?_
 refine wE (ev_int rfl rfl (bo_gtr _ _ _ _)) F S rfl fun a F=>?_
 refine wpList_nil ?_
 refine then_n ?_
 obtain ⟨hc1, hm⟩ | ⟨hc1, hm⟩ := ite_or hm
 ·refine wp_condT F rfl hc1 ?_
  refine wp_seq ?_
  refine wp_region_lit ?_
  refine wE (ev_build (parts := [(0, .const (.i6 2)), (1, .const (.i6 (-1)))]) (vs := [(0, .i6 2), (1, .i6 (-1))]) rfl (fun w => tb25_0_1 2 (-1) w)) F S rfl fun a F=>?_
  refine wl_storeC (wn rfl) rfl F S rfl rfl (vs := [.i6 2, .i6 (-1)]) rfl ts25 (one_cons rfl (one_cons rfl one_nil)) (k := 0) rfl (lb rfl) (c' := #[.i6 2, .i6 (-1)]) rfl rfl ?_; clear S; intro w S
  refine wpList_nil ?_
  refine then_n ?_
  refine wp_ret ?_
  refine then_r ?_
  obtain rfl := sinj hm
  refine post_r _ F rfl (ar_cons (resA rfl tu25 rfl (box_ptr (cells := [.i6 2, .i6 (-1)]) 0 rfl 0 rfl (lb rfl) w S) ts25) ar_nil) ?_
  replace S : St g [] fr w := St.tail [] _ S
  exact ⟨_, rfl, g, (Le.refl _), S, rfl⟩
 ·refine wp_condF F rfl hc1 ?_
  refine wp_skip ?_
  refine then_n ?_
  refine wp_seq ?_
  refine wp_region_lit ?_
  refine wl_makeB (wn rfl) rfl F S rfl rfl ?_; clear F a S; rintro v1 c1 a w h1 F S
  refine wl_makeB (wn rfl) rfl F S rfl rfl ?_; clear F a S; rintro v2 c2 a w h2 F S
  refine wE (ev_assign rfl) F S rfl fun a F=>?_
  refine wE (ev_assign rfl) F S rfl fun a F=>?_
  refine wpList_nil ?_
  refine then_n ?_
  refine wp_cut (fun a w => ∃ (x1 : List (K2 × Bool)) (c3 : Hl) (g1 : Gh), Fr 73 a [(3, v1), (2, bp b1 0), (0, vops1)] ∧ Le g g1 ∧ St g1 [c3, [bx b1 #[.i6 0, .i6 0] 25]] fr w ∧ OwnB g1 x1 v1 c3 ∧ sequence_Validate.j1 ops x1 = some r) ?_ ?_
  ·refine wp_seq ?_
   refine wp_region_lit ?_
   refine wE (ev_move rfl) F S rfl fun a F=>?_
   refine wE (ev_lenSh hops1 rfl tu22) F S rfl fun a F=>?_
   refine wE (ev_move rfl) F S rfl fun a F=>?_
   refine wpList_nil ?_
   refine then_n ?_
   refine wp_block ?_
   obtain ⟨r2, hr3, hm⟩ := bind_some hm
   have hmo2 := hm; clear hm
   refine wp_iter (σ := Int × (List (K2 × Bool)) × (List (K2 × Bool))) (ρ := Fault ⊕ (List (K2 × Bool))) (m := fun s => sequence_Validate.l2 ops s.1 s.2.1 s.2.2) (I := fun s a w => match s with | (x7, x8, x9) => ∃ (c4 c5 : Hl) (g7 : Gh), Fr 73 a [(20, .i6 x7), (19, .i6 (ops.length : Int)), (18, vops1), (4, v2), (3, v1), (2, bp b1 0), (0, vops1)] ∧ Le g g7 ∧ St g7 [c4, c5, [bx b1 #[.i6 0, .i6 0] 25]] fr w ∧ OwnB g7 x8 v2 c4 ∧ OwnB g7 x9 v1 c5) hr3 ?_ ?_
   ·dsimp only
    exact ⟨c2, c1, g, F.sub ⟨rfl, rfl, rfl, rfl, rfl, rfl, rfl, trivial⟩, (Le.refl _), S, h2, h1⟩
   ·clear F S; rintro ⟨x7, x8, x9⟩ a w x10 ⟨c4, c5, g7, F, l7, S, h4, h5⟩ hx3 hfin2
    have hm : sequence_Validate.l2 ops x7 x8 x9 = some x10 := hx3; clear hx3
    unfold sequence_Validate.l2 at hm
    refine wp_seq ?_
    refine wp_region_lit ?_
    refine wE (ev_int rfl rfl (bo_lss _ _ _ _)) F S rfl fun a F=>?_
    refine wpList_nil ?_
    refine then_n ?_
    refine wp_seq ?_
    obtain ⟨hc6, hm⟩ | ⟨hc6, hm⟩ := ite_or hm
    ·refine wp_condT F rfl hc6 ?_
     refine wp_skip ?_
     refine then_n ?_
     refine wp_seq ?_
     refine wp_block ?_
     refine wp_seq ?_
     refine wp_region_lit ?_
     refine wE (ev_move rfl) F S rfl fun a F=>?_
     obtain ⟨y4, hy4, hm⟩ := bind_some hm
     obtain ⟨cs2, hr4, hp2⟩ := elemS (hops1.mono l7) hy4
     obtain rfl := rep_SeqOp hr4
     refine wE (ev_idxS (hops1.mono l7) hy4 tu22 ts33 rfl rfl) F S rfl fun a F=>?_
     refine wE (ev_loadA tu33 rfl (cs := [.bool y4.Delete, .i6 y4.Replica, .i6 y4.Counter, .i6 y4.AfterReplica, .i6 y4.AfterCounter, .string y4.Line]) ts33 rfl (ptr_mono (cks := [c4, c5, [bx b1 #[.i6 0, .i6 0] 25]]) (fr := fr) hp2 (Le.refl _))) F S rfl fun a F=>?_
     refine wl_alloc (wn rfl) rfl tz33 (cs := [.bool false, .i6 0, .i6 0, .i6 0, .i6 0, .string ByteArray.empty]) rfl F S rfl rfl ?_; clear F a S; rintro b4 a w F S
     refine wE (ev_assign rfl) F S rfl fun a F=>?_
     refine wl_storeC (wn rfl) rfl F S rfl rfl (vs := [.bool y4.Delete, .i6 y4.Replica, .i6 y4.Counter, .i6 y4.AfterReplica, .i6 y4.AfterCounter, .string y4.Line]) rfl ts33 (one_cons rfl (one_cons rfl (one_cons rfl (one_cons rfl (one_cons rfl (one_cons rfl one_nil)))))) (k := 0) rfl (lb rfl) (c' := #[.bool y4.Delete, .i6 y4.Replica, .i6 y4.Counter, .i6 y4.AfterReplica, .i6 y4.AfterCounter, .string y4.Line]) rfl rfl ?_; clear S; intro w S
     refine wpList_nil ?_
     refine then_n ?_
     refine wp_seq ?_
     refine wp_seq ?_
     refine wp_region_lit ?_
     refine wE (ev_loadA tu33 rfl (cs := [.bool y4.Delete, .i6 y4.Replica, .i6 y4.Counter, .i6 y4.AfterReplica, .i6 y4.AfterCounter, .string y4.Line]) ts33 rfl (box_ptr (cells := [.bool y4.Delete, .i6 y4.Replica, .i6 y4.Counter, .i6 y4.AfterReplica, .i6 y4.AfterCounter, .string y4.Line]) 0 rfl 0 rfl (lb rfl))) F S rfl fun a F=>?_
     obtain ⟨y5, hy5, hm⟩ := bind_some hm
     refine wl_call0 (wn rfl) rfl F rfl (sequence_check_ok (fr := (fl [[bx b4 #[.bool y4.Delete, .i6 y4.Replica, .i6 y4.Counter, .i6 y4.AfterReplica, .i6 y4.AfterCounter, .string y4.Line] 33], c4, c5, [bx b1 #[.i6 0, .i6 0] 25]] fr)) y4 S hy5) rfl tc38 rfl rfl ?_; clear F a S
     rintro _ a w ⟨g8, l8, S, rfl⟩ F; replace S : St g8 [[bx b4 #[.bool y4.Delete, .i6 y4.Replica, .i6 y4.Counter, .i6 y4.AfterReplica, .i6 y4.AfterCounter, .string y4.Line] 33], c4, c5, [bx b1 #[.i6 0, .i6 0] 25]] fr w := S
     refine wE (ev_assign rfl) F S rfl fun a F=>?_
     refine wpList_nil ?_
     refine then_n ?_
     refine wp_seq ?_
     refine wp_region_lit ?_
     refine wE (ev_move rfl) F S rfl fun a F=>?_
     refine wE (ev_int rfl rfl (bo_neq _ _ _ _)) F S rfl fun a F=>?_
     refine wpList_nil ?_
     refine then_n ?_
     obtain ⟨hc7, hm⟩ | ⟨hc7, hm⟩ := ite_or hm
     ·refine wp_condT F rfl hc7 ?_
      refine wp_seq ?_
      refine wp_region_lit ?_
      refine wE (ev_move rfl) F S rfl fun a F=>?_
      refine wE (ev_move rfl) F S rfl fun a F=>?_
      refine wE (ev_build (parts := [(0, .tmp 29), (1, .tmp 30)]) (vs := [(0, .i6 y5), (1, .i6 x7)]) rfl (fun w => tb25_0_1 y5 x7 w)) F S rfl fun a F=>?_
      refine wl_storeC (wn rfl) rfl F S rfl rfl (vs := [.i6 y5, .i6 x7]) rfl ts25 (one_cons rfl (one_cons rfl one_nil)) (k := 3) rfl (lb rfl) (c' := #[.i6 y5, .i6 x7]) rfl rfl ?_; clear S; intro w S
      refine wpList_nil ?_
      refine then_n ?_
      refine wp_ret ?_
      refine then_r ?_
      refine inb_r ?_
      refine then_r ?_
      refine then_r ?_
      refine inb_r ?_
      refine then_r ?_
      obtain rfl := sinj hm
      obtain rfl := hfin2 _ rfl
      clear hm
      have hm : (some ({ Code := y5, Index := x7 } : Fault) : Option Fault) = some _ := hmo2
      obtain rfl := sinj hm
      refine post_r _ F rfl (ar_cons (resA rfl tu25 rfl (box_ptr (cells := [.i6 y5, .i6 x7]) 3 rfl 0 rfl (lb rfl) w S) ts25) ar_nil) ?_
      replace S : St g8 [] fr w := St.tail [] _ S
      exact ⟨_, rfl, g8, (l7.trans l8), S, rfl⟩
     ·refine wp_condF F rfl hc7 ?_
      refine wp_skip ?_
      refine then_n ?_
      refine wp_seq ?_
      refine wp_region_lit ?_
      refine wE (ev_move rfl) F S rfl fun a F=>?_
      refine wE (ev_assign rfl) F S rfl fun a F=>?_
      refine wpList_nil ?_
      refine then_n ?_
      refine wp_seq ?_
      refine wp_seq ?_
      refine wp_region_lit ?_
      refine wE (ev_fieldAddr' tu33 tf33_0 (z := 0) ts4 rfl ⟨_, rfl⟩ rfl) F S rfl fun a F=>?_
      refine wE (ev_load1 tu4 rfl rfl (box_ptr (cells := [.bool y4.Delete]) 0 rfl 0 rfl (lb rfl))) F S rfl fun a F=>?_
      refine wpList_nil ?_
      refine then_n ?_
      obtain ⟨hc8, hm⟩ | ⟨hc8, hm⟩ := ite_or hm
      ·refine wp_condT F rfl hc8 ?_
       refine wp_region_lit ?_
       refine wE (ev_move rfl) F S rfl fun a F=>?_
       refine wE (ev_assign rfl) F S rfl fun a F=>?_
       refine wpList_nil ?_
       refine then_n ?_
       refine wp_seq ?_
       refine wp_seq ?_
       refine wp_region_lit ?_
       refine wE (ev_move rfl) F S rfl fun a F=>?_
       refine wE (ev_loadA tu33 rfl (cs := [.bool y4.Delete, .i6 y4.Replica, .i6 y4.Counter, .i6 y4.AfterReplica, .i6 y4.AfterCounter, .string y4.Line]) ts33 rfl (box_ptr (cells := [.bool y4.Delete, .i6 y4.Replica, .i6 y4.Counter, .i6 y4.AfterReplica, .i6 y4.AfterCounter, .string y4.Line]) 0 rfl 0 rfl (lb rfl))) F S rfl fun a F=>?_
       obtain ⟨y6, hy6, hm⟩ := bind_some hm
       refine wl_call0 (wn rfl) rfl F rfl (sequence_own_ok (fr := (fl [[bx b4 #[.bool y4.Delete, .i6 y4.Replica, .i6 y4.Counter, .i6 y4.AfterReplica, .i6 y4.AfterCounter, .string y4.Line] 33], c4, c5, [bx b1 #[.i6 0, .i6 0] 25]] fr)) y4 S hy6) rfl tc23 rfl rfl ?_; clear F a S
       rintro _ a w ⟨g9, l9, S, rfl⟩ F; replace S : St g9 [[bx b4 #[.bool y4.Delete, .i6 y4.Replica, .i6 y4.Counter, .i6 y4.AfterReplica, .i6 y4.AfterCounter, .string y4.Line] 33], c4, c5, [bx b1 #[.i6 0, .i6 0] 25]] fr w := S
       refine wE (ev_lookB (h4.mono (l8.trans l9)) tk48 tu45 tz4 rfl (k := (y6.counter, y6.replica)) rfl 1 rfl) F S rfl fun a F=>?_
       refine wpList_nil ?_
       refine then_n ?_
       obtain ⟨hc9, hm⟩ | ⟨hc9, hm⟩ := ite_or hm
       ·refine wp_condT F rfl hc9 ?_
        refine wp_seq ?_
        refine wp_region_lit ?_
        refine wE (ev_move rfl) F S rfl fun a F=>?_
        refine wE (ev_build (parts := [(0, .const (.i6 7)), (1, .tmp 40)]) (vs := [(0, .i6 7), (1, .i6 x7)]) rfl (fun w => tb25_0_1 7 x7 w)) F S rfl fun a F=>?_
        refine wl_storeC (wn rfl) rfl F S rfl rfl (vs := [.i6 7, .i6 x7]) rfl ts25 (one_cons rfl (one_cons rfl one_nil)) (k := 3) rfl (lb rfl) (c' := #[.i6 7, .i6 x7]) rfl rfl ?_; clear S; intro w S
        refine wpList_nil ?_
        refine then_n ?_
        refine wp_ret ?_
        refine then_r ?_
        refine inb_r ?_
        refine then_r ?_
        refine then_r ?_
        refine inb_r ?_
        refine then_r ?_
        obtain rfl := sinj hm
        obtain rfl := hfin2 _ rfl
        clear hm
        have hm : (some ({ Code := 7, Index := x7 } : Fault) : Option Fault) = some _ := hmo2
        obtain rfl := sinj hm
        refine post_r _ F rfl (ar_cons (resA rfl tu25 rfl (box_ptr (cells := [.i6 7, .i6 x7]) 3 rfl 0 rfl (lb rfl) w S) ts25) ar_nil) ?_
        replace S : St g9 [] fr w := St.tail [] _ S
        exact ⟨_, rfl, g9, ((l7.trans l8).trans l9), S, rfl⟩
       ·refine wp_condF F rfl hc9 ?_
        refine wp_skip ?_
        refine then_n ?_
        refine wp_region_lit ?_
        refine wE (ev_move rfl) F S rfl fun a F=>?_
        refine wE (ev_loadA tu33 rfl (cs := [.bool y4.Delete, .i6 y4.Replica, .i6 y4.Counter, .i6 y4.AfterReplica, .i6 y4.AfterCounter, .string y4.Line]) ts33 rfl (box_ptr (cells := [.bool y4.Delete, .i6 y4.Replica, .i6 y4.Counter, .i6 y4.AfterReplica, .i6 y4.AfterCounter, .string y4.Line]) 0 rfl 0 rfl (lb rfl))) F S rfl fun a F=>?_
        obtain ⟨y7, hy7, hm⟩ := bind_some hm
        refine wl_call0 (wn rfl) rfl F rfl (sequence_own_ok (fr := (fl [[bx b4 #[.bool y4.Delete, .i6 y4.Replica, .i6 y4.Counter, .i6 y4.AfterReplica, .i6 y4.AfterCounter, .string y4.Line] 33], c4, c5, [bx b1 #[.i6 0, .i6 0] 25]] fr)) y4 S hy7) rfl tc23 rfl rfl ?_; clear F a S
        rintro _ a w ⟨g10, l10, S, rfl⟩ F; replace S : St g10 [[bx b4 #[.bool y4.Delete, .i6 y4.Replica, .i6 y4.Counter, .i6 y4.AfterReplica, .i6 y4.AfterCounter, .string y4.Line] 33], c4, c5, [bx b1 #[.i6 0, .i6 0] 25]] fr w := S
        refine wl_updB (h4.mono ((l8.trans l9).trans l10)) tk48 tu45 (wn rfl) rfl F S rfl (k := (y7.counter, y7.replica)) rfl rfl 1 rfl rfl ?_; clear S
        rintro c6 w h6 S; replace S : St g10 [[bx b4 #[.bool y4.Delete, .i6 y4.Replica, .i6 y4.Counter, .i6 y4.AfterReplica, .i6 y4.AfterCounter, .string y4.Line] 33], c6, c5, [bx b1 #[.i6 0, .i6 0] 25]] fr w := S
        obtain ⟨y8, hy8, hm⟩ := bind_some hm
        replace h6 : OwnB g10 y8 v2 c6 := sinj hy8 ▸ h6
        refine wpList_nil ?_
        refine inb_n ?_
        refine then_n ?_
        refine wp_region_lit ?_
        obtain ⟨z2, hz2, hm⟩ := bind_some hm
        refine wE (ev_int rfl rfl (bo_add hz2)) F S rfl fun a F=>?_
        refine wE (ev_move rfl) F S rfl fun a F=>?_
        refine wpList_nil ?_
        refine then_n ?_
        obtain rfl := sinj hm
        refine ⟨_, rfl, ?_⟩
        dsimp only
        replace S : St g10 [c6, c5, [bx b1 #[.i6 0, .i6 0] 25]] fr w := St.tail [c6, c5, [bx b1 #[.i6 0, .i6 0] 25]] _ (((S.frontC 3 rfl).frontC 3 rfl).frontC 3 rfl)
        exact ⟨c6, c5, g10, F.sub ⟨rfl, rfl, rfl, rfl, rfl, rfl, rfl, trivial⟩, (((l7.trans l8).trans l9).trans l10), S, h6, (h5.mono ((l8.trans l9).trans l10))⟩
      ·refine wp_condF F rfl hc8 ?_
       refine wp_skip ?_
       refine then_n ?_
       refine wp_seq ?_
       refine wp_seq ?_
       refine wp_region_lit ?_
       refine wE (ev_move rfl) F S rfl fun a F=>?_
       refine wE (ev_loadA tu33 rfl (cs := [.bool y4.Delete, .i6 y4.Replica, .i6 y4.Counter, .i6 y4.AfterReplica, .i6 y4.AfterCounter, .string y4.Line]) ts33 rfl (box_ptr (cells := [.bool y4.Delete, .i6 y4.Replica, .i6 y4.Counter, .i6 y4.AfterReplica, .i6 y4.AfterCounter, .string y4.Line]) 0 rfl 0 rfl (lb rfl))) F S rfl fun a F=>?_
       obtain ⟨y9, hy9, hm⟩ := bind_some hm
       refine wl_call0 (wn rfl) rfl F rfl (sequence_own_ok (fr := (fl [[bx b4 #[.bool y4.Delete, .i6 y4.Replica, .i6 y4.Counter, .i6 y4.AfterReplica, .i6 y4.AfterCounter, .string y4.Line] 33], c4, c5, [bx b1 #[.i6 0, .i6 0] 25]] fr)) y4 S hy9) rfl tc23 rfl rfl ?_; clear F a S
       rintro _ a w ⟨g11, l11, S, rfl⟩ F; replace S : St g11 [[bx b4 #[.bool y4.Delete, .i6 y4.Replica, .i6 y4.Counter, .i6 y4.AfterReplica, .i6 y4.AfterCounter, .string y4.Line] 33], c4, c5, [bx b1 #[.i6 0, .i6 0] 25]] fr w := S
       refine wE (ev_lookB (h5.mono (l8.trans l11)) tk48 tu45 tz4 rfl (k := (y9.counter, y9.replica)) rfl 2 rfl) F S rfl fun a F=>?_
       refine wpList_nil ?_
       refine then_n ?_
       obtain ⟨hc10, hm⟩ | ⟨hc10, hm⟩ := ite_or hm
       ·refine wp_condT F rfl hc10 ?_
        refine wp_seq ?_
        refine wp_region_lit ?_
        refine wE (ev_move rfl) F S rfl fun a F=>?_
        refine wE (ev_build (parts := [(0, .const (.i6 7)), (1, .tmp 40)]) (vs := [(0, .i6 7), (1, .i6 x7)]) rfl (fun w => tb25_0_1 7 x7 w)) F S rfl fun a F=>?_
        refine wl_storeC (wn rfl) rfl F S rfl rfl (vs := [.i6 7, .i6 x7]) rfl ts25 (one_cons rfl (one_cons rfl one_nil)) (k := 3) rfl (lb rfl) (c' := #[.i6 7, .i6 x7]) rfl rfl ?_; clear S; intro w S
        refine wpList_nil ?_
        refine then_n ?_
        refine wp_ret ?_
        refine then_r ?_
        refine inb_r ?_
        refine then_r ?_
        refine then_r ?_
        refine inb_r ?_
        refine then_r ?_
        obtain rfl := sinj hm
        obtain rfl := hfin2 _ rfl
        clear hm
        have hm : (some ({ Code := 7, Index := x7 } : Fault) : Option Fault) = some _ := hmo2
        obtain rfl := sinj hm
        refine post_r _ F rfl (ar_cons (resA rfl tu25 rfl (box_ptr (cells := [.i6 7, .i6 x7]) 3 rfl 0 rfl (lb rfl) w S) ts25) ar_nil) ?_
        replace S : St g11 [] fr w := St.tail [] _ S
        exact ⟨_, rfl, g11, ((l7.trans l8).trans l11), S, rfl⟩
       ·refine wp_condF F rfl hc10 ?_
        refine wp_skip ?_
        refine then_n ?_
        refine wp_region_lit ?_
        refine wE (ev_move rfl) F S rfl fun a F=>?_
        refine wE (ev_loadA tu33 rfl (cs := [.bool y4.Delete, .i6 y4.Replica, .i6 y4.Counter, .i6 y4.AfterReplica, .i6 y4.AfterCounter, .string y4.Line]) ts33 rfl (box_ptr (cells := [.bool y4.Delete, .i6 y4.Replica, .i6 y4.Counter, .i6 y4.AfterReplica, .i6 y4.AfterCounter, .string y4.Line]) 0 rfl 0 rfl (lb rfl))) F S rfl fun a F=>?_
        obtain ⟨y10, hy10, hm⟩ := bind_some hm
        refine wl_call0 (wn rfl) rfl F rfl (sequence_own_ok (fr := (fl [[bx b4 #[.bool y4.Delete, .i6 y4.Replica, .i6 y4.Counter, .i6 y4.AfterReplica, .i6 y4.AfterCounter, .string y4.Line] 33], c4, c5, [bx b1 #[.i6 0, .i6 0] 25]] fr)) y4 S hy10) rfl tc23 rfl rfl ?_; clear F a S
        rintro _ a w ⟨g12, l12, S, rfl⟩ F; replace S : St g12 [[bx b4 #[.bool y4.Delete, .i6 y4.Replica, .i6 y4.Counter, .i6 y4.AfterReplica, .i6 y4.AfterCounter, .string y4.Line] 33], c4, c5, [bx b1 #[.i6 0, .i6 0] 25]] fr w := S
        refine wl_updB (h5.mono ((l8.trans l11).trans l12)) tk48 tu45 (wn rfl) rfl F S rfl (k := (y10.counter, y10.replica)) rfl rfl 2 rfl rfl ?_; clear S
        rintro c7 w h7 S; replace S : St g12 [[bx b4 #[.bool y4.Delete, .i6 y4.Replica, .i6 y4.Counter, .i6 y4.AfterReplica, .i6 y4.AfterCounter, .string y4.Line] 33], c4, c7, [bx b1 #[.i6 0, .i6 0] 25]] fr w := S
        obtain ⟨y11, hy11, hm⟩ := bind_some hm
        replace h7 : OwnB g12 y11 v1 c7 := sinj hy11 ▸ h7
        refine wpList_nil ?_
        refine inb_n ?_
        refine then_n ?_
        refine wp_region_lit ?_
        obtain ⟨z3, hz3, hm⟩ := bind_some hm
        refine wE (ev_int rfl rfl (bo_add hz3)) F S rfl fun a F=>?_
        refine wE (ev_move rfl) F S rfl fun a F=>?_
        refine wpList_nil ?_
        refine then_n ?_
        obtain rfl := sinj hm
        refine ⟨_, rfl, ?_⟩
        dsimp only
        replace S : St g12 [c4, c7, [bx b1 #[.i6 0, .i6 0] 25]] fr w := St.tail [c4, c7, [bx b1 #[.i6 0, .i6 0] 25]] _ (((S.frontC 3 rfl).frontC 3 rfl).frontC 3 rfl)
        exact ⟨c4, c7, g12, F.sub ⟨rfl, rfl, rfl, rfl, rfl, rfl, rfl, trivial⟩, (((l7.trans l8).trans l11).trans l12), S, (h4.mono ((l8.trans l11).trans l12)), h7⟩
    ·refine wp_condF F rfl hc6 ?_
     refine wp_exit ?_
     refine then_e ?_
     refine then_e ?_
     refine inb_x ?_
     refine then_n ?_
     obtain rfl := sinj hm
     obtain rfl := hfin2 _ rfl
     clear hm
     have hm : (sequence_Validate.j1 ops x9 : Option Fault) = some _ := hmo2
     replace S : St g7 [c5, [bx b1 #[.i6 0, .i6 0] 25]] fr w := St.tail [c5, [bx b1 #[.i6 0, .i6 0] 25]] _ ((S.frontC 2 rfl).frontC 2 rfl)
     exact ⟨x9, c5, g7, F.sub ⟨rfl, rfl, rfl, trivial⟩, l7, S, h5, hm⟩
  ·clear F S hm; rintro a w ⟨x1, c3, g1, F, l1, S, h3, hm⟩
   refine wp_cut (fun a w => ∃ (g2 : Gh), Fr 73 a [(2, bp b1 0)] ∧ Le g1 g2 ∧ St g2 [[bx b1 #[.i6 0, .i6 0] 25]] fr w ∧ sequence_Validate.j2 = some r) ?_ ?_
   ·refine wp_seq ?_
    refine wp_region_lit ?_
    refine wE (ev_move rfl) F S rfl fun a F=>?_
    refine wE (ev_lenSh hops1 rfl tu22) F S rfl fun a F=>?_
    refine wE (ev_move rfl) F S rfl fun a F=>?_
    refine wpList_nil ?_
    refine then_n ?_
    refine wp_block ?_
    obtain ⟨r1, hr1, hm⟩ := bind_some hm
    have hmo1 := hm; clear hm
    refine wp_iter (σ := Int) (ρ := Fault ⊕ Unit) (m := fun s => sequence_Validate.l1 ops x1 s) (I := fun x2 a w => ∃ (g3 : Gh), Fr 73 a [(48, .i6 x2), (47, .i6 (ops.length : Int)), (46, vops1), (3, v1), (2, bp b1 0)] ∧ Le g1 g3 ∧ St g3 [c3, [bx b1 #[.i6 0, .i6 0] 25]] fr w) hr1 ?_ ?_
    ·exact ⟨g1, F.sub ⟨rfl, rfl, rfl, rfl, rfl, trivial⟩, (Le.refl _), S⟩
    ·clear F S; rintro x2 a w x3 ⟨g3, F, l3, S⟩ hx1 hfin1
     have hm : sequence_Validate.l1 ops x1 x2 = some x3 := hx1; clear hx1
     unfold sequence_Validate.l1 at hm
     refine wp_seq ?_
     refine wp_region_lit ?_
     refine wE (ev_int rfl rfl (bo_lss _ _ _ _)) F S rfl fun a F=>?_
     refine wpList_nil ?_
     refine then_n ?_
     refine wp_seq ?_
     obtain ⟨hc2, hm⟩ | ⟨hc2, hm⟩ := ite_or hm
     ·refine wp_condT F rfl hc2 ?_
      refine wp_skip ?_
      refine then_n ?_
      refine wp_seq ?_
      refine wp_block ?_
      refine wp_seq ?_
      refine wp_region_lit ?_
      refine wE (ev_move rfl) F S rfl fun a F=>?_
      obtain ⟨y1, hy1, hm⟩ := bind_some hm
      obtain ⟨cs1, hr2, hp1⟩ := elemS (hops1.mono (l1.trans l3)) hy1
      obtain rfl := rep_SeqOp hr2
      refine wE (ev_idxS (hops1.mono (l1.trans l3)) hy1 tu22 ts33 rfl rfl) F S rfl fun a F=>?_
      refine wE (ev_loadA tu33 rfl (cs := [.bool y1.Delete, .i6 y1.Replica, .i6 y1.Counter, .i6 y1.AfterReplica, .i6 y1.AfterCounter, .string y1.Line]) ts33 rfl (ptr_mono (cks := [c3, [bx b1 #[.i6 0, .i6 0] 25]]) (fr := fr) hp1 (Le.refl _))) F S rfl fun a F=>?_
      refine wl_alloc (wn rfl) rfl tz33 (cs := [.bool false, .i6 0, .i6 0, .i6 0, .i6 0, .string ByteArray.empty]) rfl F S rfl rfl ?_; clear F a S; rintro b2 a w F S
      refine wE (ev_assign rfl) F S rfl fun a F=>?_
      refine wl_storeC (wn rfl) rfl F S rfl rfl (vs := [.bool y1.Delete, .i6 y1.Replica, .i6 y1.Counter, .i6 y1.AfterReplica, .i6 y1.AfterCounter, .string y1.Line]) rfl ts33 (one_cons rfl (one_cons rfl (one_cons rfl (one_cons rfl (one_cons rfl (one_cons rfl one_nil)))))) (k := 0) rfl (lb rfl) (c' := #[.bool y1.Delete, .i6 y1.Replica, .i6 y1.Counter, .i6 y1.AfterReplica, .i6 y1.AfterCounter, .string y1.Line]) rfl rfl ?_; clear S; intro w S
      refine wpList_nil ?_
      refine then_n ?_
      refine wp_seq ?_
      refine wp_region_lit ?_
      refine wE (ev_loadA tu33 rfl (cs := [.bool y1.Delete, .i6 y1.Replica, .i6 y1.Counter, .i6 y1.AfterReplica, .i6 y1.AfterCounter, .string y1.Line]) ts33 rfl (box_ptr (cells := [.bool y1.Delete, .i6 y1.Replica, .i6 y1.Counter, .i6 y1.AfterReplica, .i6 y1.AfterCounter, .string y1.Line]) 0 rfl 0 rfl (lb rfl))) F S rfl fun a F=>?_
      obtain ⟨y2, hy2, hm⟩ := bind_some hm
      refine wl_call0 (wn rfl) rfl F rfl (sequence_own_ok (fr := (fl [[bx b2 #[.bool y1.Delete, .i6 y1.Replica, .i6 y1.Counter, .i6 y1.AfterReplica, .i6 y1.AfterCounter, .string y1.Line] 33], c3, [bx b1 #[.i6 0, .i6 0] 25]] fr)) y1 S hy2) rfl tc23 rfl rfl ?_; clear F a S
      rintro _ a w ⟨g4, l4, S, rfl⟩ F; replace S : St g4 [[bx b2 #[.bool y1.Delete, .i6 y1.Replica, .i6 y1.Counter, .i6 y1.AfterReplica, .i6 y1.AfterCounter, .string y1.Line] 33], c3, [bx b1 #[.i6 0, .i6 0] 25]] fr w := S
      refine wl_alloc (wn rfl) rfl tz48 (cs := [.i6 0, .i6 0]) rfl F S rfl rfl ?_; clear F a S; rintro b3 a w F S
      refine wl_storeC (wn rfl) rfl F S rfl rfl (vs := [.i6 y2.counter, .i6 y2.replica]) rfl ts48 (one_cons rfl (one_cons rfl one_nil)) (k := 0) rfl (lb rfl) (c' := #[.i6 y2.counter, .i6 y2.replica]) rfl rfl ?_; clear S; intro w S
      refine wpList_nil ?_
      refine then_n ?_
      refine wp_cut (fun a w => ∃ (x4 : Int) (x5 : Int) (g5 : Gh), Fr 73 a [(11, bp b3 0), (9, .i6 x2), (48, .i6 x2), (47, .i6 (ops.length : Int)), (46, vops1), (3, v1), (2, bp b1 0)] ∧ Le g4 g5 ∧ St g5 [[bx b3 #[.i6 x4, .i6 x5] 48], c3, [bx b1 #[.i6 0, .i6 0] 25]] fr w ∧ sequence_Validate.j3 x1 x2 x4 x5 = some x3) ?_ ?_
      ·refine wp_seq ?_
       refine wp_region_lit ?_
       refine wE (ev_fieldAddr' tu33 tf33_0 (z := 0) ts4 rfl ⟨_, rfl⟩ rfl) F S rfl fun a F=>?_
       refine wE (ev_load1 tu4 rfl rfl (box_ptr (cells := [.bool y1.Delete]) 1 rfl 0 rfl (lb rfl))) F S rfl fun a F=>?_
       refine wE (ev_not rfl) F S rfl fun a F=>?_
       refine wpList_nil ?_
       refine then_n ?_
       obtain ⟨hc5, hm⟩ | ⟨hc5, hm⟩ := ite_or hm
       ·refine wp_condT F rfl hc5 ?_
        refine wp_region_lit ?_
        refine wE (ev_loadA tu33 rfl (cs := [.bool y1.Delete, .i6 y1.Replica, .i6 y1.Counter, .i6 y1.AfterReplica, .i6 y1.AfterCounter, .string y1.Line]) ts33 rfl (box_ptr (cells := [.bool y1.Delete, .i6 y1.Replica, .i6 y1.Counter, .i6 y1.AfterReplica, .i6 y1.AfterCounter, .string y1.Line]) 1 rfl 0 rfl (lb rfl))) F S rfl fun a F=>?_
        obtain ⟨y3, hy3, hm⟩ := bind_some hm
        refine wl_call0 (wn rfl) rfl F rfl (sequence_after_ok (fr := (fl [[bx b3 #[.i6 y2.counter, .i6 y2.replica] 48], [bx b2 #[.bool y1.Delete, .i6 y1.Replica, .i6 y1.Counter, .i6 y1.AfterReplica, .i6 y1.AfterCounter, .string y1.Line] 33], c3, [bx b1 #[.i6 0, .i6 0] 25]] fr)) y1 S hy3) rfl tc24 rfl rfl ?_; clear F a S
        rintro _ a w ⟨g6, l6, S, rfl⟩ F; replace S : St g6 [[bx b3 #[.i6 y2.counter, .i6 y2.replica] 48], [bx b2 #[.bool y1.Delete, .i6 y1.Replica, .i6 y1.Counter, .i6 y1.AfterReplica, .i6 y1.AfterCounter, .string y1.Line] 33], c3, [bx b1 #[.i6 0, .i6 0] 25]] fr w := S
        refine wl_storeC (wn rfl) rfl F S rfl rfl (vs := [.i6 y3.counter, .i6 y3.replica]) rfl ts48 (one_cons rfl (one_cons rfl one_nil)) (k := 0) rfl (lb rfl) (c' := #[.i6 y3.counter, .i6 y3.replica]) rfl rfl ?_; clear S; intro w S
        refine wpList_nil ?_
        refine then_n ?_
        replace S : St g6 [[bx b3 #[.i6 y3.counter, .i6 y3.replica] 48], c3, [bx b1 #[.i6 0, .i6 0] 25]] fr w := St.tail [[bx b3 #[.i6 y3.counter, .i6 y3.replica] 48], c3, [bx b1 #[.i6 0, .i6 0] 25]] _ (((S.frontC 3 rfl).frontC 3 rfl).frontC 2 rfl)
        exact ⟨y3.counter, y3.replica, g6, F.sub ⟨rfl, rfl, rfl, rfl, rfl, rfl, rfl, trivial⟩, l6, S, hm⟩
       ·refine wp_condF F rfl hc5 ?_
        refine wp_skip ?_
        refine then_n ?_
        replace S : St g4 [[bx b3 #[.i6 y2.counter, .i6 y2.replica] 48], c3, [bx b1 #[.i6 0, .i6 0] 25]] fr w := St.tail [[bx b3 #[.i6 y2.counter, .i6 y2.replica] 48], c3, [bx b1 #[.i6 0, .i6 0] 25]] _ (((S.frontC 3 rfl).frontC 3 rfl).frontC 2 rfl)
        exact ⟨y2.counter, y2.replica, g4, F.sub ⟨rfl, rfl, rfl, rfl, rfl, rfl, rfl, trivial⟩, (Le.refl _), S, hm⟩
      ·clear F S hm; rintro a w ⟨x4, x5, g5, F, l5, S, hm⟩
       refine wp_seq ?_
       refine wp_region_lit ?_
       refine wE (ev_loadA tu48 rfl (cs := [.i6 x4, .i6 x5]) ts48 rfl (box_ptr (cells := [.i6 x4, .i6 x5]) 0 rfl 0 rfl (lb rfl))) F S rfl fun a F=>?_
       refine wE (ev_build (parts := []) (vs := []) rfl (fun w => tb48_  w)) F S rfl fun a F=>?_
       refine wE (ev_neS tu48 tqa48 tqb48 tqc48 (xs := [.i6 x4, .i6 x5]) (ys := [.i6 0, .i6 0]) rfl rfl ⟨_, _, rfl, by decide, ⟨_, _, rfl, rfl, leaf_int tu3⟩, ⟨_, _, rfl, by decide, ⟨_, _, rfl, rfl, leaf_int tu3⟩, rfl⟩⟩) F S rfl fun a F=>?_
       refine wE (ev_move rfl) F S rfl fun a F=>?_
       obtain ⟨x6, hx2, hm⟩ := bind_some hm
       refine wl_cut 5 (fun a w' => w = w' ∧ Fr 73 a [(68, .bool x6), (9, .i6 x2), (48, .i6 x2), (47, .i6 (ops.length : Int)), (46, vops1), (3, v1), (2, bp b1 0)]) ?_ ?_
       ·clear hm; obtain ⟨hc3, hm⟩ | ⟨hc3, hm⟩ := ite_or hx2
        ·refine wl_ev (wg F rfl rfl rfl rfl hc3) (ev_move rfl) F S rfl rfl ?_; clear F a; intro a F
         refine wl_ev (wg F rfl rfl rfl rfl hc3) (ev_loadA tu48 rfl (cs := [.i6 x4, .i6 x5]) ts48 rfl (box_ptr (cells := [.i6 x4, .i6 x5]) 0 rfl 0 rfl (lb rfl))) F S rfl rfl ?_; clear F a; intro a F
         refine wl_ev (wg F rfl rfl rfl rfl hc3) (ev_lookB (h3.mono ((l3.trans l4).trans l5)) tk48 tu45 tz4 rfl (k := (x4, x5)) rfl 1 rfl) F S rfl rfl ?_; clear F a; intro a F
         refine wl_ev (wg F rfl rfl rfl rfl hc3) (ev_not rfl) F S rfl rfl ?_; clear F a; intro a F
         refine wE (ev_pickT rfl hc3 rfl) F S rfl fun a F=>?_
         obtain rfl := sinj hm
         refine wpList_nil (then_n ?_); exact ⟨rfl, F.sub ⟨rfl, rfl, rfl, rfl, rfl, rfl, rfl, trivial⟩⟩
        ·refine wl_skip rfl rfl rfl rfl (ne_tf hc3) F rfl rfl ?_; clear F a; intro a F
         refine wl_skip rfl rfl rfl rfl (ne_tf hc3) F rfl rfl ?_; clear F a; intro a F
         refine wl_skip rfl rfl rfl rfl (ne_tf hc3) F rfl rfl ?_; clear F a; intro a F
         refine wl_skip rfl rfl rfl rfl (ne_tf hc3) F rfl rfl ?_; clear F a; intro a F
         refine wE (ev_pickF rfl hc3 rfl) F S rfl fun a F=>?_
         obtain rfl := sinj hm
         refine wpList_nil (then_n ?_); exact ⟨rfl, F.sub ⟨rfl, rfl, rfl, rfl, rfl, rfl, rfl, trivial⟩⟩
       clear F; rintro a w' ⟨rfl, F⟩
       refine wpList_nil ?_
       refine then_n ?_
       obtain ⟨hc4, hm⟩ | ⟨hc4, hm⟩ := ite_or hm
       ·refine wp_condT F rfl hc4 ?_
        refine wp_seq ?_
        refine wp_region_lit ?_
        refine wE (ev_move rfl) F S rfl fun a F=>?_
        refine wE (ev_build (parts := [(0, .const (.i6 6)), (1, .tmp 69)]) (vs := [(0, .i6 6), (1, .i6 x2)]) rfl (fun w => tb25_0_1 6 x2 w)) F S rfl fun a F=>?_
        refine wl_storeC (wn rfl) rfl F S rfl rfl (vs := [.i6 6, .i6 x2]) rfl ts25 (one_cons rfl (one_cons rfl one_nil)) (k := 2) rfl (lb rfl) (c' := #[.i6 6, .i6 x2]) rfl rfl ?_; clear S; intro w S
        refine wpList_nil ?_
        refine then_n ?_
        refine wp_ret ?_
        refine inb_r ?_
        refine then_r ?_
        refine then_r ?_
        refine inb_r ?_
        refine then_r ?_
        obtain rfl := sinj hm
        obtain rfl := hfin1 _ rfl
        clear hm
        have hm : (some ({ Code := 6, Index := x2 } : Fault) : Option Fault) = some _ := hmo1
        obtain rfl := sinj hm
        refine post_r _ F rfl (ar_cons (resA rfl tu25 rfl (box_ptr (cells := [.i6 6, .i6 x2]) 2 rfl 0 rfl (lb rfl) w S) ts25) ar_nil) ?_
        replace S : St g5 [] fr w := St.tail [] _ S
        exact ⟨_, rfl, g5, (((l1.trans l3).trans l4).trans l5), S, rfl⟩
       ·refine wp_condF F rfl hc4 ?_
        refine wp_skip ?_
        refine inb_n ?_
        refine then_n ?_
        refine wp_region_lit ?_
        obtain ⟨z1, hz1, hm⟩ := bind_some hm
        refine wE (ev_int rfl rfl (bo_add hz1)) F S rfl fun a F=>?_
        refine wE (ev_move rfl) F S rfl fun a F=>?_
        refine wpList_nil ?_
        refine then_n ?_
        obtain rfl := sinj hm
        refine ⟨_, rfl, ?_⟩
        replace S : St g5 [c3, [bx b1 #[.i6 0, .i6 0] 25]] fr w := St.tail [c3, [bx b1 #[.i6 0, .i6 0] 25]] _ ((S.frontC 2 rfl).frontC 2 rfl)
        exact ⟨g5, F.sub ⟨rfl, rfl, rfl, rfl, rfl, trivial⟩, ((l3.trans l4).trans l5), S⟩
     ·refine wp_condF F rfl hc2 ?_
      refine wp_exit ?_
      refine then_e ?_
      refine then_e ?_
      refine inb_x ?_
      refine then_n ?_
      obtain rfl := sinj hm
      obtain rfl := hfin1 _ rfl
      clear hm
      have hm : (sequence_Validate.j2 : Option Fault) = some _ := hmo1
      replace S : St g3 [[bx b1 #[.i6 0, .i6 0] 25]] fr w := St.tail [[bx b1 #[.i6 0, .i6 0] 25]] _ (S.frontC 1 rfl)
      exact ⟨g3, F.sub ⟨rfl, trivial⟩, l3, S, hm⟩
   ·clear F S hm; rintro a w ⟨g2, F, l2, S, hm⟩
    refine wp_seq ?_
    refine wp_region_lit ?_
    refine wE (ev_build (parts := []) (vs := []) rfl (fun w => tb25_  w)) F S rfl fun a F=>?_
    refine wl_storeC (wn rfl) rfl F S rfl rfl (vs := [.i6 0, .i6 0]) rfl ts25 (one_cons rfl (one_cons rfl one_nil)) (k := 0) rfl (lb rfl) (c' := #[.i6 0, .i6 0]) rfl rfl ?_; clear S; intro w S
    refine wpList_nil ?_
    refine then_n ?_
    refine wp_ret ?_
    obtain rfl := sinj hm
    refine post_r _ F rfl (ar_cons (resA rfl tu25 rfl (box_ptr (cells := [.i6 0, .i6 0]) 0 rfl 0 rfl (lb rfl) w S) ts25) ar_nil) ?_
    replace S : St g2 [] fr w := St.tail [] _ S
    exact ⟨_, rfl, g2, (l1.trans l2), S, rfl⟩

theorem sequence_Visible_s1_s1_ok {g : Gh} {fr : Hl} {w : World} {r : Int} (a_ : SeqOp) (b_ : SeqOp) (S : St g [] fr w) (hm : sequence_Visible_s1_s1 a_ b_ = some r) :
  Calls Try.prog 27 [.agg #[.bool a_.Delete, .i6 a_.Replica, .i6 a_.Counter, .i6 a_.AfterReplica, .i6 a_.AfterCounter, .string a_.Line], .agg #[.bool b_.Delete, .i6 b_.Replica, .i6 b_.Counter, .i6 b_.AfterReplica, .i6 b_.AfterCounter, .string b_.Line]].toArray w (fun en w' => ∃ v, en = .returned v ∧ ∃ (g' : Gh), Le g g' ∧ St g' [] fr w' ∧ .i6 r = v) := by
 unfold sequence_Visible_s1_s1 at hm
 refine calls_enter (fn := Try.f27) Try.func27 rfl Try.ntmps27 (lb rfl) ?_
 intro a F
 replace F : Fr 10 a [(0, .agg #[.bool a_.Delete, .i6 a_.Replica, .i6 a_.Counter, .i6 a_.AfterReplica, .i6 a_.AfterCounter, .string a_.Line]), (1, .agg #[.bool b_.Delete, .i6 b_.Replica, .i6 b_.Counter, .i6 b_.AfterReplica, .i6 b_.AfterCounter, .string b_.Line])] := F
 refine wp_seq ?_
 refine wp_region_lit ?_
 refine wl_boxC (wn rfl) rfl rfl rfl F S rfl rfl ?_; clear F a S; rintro b1 a w F S
 refine wl_boxC (wn rfl) rfl rfl rfl F S rfl rfl ?_; clear F a S; rintro b2 a w F S
 refine wE (ev_assign rfl) F S rfl fun a F=>?_
 refine wpList_nil ?_
 refine then_n ?_
 refine wp_seq ?_
 refine wp_quiet mo (by kernel_rfl) S ?_
 refine wq_ev (wn rfl) (ev_loadA tu33 rfl (cs := [.bool b_.Delete, .i6 b_.Replica, .i6 b_.Counter, .i6 b_.AfterReplica, .i6 b_.AfterCounter, .string b_.Line]) ts33 rfl (box_ptr (cells := [.bool b_.Delete, .i6 b_.Replica, .i6 b_.Counter, .i6 b_.AfterReplica, .i6 b_.AfterCounter, .string b_.Line]) 0 rfl 0 rfl (lb rfl))) F rfl rfl ?_; clear F a; intro a F
 obtain ⟨y1, hy1, hm⟩ := bind_some hm
 refine wq_call (wn rfl) rfl (xs := [.tmp 5]) (vs := [.agg #[.bool b_.Delete, .i6 b_.Replica, .i6 b_.Counter, .i6 b_.AfterReplica, .i6 b_.AfterCounter, .string b_.Line]]) (cap := []) F rfl rfl tc23 (v := .agg #[.i6 y1.counter, .i6 y1.replica]) (fun w S => (sequence_own_ok (g := g) (fr := (fl [[bx b2 #[.bool b_.Delete, .i6 b_.Replica, .i6 b_.Counter, .i6 b_.AfterReplica, .i6 b_.AfterCounter, .string b_.Line] 33], [bx b1 #[.bool a_.Delete, .i6 a_.Replica, .i6 a_.Counter, .i6 a_.AfterReplica, .i6 a_.AfterCounter, .string a_.Line] 33]] fr)) (w := w) b_ S hy1).mono (by rintro en w' ⟨_, rfl, g2, l2, S2, rfl⟩; exact ⟨rfl, S2.weak l2⟩)) rfl rfl ?_; clear F a; intro a F
 refine wq_ev (wn rfl) (ev_loadA tu33 rfl (cs := [.bool a_.Delete, .i6 a_.Replica, .i6 a_.Counter, .i6 a_.AfterReplica, .i6 a_.AfterCounter, .string a_.Line]) ts33 rfl (box_ptr (cells := [.bool a_.Delete, .i6 a_.Replica, .i6 a_.Counter, .i6 a_.AfterReplica, .i6 a_.AfterCounter, .string a_.Line]) 1 rfl 0 rfl (lb rfl))) F rfl rfl ?_; clear F a; intro a F
 obtain ⟨y2, hy2, hm⟩ := bind_some hm
 refine wq_call (wn rfl) rfl (xs := [.tmp 7]) (vs := [.agg #[.bool a_.Delete, .i6 a_.Replica, .i6 a_.Counter, .i6 a_.AfterReplica, .i6 a_.AfterCounter, .string a_.Line]]) (cap := []) F rfl rfl tc23 (v := .agg #[.i6 y2.counter, .i6 y2.replica]) (fun w S => (sequence_own_ok (g := g) (fr := (fl [[bx b2 #[.bool b_.Delete, .i6 b_.Replica, .i6 b_.Counter, .i6 b_.AfterReplica, .i6 b_.AfterCounter, .string b_.Line] 33], [bx b1 #[.bool a_.Delete, .i6 a_.Replica, .i6 a_.Counter, .i6 a_.AfterReplica, .i6 a_.AfterCounter, .string a_.Line] 33]] fr)) (w := w) a_ S hy2).mono (by rintro en w' ⟨_, rfl, g2, l2, S2, rfl⟩; exact ⟨rfl, S2.weak l2⟩)) rfl rfl ?_; clear F a; intro a F
 obtain ⟨y3, hy3, hm⟩ := bind_some hm
 refine wq_call (wn rfl) rfl (xs := [.tmp 6, .tmp 8]) (vs := [.agg #[.i6 y1.counter, .i6 y1.replica], .agg #[.i6 y2.counter, .i6 y2.replica]]) (cap := []) F rfl rfl tc28 (v := .i6 y3) (fun w S => (sequence_compare_ok (g := g) (fr := (fl [[bx b2 #[.bool b_.Delete, .i6 b_.Replica, .i6 b_.Counter, .i6 b_.AfterReplica, .i6 b_.AfterCounter, .string b_.Line] 33], [bx b1 #[.bool a_.Delete, .i6 a_.Replica, .i6 a_.Counter, .i6 a_.AfterReplica, .i6 a_.AfterCounter, .string a_.Line] 33]] fr)) (w := w) y1 y2 S hy3).mono (by rintro en w' ⟨_, rfl, g2, l2, S2, rfl⟩; exact ⟨rfl, S2.weak l2⟩)) rfl rfl ?_; clear F a; intro a F
 refine wq_ev (wn rfl) (ev_assign rfl) F rfl rfl ?_; clear F a; intro a F
 refine wq_nil ?_; clear S; intro w S
 refine then_n ?_
 refine wp_ret ?_
 obtain rfl := sinj hm
 refine post_r _ F rfl (ar_cons (resT rfl) ar_nil) ?_
 replace S : St g [] fr w := St.tail [] _ S
 exact ⟨_, rfl, g, (Le.refl _), S, rfl⟩
end Go.Dc
