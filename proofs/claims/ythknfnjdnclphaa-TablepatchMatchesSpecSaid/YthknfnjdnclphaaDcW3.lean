/- Walks: each function comes to what its model says. -/
import Derived.Test.YthknfnjdnclphaaDcTab
import Derived.Test.YthknfnjdnclphaaDcM
import Derived.Test.YthknfnjdnclphaaDcW1
namespace Go.Dc
open Go Go.Proofs
set_option maxRecDepth 100000
set_option maxHeartbeats 4000000
set_option linter.unusedVariables false
theorem tablepatch_find_ok {g : Gh} {fr : Hl} {w : World} {r : Int × Bool} (rows : (List Row)) (vrows1 : Value) (hrows1 : RepSl g rows vrows1) (key : ByteArray) (S : St g [] fr w) (hm : tablepatch_find rows key = some r) :
  Calls Try.prog 47 [vrows1, .string key].toArray w (fun en w' => ∃ v, en = .returned v ∧ ∃ (g' : Gh), Le g g' ∧ St g' [] fr w' ∧ .tuple #[.i6 r.1, .bool r.2] = v) := by
 unfold tablepatch_find at hm
 refine calls_enter (fn := Try.f47) Try.func47 rfl Try.ntmps47 (lb rfl) ?_
 intro a F
 replace F : Fr 11 a [(0, vrows1), (1, .string key)] := F
 refine wp_seq ?_
 refine wp_region_lit ?_
 refine wE (ev_assign rfl) F S rfl fun a F=>?_
 refine wE (ev_assign rfl) F S rfl fun a F=>?_
 refine wpList_nil ?_
 refine then_n ?_
 refine wp_seq ?_
 refine wp_region_lit ?_
 refine wE (ev_move rfl) F S rfl fun a F=>?_
 refine wE (ev_move rfl) F S rfl fun a F=>?_
 replace F := F.sub (e' := [(7, .string key), (6, vrows1)]) ⟨rfl, rfl, trivial⟩
 refine wl_callK (wn rfl) rfl (xs := [.tmp 6, .tmp 7, .func 60]) (vs := [vrows1, .string key, .func (.func 60) #[] #[]]) (cap := []) (e' := []) trivial F rfl rfl tc59 rfl rfl (calls_enter (fn := Try.f59) Try.func59 rfl Try.ntmps59 (lb rfl) ?_); clear F a; intro a F
 replace F : Fr 49 a [(0, vrows1), (1, .string key), (2, .func (.func 60) #[] #[])] := F
 refine wp_seq ?_
 refine wp_region_lit ?_
 refine wE (ev_assign rfl) F S rfl fun a F=>?_
 refine wE (ev_assign rfl) F S rfl fun a F=>?_
 refine wpList_nil ?_
 refine then_n ?_
 refine wp_seq ?_
 refine wp_region_lit ?_
 refine wE (ev_move rfl) F S rfl fun a F=>?_
 refine wE (ev_lenSh hrows1 rfl tu23) F S rfl fun a F=>?_
 refine wE (ev_assign rfl) F S rfl fun a F=>?_
 refine wpList_nil ?_
 refine then_n ?_
 refine wp_seq ?_
 refine wp_region_lit ?_
 refine wE (ev_move rfl) F S rfl fun a F=>?_
 refine wE (ev_assign rfl) F S rfl fun a F=>?_
 refine wE (ev_assign rfl) F S rfl fun a F=>?_
 refine wpList_nil ?_
 refine then_n ?_
 refine wp_cut (fun a w => ∃ (x1 : Int) (g1 : Gh), Fr 49 a [(9, .i6 x1), (8, .i6 (rows.length : Int)), (0, vrows1), (1, .string key), (2, .func (.func 60) #[] #[])] ∧ Le g g1 ∧ St g1 [] fr w ∧ tablepatch_find.j1 rows key x1 = some r) ?_ ?_
 ·refine wp_block ?_
  obtain ⟨r1, hr2, hm⟩ := bind_some hm
  have hmo1 := hm; clear hm
  refine wp_iter (σ := Int × Int) (ρ := Int) (m := fun s => tablepatch_find.l1 rows key s.1 s.2) (I := fun s a w => match s with | (x3, x4) => ∃ (g4 : Gh), Fr 49 a [(10, .i6 x3), (9, .i6 x4), (8, .i6 (rows.length : Int)), (0, vrows1), (1, .string key), (2, .func (.func 60) #[] #[])] ∧ Le g g4 ∧ St g4 [] fr w) hr2 ?_ ?_
  ·dsimp only
   exact ⟨g, F.sub ⟨rfl, rfl, rfl, rfl, rfl, rfl, trivial⟩, (Le.refl _), S⟩
  ·clear F S; rintro ⟨x3, x4⟩ a w x5 ⟨g4, F, l4, S⟩ hx2 hfin1
   have hm : tablepatch_find.l1 rows key x3 x4 = some x5 := hx2; clear hx2
   unfold tablepatch_find.l1 at hm
   refine wp_seq ?_
   refine wp_seq ?_
   refine wp_region_lit ?_
   refine wE (ev_move rfl) F S rfl fun a F=>?_
   refine wE (ev_move rfl) F S rfl fun a F=>?_
   refine wE (ev_int rfl rfl (bo_lss _ _ _ _)) F S rfl fun a F=>?_
   refine wpList_nil ?_
   refine then_n ?_
   obtain ⟨hc2, hm⟩ | ⟨hc2, hm⟩ := ite_or hm
   ·refine wp_condT F rfl hc2 ?_
    refine wp_skip ?_
    refine then_n ?_
    refine wp_block ?_
    refine wp_seq ?_
    refine wp_region_lit ?_
    refine wE (ev_move rfl) F S rfl fun a F=>?_
    refine wE (ev_move rfl) F S rfl fun a F=>?_
    obtain ⟨z1, hz1, hm⟩ := bind_some hm
    refine wE (ev_int rfl rfl (bo_add hz1)) F S rfl fun a F=>?_
    obtain ⟨z2, hz2, hm⟩ := bind_some hm
    refine wE (ev_conv hz2 tu3 tu83 rfl) F S rfl fun a F=>?_
    obtain ⟨z3, hz3, hm⟩ := bind_some hm
    refine wE (ev_shr hz3 rfl rfl) F S rfl fun a F=>?_
    obtain ⟨z4, hz4, hm⟩ := bind_some hm
    refine wE (ev_conv hz4 tu83 tu3 rfl) F S rfl fun a F=>?_
    refine wE (ev_assign rfl) F S rfl fun a F=>?_
    refine wpList_nil ?_
    refine then_n ?_
    refine wp_seq ?_
    refine wp_region_lit ?_
    refine wE (ev_move rfl) F S rfl fun a F=>?_
    refine wE (ev_move rfl) F S rfl fun a F=>?_
    refine wE (ev_move rfl) F S rfl fun a F=>?_
    obtain ⟨y3, hy3, hm⟩ := bind_some hm
    obtain ⟨cs2, hr3, hp2⟩ := elemS (hrows1.mono l4) hy3
    obtain ⟨v2, rfl, h2⟩ := rep_Row hr3
    refine wE (ev_idxS (hrows1.mono l4) hy3 tu23 ts54 rfl rfl) F S rfl fun a F=>?_
    refine wE (ev_loadA tu54 rfl (cs := [.string y3.Key, v2]) ts54 rfl (ptr_mono (cks := []) (fr := fr) hp2 (Le.refl _))) F S rfl fun a F=>?_
    refine wE (ev_move rfl) F S rfl fun a F=>?_
    obtain ⟨y4, hy4, hm⟩ := bind_some hm
    refine wl_call0 (wn rfl) rfl F rfl (tablepatch_find_s1_ok y3 v2 h2 key S hy4) rfl tc60 rfl rfl ?_; clear F a S
    rintro _ a w ⟨g5, l5, S, rfl⟩ F; replace S : St g5 [] fr w := S
    refine wE (ev_int rfl rfl (bo_lss _ _ _ _)) F S rfl fun a F=>?_
    refine wpList_nil ?_
    refine then_n ?_
    obtain ⟨hc3, hm⟩ | ⟨hc3, hm⟩ := ite_or hm
    ·refine wp_condT F rfl hc3 ?_
     refine wp_region_lit ?_
     refine wE (ev_move rfl) F S rfl fun a F=>?_
     obtain ⟨z5, hz5, hm⟩ := bind_some hm
     refine wE (ev_int rfl rfl (bo_add hz5)) F S rfl fun a F=>?_
     refine wE (ev_assign rfl) F S rfl fun a F=>?_
     refine wpList_nil ?_
     refine inb_n ?_
     refine then_n ?_
     obtain rfl := sinj hm
     refine ⟨_, rfl, ?_⟩
     dsimp only
     exact ⟨g5, F.sub ⟨rfl, rfl, rfl, rfl, rfl, rfl, trivial⟩, (l4.trans l5), S⟩
    ·refine wp_condF F rfl hc3 ?_
     refine wp_region_lit ?_
     refine wE (ev_move rfl) F S rfl fun a F=>?_
     refine wE (ev_assign rfl) F S rfl fun a F=>?_
     refine wpList_nil ?_
     refine inb_n ?_
     refine then_n ?_
     obtain rfl := sinj hm
     refine ⟨_, rfl, ?_⟩
     dsimp only
     exact ⟨g5, F.sub ⟨rfl, rfl, rfl, rfl, rfl, rfl, trivial⟩, (l4.trans l5), S⟩
   ·refine wp_condF F rfl hc2 ?_
    refine wp_exit ?_
    refine then_e ?_
    refine then_e ?_
    refine inb_x ?_
    refine then_n ?_
    obtain rfl := sinj hm
    obtain rfl := hfin1 _ rfl
    clear hm
    have hm : (tablepatch_find.j1 rows key x4 : Option (Int × Bool)) = some _ := hmo1
    exact ⟨x4, g4, F.sub ⟨rfl, rfl, rfl, rfl, rfl, trivial⟩, l4, S, hm⟩
 ·clear F S hm; rintro a w ⟨x1, g1, F, l1, S, hm⟩
  refine wp_seq ?_
  refine wp_region_lit ?_
  refine wE (ev_move rfl) F S rfl fun a F=>?_
  refine wE (ev_move rfl) F S rfl fun a F=>?_
  refine wE (ev_move rfl) F S rfl fun a F=>?_
  refine wE (ev_int rfl rfl (bo_lss _ _ _ _)) F S rfl fun a F=>?_
  refine wE (ev_move rfl) F S rfl fun a F=>?_
  obtain ⟨x2, hx1, hm⟩ := bind_some hm
  refine wl_cut 9 (fun a w => ∃ g2, Fr 49 a [(48, .bool x2), (35, .i6 x1)] ∧ Le g1 g2 ∧ St g2 [] fr w) ?_ ?_
  ·clear hm; obtain ⟨hc1, hm⟩ | ⟨hc1, hm⟩ := ite_or hx1
   ·refine wl_ev (wg F rfl rfl rfl rfl hc1) (ev_move rfl) F S rfl rfl ?_; clear F a; intro a F
    refine wl_ev (wg F rfl rfl rfl rfl hc1) (ev_move rfl) F S rfl rfl ?_; clear F a; intro a F
    refine wl_ev (wg F rfl rfl rfl rfl hc1) (ev_move rfl) F S rfl rfl ?_; clear F a; intro a F
    obtain ⟨y1, hy1, hm⟩ := bind_some hm
    obtain ⟨cs1, hr1, hp1⟩ := elemS (hrows1.mono l1) hy1
    obtain ⟨v1, rfl, h1⟩ := rep_Row hr1
    refine wl_ev (wg F rfl rfl rfl rfl hc1) (ev_idxS (hrows1.mono l1) hy1 tu23 ts54 rfl rfl) F S rfl rfl ?_; clear F a; intro a F
    refine wl_ev (wg F rfl rfl rfl rfl hc1) (ev_loadA tu54 rfl (cs := [.string y1.Key, v1]) ts54 rfl (ptr_mono (cks := []) (fr := fr) hp1 (Le.refl _))) F S rfl rfl ?_; clear F a; intro a F
    refine wl_ev (wg F rfl rfl rfl rfl hc1) (ev_move rfl) F S rfl rfl ?_; clear F a; intro a F
    obtain ⟨y2, hy2, hm⟩ := bind_some hm
    refine wl_call0 (wg F rfl rfl rfl rfl hc1) rfl F rfl (tablepatch_find_s1_ok y1 v1 h1 key S hy2) rfl tc60 rfl rfl ?_; clear F a S
    rintro _ a w ⟨g3, l3, S, rfl⟩ F; replace S : St g3 [] fr w := S
    refine wl_ev (wg F rfl rfl rfl rfl hc1) (ev_int rfl rfl (bo_eql _ _ _ _)) F S rfl rfl ?_; clear F a; intro a F
    refine wE (ev_pickT rfl hc1 rfl) F S rfl fun a F=>?_
    obtain rfl := sinj hm
    refine wpList_nil (then_n ?_); exact ⟨g3, F.sub ⟨rfl, rfl, trivial⟩, l3, S⟩
   ·refine wl_skip rfl rfl rfl rfl (ne_tf hc1) F rfl rfl ?_; clear F a; intro a F
    refine wl_skip rfl rfl rfl rfl (ne_tf hc1) F rfl rfl ?_; clear F a; intro a F
    refine wl_skip rfl rfl rfl rfl (ne_tf hc1) F rfl rfl ?_; clear F a; intro a F
    refine wl_skip rfl rfl rfl rfl (ne_tf hc1) F rfl rfl ?_; clear F a; intro a F
    refine wl_skip rfl rfl rfl rfl (ne_tf hc1) F rfl rfl ?_; clear F a; intro a F
    refine wl_skip rfl rfl rfl rfl (ne_tf hc1) F rfl rfl ?_; clear F a; intro a F
    refine wl_skip rfl rfl rfl rfl (ne_tf hc1) F rfl rfl ?_; clear F a; intro a F
    refine wl_skip rfl rfl rfl rfl (ne_tf hc1) F rfl rfl ?_; clear F a; intro a F
    refine wE (ev_pickF rfl hc1 rfl) F S rfl fun a F=>?_
    obtain rfl := sinj hm
    refine wpList_nil (then_n ?_); exact ⟨g1, F.sub ⟨rfl, rfl, trivial⟩, (Le.refl _), S⟩
  clear F S; rintro a w ⟨g2, F, l2, S⟩
  refine wE (ev_assign rfl) F S rfl fun a F=>?_
  refine wE (ev_assign rfl) F S rfl fun a F=>?_
  refine wpList_nil ?_
  refine then_n ?_
  refine wp_ret ?_
  refine post_r _ F rfl (ar_cons (resT rfl) (ar_cons (resT rfl) ar_nil)) ?_
  refine ⟨_, rfl, ?_⟩; clear F a; intro a F
  replace F : Fr 11 a [(8, .tuple #[.i6 x1, .bool x2])] := F
  refine wE (ev_extract rfl rfl) F S rfl fun a F=>?_
  refine wE (ev_extract rfl rfl) F S rfl fun a F=>?_
  refine wE (ev_assign rfl) F S rfl fun a F=>?_
  refine wE (ev_assign rfl) F S rfl fun a F=>?_
  refine wpList_nil ?_
  refine then_n ?_
  refine wp_ret ?_
  obtain rfl := sinj hm
  refine post_r _ F rfl (ar_cons (resT rfl) (ar_cons (resT rfl) ar_nil)) ?_
  exact ⟨_, rfl, g2, (l1.trans l2), S, rfl⟩

theorem tablepatch_get_ok {g : Gh} {fr : Hl} {w : World} {r : (List ByteArray)} (t_ : Table) (vt_1 : Value) (ht_1 : RepSl g t_.Columns vt_1) (vt_2 : Value) (ht_2 : RepSl g t_.Rows vt_2) (key : ByteArray) (S : St g [] fr w) (hm : tablepatch_get t_ key = some r) :
  Calls Try.prog 26 [.agg #[vt_1, vt_2], .string key].toArray w (fun en w' => ∃ v, en = .returned v ∧ ∃ (g' : Gh) (v1 : Value), Le g g' ∧ St g' [] fr w' ∧ RepSl g' r v1 ∧ NilE r v1 ∧ v1 = v) := by
 unfold tablepatch_get at hm
 refine calls_enter (fn := Try.f26) Try.func26 rfl Try.ntmps26 (lb rfl) ?_
 intro a F
 replace F : Fr 22 a [(0, .agg #[vt_1, vt_2]), (1, .string key)] := F
 refine wp_seq ?_
 refine wp_region_lit ?_
 refine wl_boxC (wn rfl) rfl rfl rfl F S rfl rfl ?_; clear F a S; rintro b1 a w F S
 refine wE (ev_assign rfl) F S rfl fun a F=>?_
 refine wpList_nil ?_
 refine then_n ?_
 refine wp_seq ?_
 refine wp_region_lit ?_
 refine wE (ev_fieldAddr' tu25 tf25_1 (z := 0) ts23 rfl ⟨_, rfl⟩ rfl) F S rfl fun a F=>?_
 refine wE (ev_load1 tu23 rfl rfl (box_ptr (cells := [vt_2]) 0 rfl 1 rfl (lb rfl))) F S rfl fun a F=>?_
 refine wE (ev_move rfl) F S rfl fun a F=>?_
 obtain ⟨y1, hy1, hm⟩ := bind_some hm
 refine wl_call0 (wn rfl) rfl F rfl (tablepatch_find_ok (fr := (fl [[bx b1 #[vt_1, vt_2] 25]] fr)) t_.Rows vt_2 ht_2 key S hy1) rfl tc47 rfl rfl ?_; clear F a S
 rintro _ a w ⟨g1, l1, S, rfl⟩ F; replace S : St g1 [[bx b1 #[vt_1, vt_2] 25]] fr w := S
 refine wE (ev_move rfl) F S rfl fun a F=>?_
 refine wE (ev_extract rfl rfl) F S rfl fun a F=>?_
 refine wE (ev_extract rfl rfl) F S rfl fun a F=>?_
 refine wE (ev_assign rfl) F S rfl fun a F=>?_
 refine wE (ev_assign rfl) F S rfl fun a F=>?_
 refine wpList_nil ?_
 refine then_n ?_
 refine wp_seq ?_
 refine wp_seq ?_
 refine wp_region_lit ?_
 refine wE (ev_move rfl) F S rfl fun a F=>?_
 refine wE (ev_not rfl) F S rfl fun a F=>?_
 refine wpList_nil ?_
 refine then_n ?_
 obtain ⟨hc1, hm⟩ | ⟨hc1, hm⟩ := ite_or hm
 ·refine wp_condT F rfl hc1 ?_
  refine wp_seq ?_
  refine wp_region_lit ?_
  refine wE (ev_assign rfl) F S rfl fun a F=>?_
  refine wpList_nil ?_
  refine then_n ?_
  refine wp_ret ?_
  refine then_r ?_
  obtain rfl := sinj hm
  refine post_r _ F rfl (ar_cons (resT rfl) ar_nil) ?_
  replace S : St g1 [] fr w := St.tail [] _ S
  exact ⟨_, rfl, g1, (nilS), l1, S, (RepSl.nil _), NilE.nil, rfl⟩
 ·refine wp_condF F rfl hc1 ?_
  refine wp_skip ?_
  refine then_n ?_
  refine wp_seq ?_
  refine wp_region_lit ?_
  refine wE (ev_fieldAddr' tu25 tf25_1 (z := 0) ts23 rfl ⟨_, rfl⟩ rfl) F S rfl fun a F=>?_
  refine wE (ev_load1 tu23 rfl rfl (box_ptr (cells := [vt_2]) 0 rfl 1 rfl (lb rfl))) F S rfl fun a F=>?_
  refine wE (ev_move rfl) F S rfl fun a F=>?_
  obtain ⟨y2, hy2, hm⟩ := bind_some hm
  obtain ⟨cs1, hr1, hp1⟩ := elemS (ht_2.mono l1) hy2
  obtain ⟨v1, rfl, h1⟩ := rep_Row hr1
  refine wE (ev_idxS (ht_2.mono l1) hy2 tu23 ts54 rfl rfl) F S rfl fun a F=>?_
  have hp2 := PtrC.field hp1 1 1 (lb rfl)
  have hp2 : PtrC g1 (addP (elemP vt_2 y1.1 2) 1) [v1] := hp2
  refine wE (ev_fieldAddr' tu54 tf54_1 (z := 0) ts22 rfl hp1.ptr rfl) F S rfl fun a F=>?_
  refine wE (ev_load1 tu22 rfl rfl (ptr_mono (cks := [[bx b1 #[vt_1, vt_2] 25]]) (fr := fr) hp2 (Le.refl _))) F S rfl fun a F=>?_
  refine wE (ev_assign rfl) F S rfl fun a F=>?_
  refine wpList_nil ?_
  refine then_n ?_
  refine wp_ret ?_
  obtain ⟨u1, hn1, hm⟩ := bind_some hm
  obtain rfl := sinj hm
  refine post_r _ F rfl (ar_cons (resT rfl) ar_nil) ?_
  replace S : St g1 [] fr w := St.tail [] _ S
  exact ⟨_, rfl, g1, v1, l1, S, h1, (NilE.of hn1), rfl⟩

theorem tablepatch_change_ok {g : Gh} {fr : Hl} {w : World} {r : CellChange} (key : ByteArray) (column : Int) (old_ : (List ByteArray)) (vold_1 : Value) (hold_1 : RepSl g old_ vold_1) (newer : (List ByteArray)) (vnewer1 : Value) (hnewer1 : RepSl g newer vnewer1) (S : St g [] fr w) (hm : tablepatch_change key column old_ newer = some r) :
  Calls Try.prog 28 [.string key, .i6 column, vold_1, vnewer1].toArray w (fun en w' => ∃ v, en = .returned v ∧ ∃ (g' : Gh) (v1 v2 : Value) (c1 c2 : Hl), Le g g' ∧ St g' [c1, c2] fr w' ∧ OwnS g' r.Old v1 c1 ∧ OwnS g' r.New v2 c2 ∧ .agg #[.string r.Key, .i6 r.Column, v1, v2] = v) := by
 unfold tablepatch_change at hm
 refine calls_enter (fn := Try.f28) Try.func28 rfl Try.ntmps28 (lb rfl) ?_
 intro a F
 replace F : Fr 16 a [(0, .string key), (1, .i6 column), (2, vold_1), (3, vnewer1)] := F
 refine wp_seq ?_
 refine wp_region_lit ?_
 refine wl_alloc (wn rfl) rfl tz36 (cs := [.string ByteArray.empty, .i6 0, nilS, nilS]) rfl F S rfl rfl ?_; clear F a S; rintro b1 a w F S
 refine wpList_nil ?_
 refine then_n ?_
 refine wp_seq ?_
 refine wp_region_lit ?_
 refine wE (ev_move rfl) F S rfl fun a F=>?_
 refine wE (ev_move rfl) F S rfl fun a F=>?_
 refine wE (ev_move rfl) F S rfl fun a F=>?_
 obtain ⟨y1, hy1, hm⟩ := bind_some hm
 refine wl_call0 (wn rfl) rfl F rfl (slices_Clone_ok (fr := (fl [[bx b1 #[.string ByteArray.empty, .i6 0, nilS, nilS] 36]] fr)) old_ vold_1 hold_1 S hy1) rfl tc24 rfl rfl ?_; clear F a S
 rintro _ a w ⟨g1, v1, c1, l1, S, h1, rfl⟩ F; replace S : St g1 [c1, [bx b1 #[.string ByteArray.empty, .i6 0, nilS, nilS] 36]] fr w := S
 refine wE (ev_move rfl) F S rfl fun a F=>?_
 obtain ⟨y2, hy2, hm⟩ := bind_some hm
 refine wl_call0 (wn rfl) rfl F rfl (slices_Clone_ok (fr := (fl [c1, [bx b1 #[.string ByteArray.empty, .i6 0, nilS, nilS] 36]] fr)) newer vnewer1 (hnewer1.mono l1) S hy2) rfl tc24 rfl rfl ?_; clear F a S
 rintro _ a w ⟨g2, v2, c2, l2, S, h2, rfl⟩ F; replace S : St g2 [c2, c1, [bx b1 #[.string ByteArray.empty, .i6 0, nilS, nilS] 36]] fr w := S
 refine wE (ev_build (parts := [(0, .tmp 9), (1, .tmp 10), (2, .tmp 12), (3, .tmp 14)]) (vs := [(0, .string key), (1, .i6 column), (2, v1), (3, v2)]) rfl (fun w => tb36_0_1_2_3 key column v1 (OwnS.isSl h1) v2 (OwnS.isSl h2) w)) F S rfl fun a F=>?_
 refine wl_storeC (wn rfl) rfl F S rfl rfl (vs := [.string key, .i6 column, v1, v2]) rfl ts36 (one_cons rfl (one_cons rfl (one_cons (OwnS.one h1) (one_cons (OwnS.one h2) one_nil)))) (k := 2) rfl (lb rfl) (c' := #[.string key, .i6 column, v1, v2]) rfl rfl ?_; clear S; intro w S
 refine wpList_nil ?_
 refine then_n ?_
 refine wp_ret ?_
 obtain rfl := sinj hm
 refine post_r _ F rfl (ar_cons (resA rfl tu36 rfl (box_ptr (cells := [.string key, .i6 column, v1, v2]) 2 rfl 0 rfl (lb rfl) w S) ts36) ar_nil) ?_
 replace S : St g2 [c1, c2] fr w := St.tail [c1, c2] _ ((S.frontC 0 rfl).frontC 2 rfl)
 exact ⟨_, rfl, g2, v1, v2, c1, c2, (l1.trans l2), S, (h1.mono l2), h2, rfl⟩

theorem tablepatch_cells_ok {g : Gh} {fr : Hl} {w : World} {r : (List ByteArray) × (List CellChange)} (key : ByteArray) (base : (List ByteArray)) (vbase1 : Value) (hbase1 : RepSl g base vbase1) (hn1 : NilE base vbase1) (left : (List ByteArray)) (vleft1 : Value) (hleft1 : RepSl g left vleft1) (right : (List ByteArray)) (vright1 : Value) (hright1 : RepSl g right vright1) (S : St g [] fr w) (hm : tablepatch_cells key base left right = some r) :
  Calls Try.prog 29 [.string key, vbase1, vleft1, vright1].toArray w (fun en w' => ∃ v, en = .returned v ∧ ∃ (g' : Gh) (v1 v2 : Value) (c1 c2 : Hl), Le g g' ∧ St g' [c1, c2] fr w' ∧ OwnS g' r.1 v1 c1 ∧ NilE r.1 v1 ∧ OwnS g' r.2 v2 c2 ∧ .tuple #[v1, v2] = v) := by
 unfold tablepatch_cells at hm
 refine calls_enter (fn := Try.f29) Try.func29 rfl Try.ntmps29 (lb rfl) ?_
 intro a F
 replace F : Fr 85 a [(0, .string key), (1, vbase1), (2, vleft1), (3, vright1)] := F
 refine wp_seq ?_
 refine wp_region_lit ?_
 refine wE (ev_assign rfl) F S rfl fun a F=>?_
 refine wE (ev_assign rfl) F S rfl fun a F=>?_
 refine wpList_nil ?_
 refine then_n ?_
 refine wp_seq ?_
 refine wp_region_lit ?_
 refine wE (ev_move rfl) F S rfl fun a F=>?_
 obtain ⟨y1, hy1, hm⟩ := bind_some hm
 refine wl_call0 (wn rfl) rfl F rfl (slices_Clone_ok left vleft1 hleft1 S hy1) rfl tc24 rfl rfl ?_; clear F a S
 rintro _ a w ⟨g1, v1, c1, l1, S, h1, rfl⟩ F; replace S : St g1 [c1] fr w := S
 refine wE (ev_assign rfl) F S rfl fun a F=>?_
 refine wpList_nil ?_
 refine then_n ?_
 refine wp_seq ?_
 refine wp_region_lit ?_
 refine wE (ev_assign rfl) F S rfl fun a F=>?_
 refine wpList_nil ?_
 refine then_n ?_
 refine wp_cut (fun a w => ∃ (x1 : List CellChange) (x2 : List ByteArray) (v2 v3 : Value) (c2 c3 : Hl) (g2 : Gh), Fr 85 a [(11, v2), (10, v3)] ∧ Le g1 g2 ∧ St g2 [c2, c3] fr w ∧ OwnS g2 x1 v2 c2 ∧ OwnS g2 x2 v3 c3 ∧ tablepatch_cells.j1 x1 x2 = some r) ?_ ?_
 ·refine wp_seq ?_
  refine wp_region_lit ?_
  refine wE (ev_move rfl) F S rfl fun a F=>?_
  refine wE (ev_lenSh hleft1 rfl tu22) F S rfl fun a F=>?_
  refine wE (ev_move rfl) F S rfl fun a F=>?_
  refine wpList_nil ?_
  refine then_n ?_
  refine wp_block ?_
  obtain ⟨r1, hr1, hm⟩ := bind_some hm
  have hmo1 := hm; clear hm
  refine wp_iter (σ := Int × (List CellChange) × (List ByteArray)) (ρ := (List CellChange) × (List ByteArray)) (m := fun s => tablepatch_cells.l1 key base left right s.1 s.2.1 s.2.2) (I := fun s a w => match s with | (x3, x4, x5) => ∃ (v4 v5 : Value) (c4 c5 : Hl) (g3 : Gh), Fr 85 a [(17, .i6 x3), (16, .i6 (left.length : Int)), (11, v4), (10, v5), (0, .string key), (1, vbase1), (2, vleft1), (3, vright1)] ∧ Le g1 g3 ∧ St g3 [c4, c5] fr w ∧ OwnS g3 x4 v4 c4 ∧ OwnS g3 x5 v5 c5) hr1 ?_ ?_
  ·dsimp only
   replace S : St g1 [[], c1] fr w := S
   exact ⟨(nilS), v1, [], c1, g1, F.sub ⟨rfl, rfl, rfl, rfl, rfl, rfl, rfl, rfl, trivial⟩, (Le.refl _), S, (OwnS.nil _), h1⟩
  ·clear F S; rintro ⟨x3, x4, x5⟩ a w x6 ⟨v4, v5, c4, c5, g3, F, l3, S, h4, h5⟩ hx1 hfin1
   have hm : tablepatch_cells.l1 key base left right x3 x4 x5 = some x6 := hx1; clear hx1
   unfold tablepatch_cells.l1 at hm
   refine wp_seq ?_
   refine wp_region_lit ?_
   refine wE (ev_int rfl rfl (bo_lss _ _ _ _)) F S rfl fun a F=>?_
   refine wpList_nil ?_
   refine then_n ?_
   refine wp_seq ?_
   obtain ⟨hc1, hm⟩ | ⟨hc1, hm⟩ := ite_or hm
   ·refine wp_condT F rfl hc1 ?_
    refine wp_skip ?_
    refine then_n ?_
    refine wp_cut (fun a w => ∃ (x7 : List CellChange) (x8 : List ByteArray) (v6 v7 : Value) (c6 c7 : Hl) (g4 : Gh), Fr 85 a [(17, .i6 x3), (16, .i6 (left.length : Int)), (11, v6), (10, v7), (0, .string key), (1, vbase1), (2, vleft1), (3, vright1)] ∧ Le g3 g4 ∧ St g4 [c6, c7] fr w ∧ OwnS g4 x7 v6 c6 ∧ OwnS g4 x8 v7 c7 ∧ tablepatch_cells.j2 x3 x7 x8 = some x6) ?_ ?_
    ·refine wp_block ?_
     refine wp_seq ?_
     refine wp_region_lit ?_
     refine wE (ev_move rfl) F S rfl fun a F=>?_
     refine wE (ev_assign rfl) F S rfl fun a F=>?_
     refine wpList_nil ?_
     refine then_n ?_
     refine wp_block ?_
     refine wp_seq ?_
     refine wp_quiet mo (by kernel_rfl) S ?_
     refine wq_ev (wn rfl) (ev_move rfl) F rfl rfl ?_; clear F a; intro a F
     refine wq_ev (wn rfl) (ev_nilneqSx (hbase1.mono (l1.trans l3)) hn1 tu22 rfl rfl) F rfl rfl ?_; clear F a; intro a F
     refine wq_ev (wn rfl) (ev_move rfl) F rfl rfl ?_; clear F a; intro a F
     obtain ⟨x9, hx2, hm⟩ := bind_some hm
     refine wq_cut 10 (fun a => Fr 85 a [(33, .bool x9), (12, .i6 x3), (17, .i6 x3), (16, .i6 (left.length : Int)), (11, v4), (10, v5), (0, .string key), (1, vbase1), (2, vleft1), (3, vright1)]) ?_ ?_
     ·clear hm; obtain ⟨hc2, hm⟩ | ⟨hc2, hm⟩ := ite_or hx2
      ·refine wq_ev (wg F rfl rfl rfl rfl hc2) (ev_move rfl) F rfl rfl ?_; clear F a; intro a F
       refine wq_ev (wg F rfl rfl rfl rfl hc2) (ev_move rfl) F rfl rfl ?_; clear F a; intro a F
       obtain ⟨y2, hy2, hm⟩ := bind_some hm
       obtain ⟨cs1, hr2, hp1⟩ := elemS (hleft1.mono (l1.trans l3)) hy2
       obtain rfl := rep_str hr2
       refine wq_ev (wg F rfl rfl rfl rfl hc2) (ev_idxS (hleft1.mono (l1.trans l3)) hy2 tu22 ts9 rfl rfl) F rfl rfl ?_; clear F a; intro a F
       refine wq_ev (wg F rfl rfl rfl rfl hc2) (ev_load1 tu9 rfl rfl (ptr_mono (cks := [c4, c5]) (fr := fr) hp1 (Le.refl _))) F rfl rfl ?_; clear F a; intro a F
       refine wq_ev (wg F rfl rfl rfl rfl hc2) (ev_move rfl) F rfl rfl ?_; clear F a; intro a F
       refine wq_ev (wg F rfl rfl rfl rfl hc2) (ev_move rfl) F rfl rfl ?_; clear F a; intro a F
       obtain ⟨y3, hy3, hm⟩ := bind_some hm
       obtain ⟨cs2, hr3, hp2⟩ := elemS (hbase1.mono (l1.trans l3)) hy3
       obtain rfl := rep_str hr3
       refine wq_ev (wg F rfl rfl rfl rfl hc2) (ev_idxS (hbase1.mono (l1.trans l3)) hy3 tu22 ts9 rfl rfl) F rfl rfl ?_; clear F a; intro a F
       refine wq_ev (wg F rfl rfl rfl rfl hc2) (ev_load1 tu9 rfl rfl (ptr_mono (cks := [c4, c5]) (fr := fr) hp2 (Le.refl _))) F rfl rfl ?_; clear F a; intro a F
       refine wq_ev (wg F rfl rfl rfl rfl hc2) (ev_str rfl rfl (bs_eql _ _ _)) F rfl rfl ?_; clear F a; intro a F
       refine wq_ev (wn rfl) (ev_pickT rfl hc2 rfl) F rfl rfl ?_; clear F a; intro a F
       obtain rfl := sinj hm
       refine wq_nil ?_; exact F.sub ⟨rfl, rfl, rfl, rfl, rfl, rfl, rfl, rfl, rfl, rfl, trivial⟩
      ·refine wq_skip rfl rfl rfl rfl (ne_tf hc2) F rfl rfl ?_; clear F a; intro a F
       refine wq_skip rfl rfl rfl rfl (ne_tf hc2) F rfl rfl ?_; clear F a; intro a F
       refine wq_skip rfl rfl rfl rfl (ne_tf hc2) F rfl rfl ?_; clear F a; intro a F
       refine wq_skip rfl rfl rfl rfl (ne_tf hc2) F rfl rfl ?_; clear F a; intro a F
       refine wq_skip rfl rfl rfl rfl (ne_tf hc2) F rfl rfl ?_; clear F a; intro a F
       refine wq_skip rfl rfl rfl rfl (ne_tf hc2) F rfl rfl ?_; clear F a; intro a F
       refine wq_skip rfl rfl rfl rfl (ne_tf hc2) F rfl rfl ?_; clear F a; intro a F
       refine wq_skip rfl rfl rfl rfl (ne_tf hc2) F rfl rfl ?_; clear F a; intro a F
       refine wq_skip rfl rfl rfl rfl (ne_tf hc2) F rfl rfl ?_; clear F a; intro a F
       refine wq_ev (wn rfl) (ev_pickF rfl hc2 rfl) F rfl rfl ?_; clear F a; intro a F
       obtain rfl := sinj hm
       refine wq_nil ?_; exact F.sub ⟨rfl, rfl, rfl, rfl, rfl, rfl, rfl, rfl, rfl, rfl, trivial⟩
     clear F; intro a F
     refine wq_ev (wn rfl) (ev_assign rfl) F rfl rfl ?_; clear F a; intro a F
     refine wq_nil ?_; clear S; intro w S
     refine then_n ?_
     obtain ⟨hc3, hm⟩ | ⟨hc3, hm⟩ := ite_or hm
     ·refine wp_condT F rfl hc3 ?_
      refine wp_region_lit ?_
      refine wE (ev_move rfl) F S rfl fun a F=>?_
      refine wE (ev_move rfl) F S rfl fun a F=>?_
      refine wE (ev_move rfl) F S rfl fun a F=>?_
      refine wE (ev_move rfl) F S rfl fun a F=>?_
      obtain ⟨y4, hy4, hm⟩ := bind_some hm
      obtain ⟨cs3, hr4, hp3⟩ := elemS (hright1.mono (l1.trans l3)) hy4
      obtain rfl := rep_str hr4
      refine wE (ev_idxS (hright1.mono (l1.trans l3)) hy4 tu22 ts9 rfl rfl) F S rfl fun a F=>?_
      refine wE (ev_load1 tu9 rfl rfl (ptr_mono (cks := [c4, c5]) (fr := fr) hp3 (Le.refl _))) F S rfl fun a F=>?_
      obtain ⟨y5, hy5, hm⟩ := bind_some hm
      refine wE (ev_idxO h5 hy5 tu22 ts9 rfl rfl) F S rfl fun a F=>?_
      obtain ⟨y6, hy6, hm⟩ := bind_some hm
      refine wl_storeW (z' := y4) (wn rfl) rfl F S h5 hy5 rfl rfl (us := [.string y4]) rfl ts9 (one_cons rfl one_nil) (k := 1) rfl rfl (show Rep.rep _ y4 _ from rfl) rfl ?_; clear S
      rintro c8 w h8 S; replace S : St g3 [c4, c8] fr w := S; replace h8 : OwnS g3 y6 v5 c8 := sinj hy6 ▸ h8
      refine wpList_nil ?_
      refine inb_n ?_
      refine inb_n ?_
      refine then_n ?_
      exact ⟨x4, y6, v4, v5, c4, c8, g3, F.sub ⟨rfl, rfl, rfl, rfl, rfl, rfl, rfl, rfl, trivial⟩, (Le.refl _), S, h4, h8, hm⟩
     ·refine wp_condF F rfl hc3 ?_
      refine wp_seq ?_
      refine wp_quiet mo (by kernel_rfl) S ?_
      refine wq_ev (wn rfl) (ev_move rfl) F rfl rfl ?_; clear F a; intro a F
      refine wq_ev (wn rfl) (ev_move rfl) F rfl rfl ?_; clear F a; intro a F
      obtain ⟨y7, hy7, hm⟩ := bind_some hm
      obtain ⟨cs4, hr5, hp4⟩ := elemS (hleft1.mono (l1.trans l3)) hy7
      obtain rfl := rep_str hr5
      refine wq_ev (wn rfl) (ev_idxS (hleft1.mono (l1.trans l3)) hy7 tu22 ts9 rfl rfl) F rfl rfl ?_; clear F a; intro a F
      refine wq_ev (wn rfl) (ev_load1 tu9 rfl rfl (ptr_mono (cks := [c4, c5]) (fr := fr) hp4 (Le.refl _))) F rfl rfl ?_; clear F a; intro a F
      refine wq_ev (wn rfl) (ev_move rfl) F rfl rfl ?_; clear F a; intro a F
      refine wq_ev (wn rfl) (ev_move rfl) F rfl rfl ?_; clear F a; intro a F
      obtain ⟨y8, hy8, hm⟩ := bind_some hm
      obtain ⟨cs5, hr6, hp5⟩ := elemS (hright1.mono (l1.trans l3)) hy8
      obtain rfl := rep_str hr6
      refine wq_ev (wn rfl) (ev_idxS (hright1.mono (l1.trans l3)) hy8 tu22 ts9 rfl rfl) F rfl rfl ?_; clear F a; intro a F
      refine wq_ev (wn rfl) (ev_load1 tu9 rfl rfl (ptr_mono (cks := [c4, c5]) (fr := fr) hp5 (Le.refl _))) F rfl rfl ?_; clear F a; intro a F
      refine wq_ev (wn rfl) (ev_str rfl rfl (bs_neq _ _ _)) F rfl rfl ?_; clear F a; intro a F
      refine wq_ev (wn rfl) (ev_move rfl) F rfl rfl ?_; clear F a; intro a F
      obtain ⟨x10, hx3, hm⟩ := bind_some hm
      refine wq_cut 14 (fun a => Fr 85 a [(65, .bool x10), (12, .i6 x3), (17, .i6 x3), (16, .i6 (left.length : Int)), (11, v4), (10, v5), (0, .string key), (1, vbase1), (2, vleft1), (3, vright1)]) ?_ ?_
      ·clear hm; obtain ⟨hc4, hm⟩ | ⟨hc4, hm⟩ := ite_or hx3
       ·refine wq_ev (wg F rfl rfl rfl rfl hc4) (ev_move rfl) F rfl rfl ?_; clear F a; intro a F
        refine wq_ev (wg F rfl rfl rfl rfl hc4) (ev_nileqlSx (hbase1.mono (l1.trans l3)) hn1 tu22 rfl rfl) F rfl rfl ?_; clear F a; intro a F
        refine wq_ev (wg F rfl rfl rfl rfl hc4) (ev_move rfl) F rfl rfl ?_; clear F a; intro a F
        obtain ⟨x11, hx4, hm⟩ := bind_some hm
        refine wq_cut 10 (fun a => Fr 85 a [(64, .bool x11), (54, .bool base.isEmpty), (53, .bool base.isEmpty), (52, vbase1), (51, .bool (!decide (y7 = y8))), (12, .i6 x3), (17, .i6 x3), (16, .i6 (left.length : Int)), (11, v4), (10, v5), (0, .string key), (1, vbase1), (2, vleft1), (3, vright1)]) ?_ ?_
        ·clear hm; obtain ⟨hc5, hm⟩ | ⟨hc5, hm⟩ := ite_or hx4
         ·refine wq_skip rfl rfl rfl rfl (ne_ft hc5) F rfl rfl ?_; clear F a; intro a F
          refine wq_skip rfl rfl rfl rfl (ne_ft hc5) F rfl rfl ?_; clear F a; intro a F
          refine wq_skip rfl rfl rfl rfl (ne_ft hc5) F rfl rfl ?_; clear F a; intro a F
          refine wq_skip rfl rfl rfl rfl (ne_ft hc5) F rfl rfl ?_; clear F a; intro a F
          refine wq_skip rfl rfl rfl rfl (ne_ft hc5) F rfl rfl ?_; clear F a; intro a F
          refine wq_skip rfl rfl rfl rfl (ne_ft hc5) F rfl rfl ?_; clear F a; intro a F
          refine wq_skip rfl rfl rfl rfl (ne_ft hc5) F rfl rfl ?_; clear F a; intro a F
          refine wq_skip rfl rfl rfl rfl (ne_ft hc5) F rfl rfl ?_; clear F a; intro a F
          refine wq_skip rfl rfl rfl rfl (ne_ft hc5) F rfl rfl ?_; clear F a; intro a F
          refine wq_ev (wg F rfl rfl rfl rfl hc4) (ev_pickT rfl hc5 rfl) F rfl rfl ?_; clear F a; intro a F
          obtain rfl := sinj hm
          refine wq_nil ?_; exact F.sub ⟨rfl, rfl, rfl, rfl, rfl, rfl, rfl, rfl, rfl, rfl, rfl, rfl, rfl, rfl, trivial⟩
         ·refine wq_ev (wg F rfl rfl rfl rfl hc5) (ev_move rfl) F rfl rfl ?_; clear F a; intro a F
          refine wq_ev (wg F rfl rfl rfl rfl hc5) (ev_move rfl) F rfl rfl ?_; clear F a; intro a F
          obtain ⟨y9, hy9, hm⟩ := bind_some hm
          obtain ⟨cs6, hr7, hp6⟩ := elemS (hright1.mono (l1.trans l3)) hy9
          obtain rfl := rep_str hr7
          refine wq_ev (wg F rfl rfl rfl rfl hc5) (ev_idxS (hright1.mono (l1.trans l3)) hy9 tu22 ts9 rfl rfl) F rfl rfl ?_; clear F a; intro a F
          refine wq_ev (wg F rfl rfl rfl rfl hc5) (ev_load1 tu9 rfl rfl (ptr_mono (cks := [c4, c5]) (fr := fr) hp6 (Le.refl _))) F rfl rfl ?_; clear F a; intro a F
          refine wq_ev (wg F rfl rfl rfl rfl hc5) (ev_move rfl) F rfl rfl ?_; clear F a; intro a F
          refine wq_ev (wg F rfl rfl rfl rfl hc5) (ev_move rfl) F rfl rfl ?_; clear F a; intro a F
          obtain ⟨y10, hy10, hm⟩ := bind_some hm
          obtain ⟨cs7, hr8, hp7⟩ := elemS (hbase1.mono (l1.trans l3)) hy10
          obtain rfl := rep_str hr8
          refine wq_ev (wg F rfl rfl rfl rfl hc5) (ev_idxS (hbase1.mono (l1.trans l3)) hy10 tu22 ts9 rfl rfl) F rfl rfl ?_; clear F a; intro a F
          refine wq_ev (wg F rfl rfl rfl rfl hc5) (ev_load1 tu9 rfl rfl (ptr_mono (cks := [c4, c5]) (fr := fr) hp7 (Le.refl _))) F rfl rfl ?_; clear F a; intro a F
          refine wq_ev (wg F rfl rfl rfl rfl hc5) (ev_str rfl rfl (bs_neq _ _ _)) F rfl rfl ?_; clear F a; intro a F
          refine wq_ev (wg F rfl rfl rfl rfl hc4) (ev_pickF rfl hc5 rfl) F rfl rfl ?_; clear F a; intro a F
          obtain rfl := sinj hm
          refine wq_nil ?_; exact F.sub ⟨rfl, rfl, rfl, rfl, rfl, rfl, rfl, rfl, rfl, rfl, rfl, rfl, rfl, rfl, trivial⟩
        clear F; intro a F
        refine wq_ev (wn rfl) (ev_pickT rfl hc4 rfl) F rfl rfl ?_; clear F a; intro a F
        obtain rfl := sinj hm
        refine wq_nil ?_; exact F.sub ⟨rfl, rfl, rfl, rfl, rfl, rfl, rfl, rfl, rfl, rfl, trivial⟩
       ·refine wq_skip rfl rfl rfl rfl (ne_tf hc4) F rfl rfl ?_; clear F a; intro a F
        refine wq_skip rfl rfl rfl rfl (ne_tf hc4) F rfl rfl ?_; clear F a; intro a F
        refine wq_skip rfl rfl rfl rfl (ne_tf hc4) F rfl rfl ?_; clear F a; intro a F
        refine wq_skipu rfl rfl rfl rfl F rfl rfl ?_; clear F a; intro a F
        refine wq_skipu rfl rfl rfl rfl F rfl rfl ?_; clear F a; intro a F
        refine wq_skipu rfl rfl rfl rfl F rfl rfl ?_; clear F a; intro a F
        refine wq_skipu rfl rfl rfl rfl F rfl rfl ?_; clear F a; intro a F
        refine wq_skipu rfl rfl rfl rfl F rfl rfl ?_; clear F a; intro a F
        refine wq_skipu rfl rfl rfl rfl F rfl rfl ?_; clear F a; intro a F
        refine wq_skipu rfl rfl rfl rfl F rfl rfl ?_; clear F a; intro a F
        refine wq_skipu rfl rfl rfl rfl F rfl rfl ?_; clear F a; intro a F
        refine wq_skipu rfl rfl rfl rfl F rfl rfl ?_; clear F a; intro a F
        refine wq_skip rfl rfl rfl rfl (ne_tf hc4) F rfl rfl ?_; clear F a; intro a F
        refine wq_ev (wn rfl) (ev_pickF rfl hc4 rfl) F rfl rfl ?_; clear F a; intro a F
        obtain rfl := sinj hm
        refine wq_nil ?_; exact F.sub ⟨rfl, rfl, rfl, rfl, rfl, rfl, rfl, rfl, rfl, rfl, trivial⟩
      clear F; intro a F
      refine wq_ev (wn rfl) (ev_assign rfl) F rfl rfl ?_; clear F a; intro a F
      refine wq_nil ?_; clear S; intro w S
      refine then_n ?_
      obtain ⟨hc6, hm⟩ | ⟨hc6, hm⟩ := ite_or hm
      ·refine wp_condT F rfl hc6 ?_
       refine wp_dv [16] mo S ?_; clear S; intro ok1 w S
       refine dv_et ok1 0 rfl (ev_move rfl) F rfl fun a F=>?_
       refine dv_et ok1 1 rfl (ev_move rfl) F rfl fun a F=>?_
       refine dv_et ok1 2 rfl (ev_move rfl) F rfl fun a F=>?_
       refine dv_et ok1 3 rfl (ev_move rfl) F rfl fun a F=>?_
       refine dv_et ok1 4 rfl (ev_move rfl) F rfl fun a F=>?_
       refine dv_et ok1 5 rfl (ev_move rfl) F rfl fun a F=>?_
       obtain ⟨z2, hz2, hm⟩ := bind_some hm
       refine dv_et ok1 6 rfl (ev_int rfl rfl (bo_add hz2)) F rfl fun a F=>?_
       obtain ⟨y11, hy11, hm⟩ := bind_some hm
       obtain ⟨v8, h9, he1⟩ := ev_cut (P := Try.prog) (n := 85) (e := [(72, .i6 z2), (71, .i6 x3), (70, .i6 x3), (69, vleft1), (68, .i6 x3), (67, .string key), (66, v4), (41, .bool x10), (65, .bool x10), (12, .i6 x3), (17, .i6 x3), (16, .i6 (left.length : Int)), (11, v4), (10, v5), (0, .string key), (1, vbase1), (2, vleft1), (3, vright1)]) (C := fun _ => True) (x := .tmp 69) (lo := some (.tmp 70)) (hi := some (.tmp 72)) (hleft1.mono (l1.trans l3)) hy11 tu22 ts9 rfl (bndV rfl) (bndV rfl)
       refine dv_et ok1 7 rfl he1 F rfl fun a F=>?_
       refine dv_et ok1 8 rfl (ev_move rfl) F rfl fun a F=>?_
       refine dv_et ok1 9 rfl (ev_move rfl) F rfl fun a F=>?_
       refine dv_et ok1 10 rfl (ev_move rfl) F rfl fun a F=>?_
       obtain ⟨z3, hz3, hm⟩ := bind_some hm
       refine dv_et ok1 11 rfl (ev_int rfl rfl (bo_add hz3)) F rfl fun a F=>?_
       obtain ⟨y12, hy12, hm⟩ := bind_some hm
       obtain ⟨v9, h10, he2⟩ := ev_cut (P := Try.prog) (n := 85) (e := [(77, .i6 z3), (76, .i6 x3), (75, .i6 x3), (74, vright1), (73, v8), (72, .i6 z2), (71, .i6 x3), (70, .i6 x3), (69, vleft1), (68, .i6 x3), (67, .string key), (66, v4), (41, .bool x10), (65, .bool x10), (12, .i6 x3), (17, .i6 x3), (16, .i6 (left.length : Int)), (11, v4), (10, v5), (0, .string key), (1, vbase1), (2, vleft1), (3, vright1)]) (C := fun _ => True) (x := .tmp 74) (lo := some (.tmp 75)) (hi := some (.tmp 77)) (hright1.mono (l1.trans l3)) hy12 tu22 ts9 rfl (bndV rfl) (bndV rfl)
       refine dv_et ok1 12 rfl he2 F rfl fun a F=>?_
       refine dv_op ok1 13 rfl [] ?_
       obtain ⟨y13, hy13, hm⟩ := bind_some hm
       refine wl_call0 (wn rfl) rfl F rfl (tablepatch_change_ok (fr := (fl [c4, c5] fr)) key x3 y11 v8 h9 y12 v9 h10 S hy13) rfl tc28 rfl rfl ?_; clear F a S
       rintro _ a w ⟨g5, v10, v11, c9, c10, l5, S, h11, h12, rfl⟩ F; replace S : St g5 [c9, c10, c4, c5] fr w := S
       refine dv_nx trivial ?_
       refine dv_op ok1 14 rfl [] ?_
       obtain ⟨g6, l6, S, h13⟩ : ∃ gz, Le g5 gz ∧ St gz [c10, c4, c5] fr w ∧ RepSl gz y13.Old v10 := ⟨_, Le.add _ _, S.freeze 0 rfl, OwnS.freeze (S.front 0 rfl) h11⟩
       obtain ⟨g7, l7, S, h14⟩ : ∃ gz, Le g6 gz ∧ St gz [c4, c5] fr w ∧ RepSl gz y13.New v11 := ⟨_, Le.add _ _, S.freeze 0 rfl, OwnS.freeze (S.front 0 rfl) (h12.mono l6)⟩
       refine wl_lit (l := ([y13] : List CellChange)) (vs := [.agg #[.string y13.Key, .i6 y13.Column, v10, v11]]) (parts := [(0, .tmp 79)]) (wn rfl) rfl rfl rfl tu26 te36 (sz_cons rfl sz_nil) rfl (Cat.cons (rep_CellChange_mk (x := y13) (h13.mono l7) h14) (Cat.nil _)) (coa_cons rfl coa_nil) rfl F S rfl rfl ?_; clear F a S
       rintro v12 c11 a w h15 F S
       refine dv_nx trivial ?_
       refine dv_op ok1 15 rfl [] ?_
       obtain ⟨cs8, hk1, hr9⟩ := OwnS.reads h15
       obtain ⟨y14, hy14, hm⟩ := bind_some hm
       refine wl_append (wn rfl) rfl tu26 tu26 te36 (by decide) (by decide) F S rfl rfl (k := 1) rfl (h4.mono ((l5.trans l6).trans l7)) hk1 rfl (hr9 _ _ _ 0 rfl S) hy14 rfl rfl ?_; clear F a S
       rintro v13 c12 a w h16 S F; replace S : St g7 [c11, c12, c5] fr w := S
       refine dv_nx trivial ?_
       refine dv_op ok1 16 rfl [] ?_
       refine wE (ev_assign rfl) F S rfl fun a F=>?_
       refine dv_nx trivial ?_
       refine dv_fin ok1 ?_
       refine inb_n ?_
       refine inb_n ?_
       refine then_n ?_
       replace S : St g7 [c12, c5] fr w := St.tail [c12, c5] _ ((S.frontC 2 rfl).frontC 2 rfl)
       exact ⟨y14, x5, v13, v5, c12, c5, g7, F.sub ⟨rfl, rfl, rfl, rfl, rfl, rfl, rfl, rfl, trivial⟩, ((l5.trans l6).trans l7), S, h16, (h5.mono ((l5.trans l6).trans l7)), hm⟩
      ·refine wp_condF F rfl hc6 ?_
       refine wp_skip ?_
       refine inb_n ?_
       refine inb_n ?_
       refine then_n ?_
       exact ⟨x4, x5, v4, v5, c4, c5, g3, F.sub ⟨rfl, rfl, rfl, rfl, rfl, rfl, rfl, rfl, trivial⟩, (Le.refl _), S, h4, h5, hm⟩
    ·clear F S hm; rintro a w ⟨x7, x8, v6, v7, c6, c7, g4, F, l4, S, h6, h7, hm⟩
     refine wp_region_lit ?_
     obtain ⟨z1, hz1, hm⟩ := bind_some hm
     refine wE (ev_int rfl rfl (bo_add hz1)) F S rfl fun a F=>?_
     refine wE (ev_move rfl) F S rfl fun a F=>?_
     refine wpList_nil ?_
     refine then_n ?_
     obtain rfl := sinj hm
     refine ⟨_, rfl, ?_⟩
     dsimp only
     exact ⟨v6, v7, c6, c7, g4, F.sub ⟨rfl, rfl, rfl, rfl, rfl, rfl, rfl, rfl, trivial⟩, (l3.trans l4), S, h6, h7⟩
   ·refine wp_condF F rfl hc1 ?_
    refine wp_exit ?_
    refine then_e ?_
    refine then_e ?_
    refine inb_x ?_
    refine then_n ?_
    obtain rfl := sinj hm
    obtain rfl := hfin1 _ rfl
    clear hm
    have hm : (tablepatch_cells.j1 x4 x5 : Option ((List ByteArray) × (List CellChange))) = some _ := hmo1
    exact ⟨x4, x5, v4, v5, c4, c5, g3, F.sub ⟨rfl, rfl, trivial⟩, l3, S, h4, h5, hm⟩
 ·clear F S hm; rintro a w ⟨x1, x2, v2, v3, c2, c3, g2, F, l2, S, h2, h3, hm⟩
  refine wp_seq ?_
  refine wp_region_lit ?_
  refine wE (ev_move rfl) F S rfl fun a F=>?_
  refine wE (ev_move rfl) F S rfl fun a F=>?_
  refine wE (ev_assign rfl) F S rfl fun a F=>?_
  refine wE (ev_assign rfl) F S rfl fun a F=>?_
  refine wpList_nil ?_
  refine then_n ?_
  refine wp_ret ?_
  obtain ⟨u1, hn2, hm⟩ := bind_some hm
  obtain rfl := sinj hm
  refine post_r _ F rfl (ar_cons (resT rfl) (ar_cons (resT rfl) ar_nil)) ?_
  replace S : St g2 [c3, c2] fr w := St.tail [c3, c2] _ ((S.frontC 0 rfl).frontC 2 rfl)
  exact ⟨_, rfl, g2, v3, v2, c3, c2, (l1.trans l2), S, h3, (NilE.of hn2), h2, rfl⟩

theorem tablepatch_Merge_ok {g : Gh} {fr : Hl} {w : World} {r : Table × (List CellChange) × Fault} (base : Table) (vbase1 : Value) (hbase1 : RepSl g base.Columns vbase1) (vbase2 : Value) (hbase2 : RepSl g base.Rows vbase2) (left : Table) (vleft1 : Value) (hleft1 : RepSl g left.Columns vleft1) (vleft2 : Value) (hleft2 : RepSl g left.Rows vleft2) (right : Table) (vright1 : Value) (hright1 : RepSl g right.Columns vright1) (vright2 : Value) (hright2 : RepSl g right.Rows vright2) (S : St g [] fr w) (hm : tablepatch_Merge base left right = some r) :
  Calls Try.prog 10 [.agg #[vbase1, vbase2], .agg #[vleft1, vleft2], .agg #[vright1, vright2]].toArray w (fun en w' => ∃ v, en = .returned v ∧ ∃ (g' : Gh) (v1 v2 v3 : Value) (c1 c2 c3 : Hl), Le g g' ∧ St g' [c1, c2, c3] fr w' ∧ OwnS g' r.1.Columns v1 c1 ∧ OwnS g' r.1.Rows v2 c2 ∧ OwnS g' r.2.1 v3 c3 ∧ .tuple #[.agg #[v1, v2], v3, .agg #[.i6 r.2.2.Code, .i6 r.2.2.Index]] = v) := by
 unfold tablepatch_Merge at hm
 refine calls_enter (fn := Try.f10) Try.func10 rfl Try.ntmps10 (lb rfl) ?_
 intro a F
 replace F : Fr 121 a [(0, .agg #[vbase1, vbase2]), (1, .agg #[vleft1, vleft2]), (2, .agg #[vright1, vright2])] := F
 refine wp_seq ?_
 refine wp_region_lit ?_
 refine wl_boxC (wn rfl) rfl rfl rfl F S rfl rfl ?_; clear F a S; rintro b1 a w F S
 refine wl_boxC (wn rfl) rfl rfl rfl F S rfl rfl ?_; clear F a S; rintro b2 a w F S
 refine wl_boxC (wn rfl) rfl rfl rfl F S rfl rfl ?_; clear F a S; rintro b3 a w F S
 refine wl_alloc (wn rfl) rfl tz25 (cs := [nilS, nilS]) rfl F S rfl rfl ?_; clear F a S; rintro b4 a w F S
 refine wE (ev_assign rfl) F S rfl fun a F=>?_
 refine wl_alloc (wn rfl) rfl tz28 (cs := [.i6 0, .i6 0]) rfl F S rfl rfl ?_; clear F a S; rintro b5 a w F S
 refine wpList_nil ?_
 refine then_n ?_
 refine wp_seq ?_
 refine wp_seq ?_
 refine wp_region_lit ?_
 refine wE (ev_loadA tu25 rfl (cs := [vbase1, vbase2]) ts25 rfl (box_ptr (cells := [vbase1, vbase2]) 4 rfl 0 rfl (lb rfl))) F S rfl fun a F=>?_
 refine wE (ev_loadA tu25 rfl (cs := [vleft1, vleft2]) ts25 rfl (box_ptr (cells := [vleft1, vleft2]) 3 rfl 0 rfl (lb rfl))) F S rfl fun a F=>?_
 obtain ⟨y1, hy1, hm⟩ := bind_some hm
 refine wl_call0 (wn rfl) rfl F rfl (tablepatch_pair_ok (fr := (fl [[bx b5 #[.i6 0, .i6 0] 28], [bx b4 #[nilS, nilS] 25], [bx b3 #[vright1, vright2] 25], [bx b2 #[vleft1, vleft2] 25], [bx b1 #[vbase1, vbase2] 25]] fr)) base vbase1 hbase1 vbase2 hbase2 left vleft1 hleft1 vleft2 hleft2 (-20) S hy1) rfl tc23 rfl rfl ?_; clear F a S
 rintro _ a w ⟨g1, l1, S, rfl⟩ F; replace S : St g1 [[bx b5 #[.i6 0, .i6 0] 28], [bx b4 #[nilS, nilS] 25], [bx b3 #[vright1, vright2] 25], [bx b2 #[vleft1, vleft2] 25], [bx b1 #[vbase1, vbase2] 25]] fr w := S
 refine wl_alloc (wn rfl) rfl tz28 (cs := [.i6 0, .i6 0]) rfl F S rfl rfl ?_; clear F a S; rintro b6 a w F S
 refine wl_storeC (wn rfl) rfl F S rfl rfl (vs := [.i6 y1.Code, .i6 y1.Index]) rfl ts28 (one_cons rfl (one_cons rfl one_nil)) (k := 0) rfl (lb rfl) (c' := #[.i6 y1.Code, .i6 y1.Index]) rfl rfl ?_; clear S; intro w S
 refine wpList_nil ?_
 refine then_n ?_
 refine wp_seq ?_
 refine wp_region_lit ?_
 refine wE (ev_loadA tu28 rfl (cs := [.i6 y1.Code, .i6 y1.Index]) ts28 rfl (box_ptr (cells := [.i6 y1.Code, .i6 y1.Index]) 0 rfl 0 rfl (lb rfl))) F S rfl fun a F=>?_
 refine wE (ev_build (parts := []) (vs := []) rfl (fun w => tb28_  w)) F S rfl fun a F=>?_
 refine wE (ev_neS tu28 tqa28 tqb28 tqc28 (xs := [.i6 y1.Code, .i6 y1.Index]) (ys := [.i6 0, .i6 0]) rfl rfl ⟨_, _, rfl, by decide, ⟨_, _, rfl, rfl, leaf_int tu3⟩, ⟨_, _, rfl, by decide, ⟨_, _, rfl, rfl, leaf_int tu3⟩, rfl⟩⟩) F S rfl fun a F=>?_
 refine wpList_nil ?_
 refine then_n ?_
 obtain ⟨hc1, hm⟩ | ⟨hc1, hm⟩ := ite_or hm
 ·refine wp_condT F rfl hc1 ?_
  refine wp_seq ?_
  refine wp_dv [] mo S ?_; clear S; intro ok1 w S
  refine dv_et ok1 0 rfl (ev_build (parts := []) (vs := []) rfl (fun w => tb25_  w)) F rfl fun a F=>?_
  refine dv_ev ok1 1 rfl (ev_loadA tu28 rfl (cs := [.i6 y1.Code, .i6 y1.Index]) ts28 rfl (box_ptr (cells := [.i6 y1.Code, .i6 y1.Index]) 0 rfl 0 rfl (lb rfl))) F S rfl fun a F=>?_
  refine dv_op ok1 2 rfl [(1, .agg #[.i6 y1.Code, .i6 y1.Index])] ?_
  refine wl_storeC (wn rfl) rfl F S rfl rfl (vs := [nilS, nilS]) rfl ts25 (one_cons rfl (one_cons rfl one_nil)) (k := 2) rfl (lb rfl) (c' := #[nilS, nilS]) rfl rfl ?_; clear S; intro w S
  refine dv_nx ⟨yl_ev rfl rfl (ev_loadA tu28 rfl (cs := [.i6 y1.Code, .i6 y1.Index]) ts28 rfl (box_ptr (cells := [.i6 y1.Code, .i6 y1.Index]) 0 rfl 0 rfl (lb rfl))) F S, trivial⟩ ?_
  refine dv_et ok1 3 rfl (ev_assign rfl) F rfl fun a F=>?_
  refine dv_op ok1 4 rfl [] ?_
  refine wl_storeC (wn rfl) rfl F S rfl rfl (vs := [.i6 y1.Code, .i6 y1.Index]) rfl ts28 (one_cons rfl (one_cons rfl one_nil)) (k := 1) rfl (lb rfl) (c' := #[.i6 y1.Code, .i6 y1.Index]) rfl rfl ?_; clear S; intro w S
  refine dv_nx trivial ?_
  refine dv_fin ok1 ?_
  refine then_n ?_
  refine wp_ret ?_
  refine then_r ?_
  obtain rfl := sinj hm
  replace S : St g1 [[], [bx b6 #[.i6 y1.Code, .i6 y1.Index] 28], [bx b5 #[.i6 y1.Code, .i6 y1.Index] 28], [bx b4 #[nilS, nilS] 25], [bx b3 #[vright1, vright2] 25], [bx b2 #[vleft1, vleft2] 25], [bx b1 #[vbase1, vbase2] 25]] fr w := S
  replace S : St g1 [[], [], [bx b6 #[.i6 y1.Code, .i6 y1.Index] 28], [bx b5 #[.i6 y1.Code, .i6 y1.Index] 28], [bx b4 #[nilS, nilS] 25], [bx b3 #[vright1, vright2] 25], [bx b2 #[vleft1, vleft2] 25], [bx b1 #[vbase1, vbase2] 25]] fr w := S
  replace S : St g1 [[], [], [], [bx b6 #[.i6 y1.Code, .i6 y1.Index] 28], [bx b5 #[.i6 y1.Code, .i6 y1.Index] 28], [bx b4 #[nilS, nilS] 25], [bx b3 #[vright1, vright2] 25], [bx b2 #[vleft1, vleft2] 25], [bx b1 #[vbase1, vbase2] 25]] fr w := S
  refine post_r _ F rfl (ar_cons (resA rfl tu25 rfl (box_ptr (cells := [nilS, nilS]) 5 rfl 0 rfl (lb rfl) w S) ts25) (ar_cons (resT rfl) (ar_cons (resA rfl tu28 rfl (box_ptr (cells := [.i6 y1.Code, .i6 y1.Index]) 4 rfl 0 rfl (lb rfl) w S) ts28) ar_nil))) ?_
  replace S : St g1 [[], [], []] fr w := St.tail [[], [], []] _ (((S.frontC 0 rfl).frontC 2 rfl).frontC 4 rfl)
  exact ⟨_, rfl, g1, (nilS), (nilS), (nilS), [], [], [], l1, S, (OwnS.nil _), (OwnS.nil _), (OwnS.nil _), rfl⟩
 ·refine wp_condF F rfl hc1 ?_
  refine wp_skip ?_
  refine then_n ?_
  refine wp_seq ?_
  refine wp_seq ?_
  refine wp_region_lit ?_
  refine wE (ev_loadA tu25 rfl (cs := [vbase1, vbase2]) ts25 rfl (box_ptr (cells := [vbase1, vbase2]) 5 rfl 0 rfl (lb rfl))) F S rfl fun a F=>?_
  refine wE (ev_loadA tu25 rfl (cs := [vright1, vright2]) ts25 rfl (box_ptr (cells := [vright1, vright2]) 3 rfl 0 rfl (lb rfl))) F S rfl fun a F=>?_
  obtain ⟨y2, hy2, hm⟩ := bind_some hm
  refine wl_call0 (wn rfl) rfl F rfl (tablepatch_pair_ok (fr := (fl [[bx b6 #[.i6 y1.Code, .i6 y1.Index] 28], [bx b5 #[.i6 0, .i6 0] 28], [bx b4 #[nilS, nilS] 25], [bx b3 #[vright1, vright2] 25], [bx b2 #[vleft1, vleft2] 25], [bx b1 #[vbase1, vbase2] 25]] fr)) base vbase1 (hbase1.mono l1) vbase2 (hbase2.mono l1) right vright1 (hright1.mono l1) vright2 (hright2.mono l1) (-30) S hy2) rfl tc23 rfl rfl ?_; clear F a S
  rintro _ a w ⟨g2, l2, S, rfl⟩ F; replace S : St g2 [[bx b6 #[.i6 y1.Code, .i6 y1.Index] 28], [bx b5 #[.i6 0, .i6 0] 28], [bx b4 #[nilS, nilS] 25], [bx b3 #[vright1, vright2] 25], [bx b2 #[vleft1, vleft2] 25], [bx b1 #[vbase1, vbase2] 25]] fr w := S
  refine wl_alloc (wn rfl) rfl tz28 (cs := [.i6 0, .i6 0]) rfl F S rfl rfl ?_; clear F a S; rintro b7 a w F S
  refine wl_storeC (wn rfl) rfl F S rfl rfl (vs := [.i6 y2.Code, .i6 y2.Index]) rfl ts28 (one_cons rfl (one_cons rfl one_nil)) (k := 0) rfl (lb rfl) (c' := #[.i6 y2.Code, .i6 y2.Index]) rfl rfl ?_; clear S; intro w S
  refine wpList_nil ?_
  refine then_n ?_
  refine wp_seq ?_
  refine wp_region_lit ?_
  refine wE (ev_loadA tu28 rfl (cs := [.i6 y2.Code, .i6 y2.Index]) ts28 rfl (box_ptr (cells := [.i6 y2.Code, .i6 y2.Index]) 0 rfl 0 rfl (lb rfl))) F S rfl fun a F=>?_
  refine wE (ev_build (parts := []) (vs := []) rfl (fun w => tb28_  w)) F S rfl fun a F=>?_
  refine wE (ev_neS tu28 tqa28 tqb28 tqc28 (xs := [.i6 y2.Code, .i6 y2.Index]) (ys := [.i6 0, .i6 0]) rfl rfl ⟨_, _, rfl, by decide, ⟨_, _, rfl, rfl, leaf_int tu3⟩, ⟨_, _, rfl, by decide, ⟨_, _, rfl, rfl, leaf_int tu3⟩, rfl⟩⟩) F S rfl fun a F=>?_
  refine wpList_nil ?_
  refine then_n ?_
  obtain ⟨hc2, hm⟩ | ⟨hc2, hm⟩ := ite_or hm
  ·refine wp_condT F rfl hc2 ?_
   refine wp_seq ?_
   refine wp_dv [] mo S ?_; clear S; intro ok2 w S
   refine dv_et ok2 0 rfl (ev_build (parts := []) (vs := []) rfl (fun w => tb25_  w)) F rfl fun a F=>?_
   refine dv_ev ok2 1 rfl (ev_loadA tu28 rfl (cs := [.i6 y2.Code, .i6 y2.Index]) ts28 rfl (box_ptr (cells := [.i6 y2.Code, .i6 y2.Index]) 0 rfl 0 rfl (lb rfl))) F S rfl fun a F=>?_
   refine dv_op ok2 2 rfl [(1, .agg #[.i6 y2.Code, .i6 y2.Index])] ?_
   refine wl_storeC (wn rfl) rfl F S rfl rfl (vs := [nilS, nilS]) rfl ts25 (one_cons rfl (one_cons rfl one_nil)) (k := 3) rfl (lb rfl) (c' := #[nilS, nilS]) rfl rfl ?_; clear S; intro w S
   refine dv_nx ⟨yl_ev rfl rfl (ev_loadA tu28 rfl (cs := [.i6 y2.Code, .i6 y2.Index]) ts28 rfl (box_ptr (cells := [.i6 y2.Code, .i6 y2.Index]) 0 rfl 0 rfl (lb rfl))) F S, trivial⟩ ?_
   refine dv_et ok2 3 rfl (ev_assign rfl) F rfl fun a F=>?_
   refine dv_op ok2 4 rfl [] ?_
   refine wl_storeC (wn rfl) rfl F S rfl rfl (vs := [.i6 y2.Code, .i6 y2.Index]) rfl ts28 (one_cons rfl (one_cons rfl one_nil)) (k := 2) rfl (lb rfl) (c' := #[.i6 y2.Code, .i6 y2.Index]) rfl rfl ?_; clear S; intro w S
   refine dv_nx trivial ?_
   refine dv_fin ok2 ?_
   refine then_n ?_
   refine wp_ret ?_
   refine then_r ?_
   obtain rfl := sinj hm
   replace S : St g2 [[], [bx b7 #[.i6 y2.Code, .i6 y2.Index] 28], [bx b6 #[.i6 y1.Code, .i6 y1.Index] 28], [bx b5 #[.i6 y2.Code, .i6 y2.Index] 28], [bx b4 #[nilS, nilS] 25], [bx b3 #[vright1, vright2] 25], [bx b2 #[vleft1, vleft2] 25], [bx b1 #[vbase1, vbase2] 25]] fr w := S
   replace S : St g2 [[], [], [bx b7 #[.i6 y2.Code, .i6 y2.Index] 28], [bx b6 #[.i6 y1.Code, .i6 y1.Index] 28], [bx b5 #[.i6 y2.Code, .i6 y2.Index] 28], [bx b4 #[nilS, nilS] 25], [bx b3 #[vright1, vright2] 25], [bx b2 #[vleft1, vleft2] 25], [bx b1 #[vbase1, vbase2] 25]] fr w := S
   replace S : St g2 [[], [], [], [bx b7 #[.i6 y2.Code, .i6 y2.Index] 28], [bx b6 #[.i6 y1.Code, .i6 y1.Index] 28], [bx b5 #[.i6 y2.Code, .i6 y2.Index] 28], [bx b4 #[nilS, nilS] 25], [bx b3 #[vright1, vright2] 25], [bx b2 #[vleft1, vleft2] 25], [bx b1 #[vbase1, vbase2] 25]] fr w := S
   refine post_r _ F rfl (ar_cons (resA rfl tu25 rfl (box_ptr (cells := [nilS, nilS]) 6 rfl 0 rfl (lb rfl) w S) ts25) (ar_cons (resT rfl) (ar_cons (resA rfl tu28 rfl (box_ptr (cells := [.i6 y2.Code, .i6 y2.Index]) 5 rfl 0 rfl (lb rfl) w S) ts28) ar_nil))) ?_
   replace S : St g2 [[], [], []] fr w := St.tail [[], [], []] _ (((S.frontC 0 rfl).frontC 2 rfl).frontC 4 rfl)
   exact ⟨_, rfl, g2, (nilS), (nilS), (nilS), [], [], [], (l1.trans l2), S, (OwnS.nil _), (OwnS.nil _), (OwnS.nil _), rfl⟩
  ·refine wp_condF F rfl hc2 ?_
   refine wp_skip ?_
   refine then_n ?_
   refine wp_seq ?_
   refine wp_region_lit ?_
   refine wE (ev_fieldAddr' tu25 tf25_0 (z := 0) ts22 rfl ⟨_, rfl⟩ rfl) F S rfl fun a F=>?_
   refine wE (ev_load1 tu22 rfl rfl (box_ptr (cells := [vbase1]) 6 rfl 0 rfl (lb rfl))) F S rfl fun a F=>?_
   obtain ⟨y3, hy3, hm⟩ := bind_some hm
   refine wl_call0 (wn rfl) rfl F rfl (slices_Clone_ok (fr := (fl [[bx b7 #[.i6 y2.Code, .i6 y2.Index] 28], [bx b6 #[.i6 y1.Code, .i6 y1.Index] 28], [bx b5 #[.i6 0, .i6 0] 28], [bx b4 #[nilS, nilS] 25], [bx b3 #[vright1, vright2] 25], [bx b2 #[vleft1, vleft2] 25], [bx b1 #[vbase1, vbase2] 25]] fr)) base.Columns vbase1 (hbase1.mono (l1.trans l2)) S hy3) rfl tc24 rfl rfl ?_; clear F a S
   rintro _ a w ⟨g3, v1, c1, l3, S, h1, rfl⟩ F; replace S : St g3 [c1, [bx b7 #[.i6 y2.Code, .i6 y2.Index] 28], [bx b6 #[.i6 y1.Code, .i6 y1.Index] 28], [bx b5 #[.i6 0, .i6 0] 28], [bx b4 #[nilS, nilS] 25], [bx b3 #[vright1, vright2] 25], [bx b2 #[vleft1, vleft2] 25], [bx b1 #[vbase1, vbase2] 25]] fr w := S
   refine wE (ev_build (parts := [(0, .tmp 38)]) (vs := [(0, v1)]) rfl (fun w => tb25_0 v1 (OwnS.isSl h1) w)) F S rfl fun a F=>?_
   refine wl_alloc (wn rfl) rfl tz25 (cs := [nilS, nilS]) rfl F S rfl rfl ?_; clear F a S; rintro b8 a w F S
   refine wl_storeC (wn rfl) rfl F S rfl rfl (vs := [v1, nilS]) rfl ts25 (one_cons (OwnS.one h1) (one_cons rfl one_nil)) (k := 0) rfl (lb rfl) (c' := #[v1, nilS]) rfl rfl ?_; clear S; intro w S
   refine wpList_nil ?_
   refine then_n ?_
   refine wp_seq ?_
   refine wp_region_lit ?_
   refine wE (ev_assign rfl) F S rfl fun a F=>?_
   refine wpList_nil ?_
   refine then_n ?_
   refine wp_cut (fun a w => ∃ (x1 : List CellChange) (x2 : List Row) (v2 v3 : Value) (c2 c3 : Hl) (g4 : Gh), Fr 121 a [(12, v2), (11, bp b8 0), (8, bp b5 0), (6, bp b4 0)] ∧ Le g3 g4 ∧ St g4 [c2, [bx b8 #[v1, v3] 25], [bx b5 #[.i6 0, .i6 0] 28], [bx b4 #[nilS, nilS] 25], c1, c3] fr w ∧ OwnS g4 x1 v2 c2 ∧ OwnS g4 x2 v3 c3 ∧ tablepatch_Merge.j1 y3 x1 x2 = some r) ?_ ?_
   ·refine wp_seq ?_
    refine wp_region_lit ?_
    refine wE (ev_loadA tu25 rfl (cs := [vbase1, vbase2]) ts25 rfl (box_ptr (cells := [vbase1, vbase2]) 8 rfl 0 rfl (lb rfl))) F S rfl fun a F=>?_
    refine wE (ev_loadA tu25 rfl (cs := [vleft1, vleft2]) ts25 rfl (box_ptr (cells := [vleft1, vleft2]) 7 rfl 0 rfl (lb rfl))) F S rfl fun a F=>?_
    refine wE (ev_loadA tu25 rfl (cs := [vright1, vright2]) ts25 rfl (box_ptr (cells := [vright1, vright2]) 6 rfl 0 rfl (lb rfl))) F S rfl fun a F=>?_
    refine wl_lit (l := ([base, left, right] : List Table)) (vs := [.agg #[vbase1, vbase2], .agg #[vleft1, vleft2], .agg #[vright1, vright2]]) (parts := [(0, .tmp 40), (1, .tmp 41), (2, .tmp 42)]) (wn rfl) rfl rfl rfl tu69 te25 (sz_cons rfl (sz_cons rfl (sz_cons rfl sz_nil))) rfl (Cat.cons (rep_Table_mk (x := base) (hbase1.mono ((l1.trans l2).trans l3)) (hbase2.mono ((l1.trans l2).trans l3))) (Cat.cons (rep_Table_mk (x := left) (hleft1.mono ((l1.trans l2).trans l3)) (hleft2.mono ((l1.trans l2).trans l3))) (Cat.cons (rep_Table_mk (x := right) (hright1.mono ((l1.trans l2).trans l3)) (hright2.mono ((l1.trans l2).trans l3))) (Cat.nil _)))) (coa_cons rfl (coa_cons rfl (coa_cons rfl coa_nil))) rfl F S rfl rfl ?_; clear F a S
    rintro v4 c4 a w h4 F S
    obtain ⟨g5, l5, S, h5⟩ : ∃ gz, Le g3 gz ∧ St gz [[bx b8 #[v1, nilS] 25], c1, [bx b7 #[.i6 y2.Code, .i6 y2.Index] 28], [bx b6 #[.i6 y1.Code, .i6 y1.Index] 28], [bx b5 #[.i6 0, .i6 0] 28], [bx b4 #[nilS, nilS] 25], [bx b3 #[vright1, vright2] 25], [bx b2 #[vleft1, vleft2] 25], [bx b1 #[vbase1, vbase2] 25]] fr w ∧ RepSl gz ([base, left, right] : List Table) v4 := ⟨_, Le.add _ _, S.freeze 0 rfl, OwnS.freeze (S.front 0 rfl) h4⟩
    obtain ⟨y4, hy4, hm⟩ := bind_some hm
    refine wl_call0 (wn rfl) rfl F rfl (tablepatch_keys_ok (fr := (fl [[bx b8 #[v1, nilS] 25], c1, [bx b7 #[.i6 y2.Code, .i6 y2.Index] 28], [bx b6 #[.i6 y1.Code, .i6 y1.Index] 28], [bx b5 #[.i6 0, .i6 0] 28], [bx b4 #[nilS, nilS] 25], [bx b3 #[vright1, vright2] 25], [bx b2 #[vleft1, vleft2] 25], [bx b1 #[vbase1, vbase2] 25]] fr)) ([base, left, right] : List Table) v4 h5 S hy4) rfl tc25 rfl rfl ?_; clear F a S
    rintro _ a w ⟨g6, v5, c5, l6, S, h6, rfl⟩ F; replace S : St g6 [c5, [bx b8 #[v1, nilS] 25], c1, [bx b7 #[.i6 y2.Code, .i6 y2.Index] 28], [bx b6 #[.i6 y1.Code, .i6 y1.Index] 28], [bx b5 #[.i6 0, .i6 0] 28], [bx b4 #[nilS, nilS] 25], [bx b3 #[vright1, vright2] 25], [bx b2 #[vleft1, vleft2] 25], [bx b1 #[vbase1, vbase2] 25]] fr w := S
    refine wE (ev_lenOw h6 rfl tu22) F S rfl fun a F=>?_
    refine wE (ev_move rfl) F S rfl fun a F=>?_
    refine wpList_nil ?_
    refine then_n ?_
    refine wp_block ?_
    obtain ⟨r1, hr1, hm⟩ := bind_some hm
    have hmo1 := hm; clear hm
    refine wp_iter (σ := Int × (List CellChange) × (List Row)) (ρ := (List CellChange) × (List Row)) (m := fun s => tablepatch_Merge.l1 base left right y4 s.1 s.2.1 s.2.2) (I := fun s a w => match s with | (x3, x4, x5) => ∃ (v6 v7 : Value) (c6 c7 : Hl) (g7 : Gh), Fr 121 a [(46, .i6 x3), (45, .i6 (y4.length : Int)), (44, v5), (12, v6), (11, bp b8 0), (8, bp b5 0), (6, bp b4 0), (5, bp b3 0), (4, bp b2 0), (3, bp b1 0)] ∧ Le g6 g7 ∧ St g7 [c5, c6, [bx b8 #[v1, v7] 25], [bx b5 #[.i6 0, .i6 0] 28], [bx b4 #[nilS, nilS] 25], [bx b3 #[vright1, vright2] 25], [bx b2 #[vleft1, vleft2] 25], [bx b1 #[vbase1, vbase2] 25], c1, c7] fr w ∧ OwnS g7 x4 v6 c6 ∧ OwnS g7 x5 v7 c7) hr1 ?_ ?_
    ·dsimp only
     replace S : St g6 [[], c5, [bx b8 #[v1, nilS] 25], c1, [bx b7 #[.i6 y2.Code, .i6 y2.Index] 28], [bx b6 #[.i6 y1.Code, .i6 y1.Index] 28], [bx b5 #[.i6 0, .i6 0] 28], [bx b4 #[nilS, nilS] 25], [bx b3 #[vright1, vright2] 25], [bx b2 #[vleft1, vleft2] 25], [bx b1 #[vbase1, vbase2] 25]] fr w := S
     replace S : St g6 [[], [], c5, [bx b8 #[v1, nilS] 25], c1, [bx b7 #[.i6 y2.Code, .i6 y2.Index] 28], [bx b6 #[.i6 y1.Code, .i6 y1.Index] 28], [bx b5 #[.i6 0, .i6 0] 28], [bx b4 #[nilS, nilS] 25], [bx b3 #[vright1, vright2] 25], [bx b2 #[vleft1, vleft2] 25], [bx b1 #[vbase1, vbase2] 25]] fr w := S
     replace S : St g6 [c5, [], [bx b8 #[v1, nilS] 25], [bx b5 #[.i6 0, .i6 0] 28], [bx b4 #[nilS, nilS] 25], [bx b3 #[vright1, vright2] 25], [bx b2 #[vleft1, vleft2] 25], [bx b1 #[vbase1, vbase2] 25], c1, []] fr w := St.tail [c5, [], [bx b8 #[v1, nilS] 25], [bx b5 #[.i6 0, .i6 0] 28], [bx b4 #[nilS, nilS] 25], [bx b3 #[vright1, vright2] 25], [bx b2 #[vleft1, vleft2] 25], [bx b1 #[vbase1, vbase2] 25], c1, []] _ ((((((((((S.frontC 0 rfl).frontC 5 rfl).frontC 13 rfl).frontC 13 rfl).frontC 13 rfl).frontC 13 rfl).frontC 13 rfl).frontC 10 rfl).frontC 9 rfl).frontC 11 rfl)
     exact ⟨(nilS), (nilS), [], [], g6, F.sub ⟨rfl, rfl, rfl, rfl, rfl, rfl, rfl, rfl, rfl, rfl, trivial⟩, (Le.refl _), S, (OwnS.nil _), (OwnS.nil _)⟩
    ·clear F S; rintro ⟨x3, x4, x5⟩ a w x6 ⟨v6, v7, c6, c7, g7, F, l7, S, h7, h8⟩ hx1 hfin1
     have hm : tablepatch_Merge.l1 base left right y4 x3 x4 x5 = some x6 := hx1; clear hx1
     unfold tablepatch_Merge.l1 at hm
     refine wp_seq ?_
     refine wp_region_lit ?_
     refine wE (ev_int rfl rfl (bo_lss _ _ _ _)) F S rfl fun a F=>?_
     refine wpList_nil ?_
     refine then_n ?_
     refine wp_seq ?_
     obtain ⟨hc4, hm⟩ | ⟨hc4, hm⟩ := ite_or hm
     ·refine wp_condT F rfl hc4 ?_
      refine wp_skip ?_
      refine then_n ?_
      refine wp_cut (fun a w => ∃ (x7 : List CellChange) (x8 : List Row) (v8 v9 : Value) (c8 c9 : Hl) (g8 : Gh), Fr 121 a [(46, .i6 x3), (45, .i6 (y4.length : Int)), (44, v5), (12, v8), (11, bp b8 0), (8, bp b5 0), (6, bp b4 0), (5, bp b3 0), (4, bp b2 0), (3, bp b1 0)] ∧ Le g7 g8 ∧ St g8 [c5, c8, [bx b8 #[v1, v9] 25], [bx b5 #[.i6 0, .i6 0] 28], [bx b4 #[nilS, nilS] 25], [bx b3 #[vright1, vright2] 25], [bx b2 #[vleft1, vleft2] 25], [bx b1 #[vbase1, vbase2] 25], c1, c9] fr w ∧ OwnS g8 x7 v8 c8 ∧ OwnS g8 x8 v9 c9 ∧ tablepatch_Merge.j2 x3 x7 x8 = some x6) ?_ ?_
      ·refine wp_block ?_
       refine wp_seq ?_
       refine wp_region_lit ?_
       obtain ⟨y5, hy5, hm⟩ := bind_some hm
       refine wE (ev_idxO (h6.mono l7) hy5 tu22 ts9 rfl rfl) F S rfl fun a F=>?_
       obtain ⟨cs1, hr2, hq1⟩ := elemO (h6.mono l7) hy5
       obtain rfl := rep_str hr2
       refine wE (ev_load1 tu9 rfl rfl (hq1 _ _ 0 rfl)) F S rfl fun a F=>?_
       refine wE (ev_assign rfl) F S rfl fun a F=>?_
       refine wpList_nil ?_
       refine then_n ?_
       refine wp_seq ?_
       refine wp_dv [] mo S ?_; clear S; intro ok3 w S
       refine dv_ev ok3 0 rfl (ev_loadA tu25 rfl (cs := [vbase1, vbase2]) ts25 rfl (box_ptr (cells := [vbase1, vbase2]) 7 rfl 0 rfl (lb rfl))) F S rfl fun a F=>?_
       refine dv_et ok3 1 rfl (ev_move rfl) F rfl fun a F=>?_
       refine dv_ev ok3 3 rfl (ev_loadA tu25 rfl (cs := [vleft1, vleft2]) ts25 rfl (box_ptr (cells := [vleft1, vleft2]) 6 rfl 0 rfl (lb rfl))) F S rfl fun a F=>?_
       refine dv_et ok3 4 rfl (ev_move rfl) F rfl fun a F=>?_
       refine dv_ev ok3 6 rfl (ev_loadA tu25 rfl (cs := [vright1, vright2]) ts25 rfl (box_ptr (cells := [vright1, vright2]) 5 rfl 0 rfl (lb rfl))) F S rfl fun a F=>?_
       refine dv_et ok3 7 rfl (ev_move rfl) F rfl fun a F=>?_
       refine dv_op ok3 2 rfl [(6, .agg #[vright1, vright2]), (3, .agg #[vleft1, vleft2])] ?_
       obtain ⟨y6, hy6, hm⟩ := bind_some hm
       refine wl_call0 (wn rfl) rfl F rfl (tablepatch_get_ok (fr := (fl [c5, c6, [bx b8 #[v1, v7] 25], [bx b5 #[.i6 0, .i6 0] 28], [bx b4 #[nilS, nilS] 25], [bx b3 #[vright1, vright2] 25], [bx b2 #[vleft1, vleft2] 25], [bx b1 #[vbase1, vbase2] 25], c1, c7] fr)) base vbase1 (hbase1.mono (((((l1.trans l2).trans l3).trans l5).trans l6).trans l7)) vbase2 (hbase2.mono (((((l1.trans l2).trans l3).trans l5).trans l6).trans l7)) y5 S hy6) rfl tc26 rfl rfl ?_; clear F a S
       rintro _ a w ⟨g9, v10, l9, S, h11, hn1, rfl⟩ F; replace S : St g9 [c5, c6, [bx b8 #[v1, v7] 25], [bx b5 #[.i6 0, .i6 0] 28], [bx b4 #[nilS, nilS] 25], [bx b3 #[vright1, vright2] 25], [bx b2 #[vleft1, vleft2] 25], [bx b1 #[vbase1, vbase2] 25], c1, c7] fr w := S
       refine dv_nx ⟨yl_ev rfl rfl (ev_loadA tu25 rfl (cs := [vright1, vright2]) ts25 rfl (box_ptr (cells := [vright1, vright2]) 5 rfl 0 rfl (lb rfl))) F S, yl_ev rfl rfl (ev_loadA tu25 rfl (cs := [vleft1, vleft2]) ts25 rfl (box_ptr (cells := [vleft1, vleft2]) 6 rfl 0 rfl (lb rfl))) F S, trivial⟩ ?_
       refine dv_op ok3 5 rfl [(6, .agg #[vright1, vright2])] ?_
       obtain ⟨y7, hy7, hm⟩ := bind_some hm
       refine wl_call0 (wn rfl) rfl F rfl (tablepatch_get_ok (fr := (fl [c5, c6, [bx b8 #[v1, v7] 25], [bx b5 #[.i6 0, .i6 0] 28], [bx b4 #[nilS, nilS] 25], [bx b3 #[vright1, vright2] 25], [bx b2 #[vleft1, vleft2] 25], [bx b1 #[vbase1, vbase2] 25], c1, c7] fr)) left vleft1 (hleft1.mono ((((((l1.trans l2).trans l3).trans l5).trans l6).trans l7).trans l9)) vleft2 (hleft2.mono ((((((l1.trans l2).trans l3).trans l5).trans l6).trans l7).trans l9)) y5 S hy7) rfl tc26 rfl rfl ?_; clear F a S
       rintro _ a w ⟨g10, v11, l10, S, h12, hn2, rfl⟩ F; replace S : St g10 [c5, c6, [bx b8 #[v1, v7] 25], [bx b5 #[.i6 0, .i6 0] 28], [bx b4 #[nilS, nilS] 25], [bx b3 #[vright1, vright2] 25], [bx b2 #[vleft1, vleft2] 25], [bx b1 #[vbase1, vbase2] 25], c1, c7] fr w := S
       refine dv_nx ⟨yl_ev rfl rfl (ev_loadA tu25 rfl (cs := [vright1, vright2]) ts25 rfl (box_ptr (cells := [vright1, vright2]) 5 rfl 0 rfl (lb rfl))) F S, trivial⟩ ?_
       refine dv_op ok3 8 rfl [] ?_
       obtain ⟨y8, hy8, hm⟩ := bind_some hm
       refine wl_call0 (wn rfl) rfl F rfl (tablepatch_get_ok (fr := (fl [c5, c6, [bx b8 #[v1, v7] 25], [bx b5 #[.i6 0, .i6 0] 28], [bx b4 #[nilS, nilS] 25], [bx b3 #[vright1, vright2] 25], [bx b2 #[vleft1, vleft2] 25], [bx b1 #[vbase1, vbase2] 25], c1, c7] fr)) right vright1 (hright1.mono (((((((l1.trans l2).trans l3).trans l5).trans l6).trans l7).trans l9).trans l10)) vright2 (hright2.mono (((((((l1.trans l2).trans l3).trans l5).trans l6).trans l7).trans l9).trans l10)) y5 S hy8) rfl tc26 rfl rfl ?_; clear F a S
       rintro _ a w ⟨g11, v12, l11, S, h13, hn3, rfl⟩ F; replace S : St g11 [c5, c6, [bx b8 #[v1, v7] 25], [bx b5 #[.i6 0, .i6 0] 28], [bx b4 #[nilS, nilS] 25], [bx b3 #[vright1, vright2] 25], [bx b2 #[vleft1, vleft2] 25], [bx b1 #[vbase1, vbase2] 25], c1, c7] fr w := S
       refine dv_nx trivial ?_
       refine dv_et ok3 9 rfl (ev_assign rfl) F rfl fun a F=>?_
       refine dv_et ok3 10 rfl (ev_assign rfl) F rfl fun a F=>?_
       refine dv_et ok3 11 rfl (ev_assign rfl) F rfl fun a F=>?_
       refine dv_fin ok3 ?_
       refine then_n ?_
       refine wp_seq ?_
       refine wp_region_lit ?_
       refine wE (ev_move rfl) F S rfl fun a F=>?_
       obtain ⟨y9, hy9, hm⟩ := bind_some hm
       refine wl_call0 (wn rfl) rfl F rfl (slices_Clone_x_okx (fr := (fl [c5, c6, [bx b8 #[v1, v7] 25], [bx b5 #[.i6 0, .i6 0] 28], [bx b4 #[nilS, nilS] 25], [bx b3 #[vright1, vright2] 25], [bx b2 #[vleft1, vleft2] 25], [bx b1 #[vbase1, vbase2] 25], c1, c7] fr)) y7 v11 (h12.mono l11) hn2 S hy9) rfl tc24 rfl rfl ?_; clear F a S
       rintro _ a w ⟨g12, v13, c10, l12, S, h14, hn4, rfl⟩ F; replace S : St g12 [c10, c5, c6, [bx b8 #[v1, v7] 25], [bx b5 #[.i6 0, .i6 0] 28], [bx b4 #[nilS, nilS] 25], [bx b3 #[vright1, vright2] 25], [bx b2 #[vleft1, vleft2] 25], [bx b1 #[vbase1, vbase2] 25], c1, c7] fr w := S
       refine wE (ev_assign rfl) F S rfl fun a F=>?_
       refine wpList_nil ?_
       refine then_n ?_
       refine wp_cut (fun a w => ∃ (x9 : List ByteArray) (x10 : List CellChange) (v14 v15 : Value) (c11 c12 : Hl) (g13 : Gh), Fr 121 a [(18, v14), (14, .string y5), (46, .i6 x3), (45, .i6 (y4.length : Int)), (44, v5), (12, v15), (11, bp b8 0), (8, bp b5 0), (6, bp b4 0), (5, bp b3 0), (4, bp b2 0), (3, bp b1 0)] ∧ Le g12 g13 ∧ St g13 [c11, c5, c12, [bx b8 #[v1, v7] 25], [bx b5 #[.i6 0, .i6 0] 28], [bx b4 #[nilS, nilS] 25], [bx b3 #[vright1, vright2] 25], [bx b2 #[vleft1, vleft2] 25], [bx b1 #[vbase1, vbase2] 25], c1, c7] fr w ∧ OwnS g13 x9 v14 c11 ∧ NilE x9 v14 ∧ OwnS g13 x10 v15 c12 ∧ tablepatch_Merge.j3 x3 x5 y5 x9 x10 = some x6) ?_ ?_
       ·refine wp_block ?_
        refine wp_seq ?_
        refine wp_region_lit ?_
        refine wE (ev_move rfl) F S rfl fun a F=>?_
        refine wE (ev_move rfl) F S rfl fun a F=>?_
        obtain ⟨y11, hy11, hm⟩ := bind_some hm
        refine wl_call0 (wn rfl) rfl F rfl (slices_Equal_ok (fr := (fl [c10, c5, c6, [bx b8 #[v1, v7] 25], [bx b5 #[.i6 0, .i6 0] 28], [bx b4 #[nilS, nilS] 25], [bx b3 #[vright1, vright2] 25], [bx b2 #[vleft1, vleft2] 25], [bx b1 #[vbase1, vbase2] 25], c1, c7] fr)) y8 v12 (h13.mono l12) y6 v10 (h11.mono ((l10.trans l11).trans l12)) S hy11) rfl tc27 rfl rfl ?_; clear F a S
        rintro _ a w ⟨g15, l15, S, rfl⟩ F; replace S : St g15 [c10, c5, c6, [bx b8 #[v1, v7] 25], [bx b5 #[.i6 0, .i6 0] 28], [bx b4 #[nilS, nilS] 25], [bx b3 #[vright1, vright2] 25], [bx b2 #[vleft1, vleft2] 25], [bx b1 #[vbase1, vbase2] 25], c1, c7] fr w := S
        refine wE (ev_move rfl) F S rfl fun a F=>?_
        obtain ⟨x11, hx2, hm⟩ := bind_some hm
        refine wl_cut 4 (fun a w => ∃ g16, Fr 121 a [(80, .bool x11), (18, v13), (17, v12), (16, v11), (15, v10), (14, .string y5), (46, .i6 x3), (45, .i6 (y4.length : Int)), (44, v5), (12, v6), (11, bp b8 0), (8, bp b5 0), (6, bp b4 0), (5, bp b3 0), (4, bp b2 0), (3, bp b1 0)] ∧ Le g15 g16 ∧ St g16 [c10, c5, c6, [bx b8 #[v1, v7] 25], [bx b5 #[.i6 0, .i6 0] 28], [bx b4 #[nilS, nilS] 25], [bx b3 #[vright1, vright2] 25], [bx b2 #[vleft1, vleft2] 25], [bx b1 #[vbase1, vbase2] 25], c1, c7] fr w) ?_ ?_
        ·clear hm; obtain ⟨hc6, hm⟩ | ⟨hc6, hm⟩ := ite_or hx2
         ·refine wl_skip rfl rfl rfl rfl (ne_ft hc6) F rfl rfl ?_; clear F a; intro a F
          refine wl_skip rfl rfl rfl rfl (ne_ft hc6) F rfl rfl ?_; clear F a; intro a F
          refine wl_skip rfl rfl rfl rfl (ne_ft hc6) F rfl rfl ?_; clear F a; intro a F
          refine wE (ev_pickT rfl hc6 rfl) F S rfl fun a F=>?_
          obtain rfl := sinj hm
          refine wpList_nil (then_n ?_); exact ⟨g15, F.sub ⟨rfl, rfl, rfl, rfl, rfl, rfl, rfl, rfl, rfl, rfl, rfl, rfl, rfl, rfl, rfl, rfl, trivial⟩, (Le.refl _), S⟩
         ·refine wl_ev (wg F rfl rfl rfl rfl hc6) (ev_move rfl) F S rfl rfl ?_; clear F a; intro a F
          refine wl_ev (wg F rfl rfl rfl rfl hc6) (ev_move rfl) F S rfl rfl ?_; clear F a; intro a F
          obtain ⟨y12, hy12, hm⟩ := bind_some hm
          refine wl_call0 (wg F rfl rfl rfl rfl hc6) rfl F rfl (slices_Equal_ok (fr := (fl [c10, c5, c6, [bx b8 #[v1, v7] 25], [bx b5 #[.i6 0, .i6 0] 28], [bx b4 #[nilS, nilS] 25], [bx b3 #[vright1, vright2] 25], [bx b2 #[vleft1, vleft2] 25], [bx b1 #[vbase1, vbase2] 25], c1, c7] fr)) y8 v12 (h13.mono (l12.trans l15)) y7 v11 (h12.mono ((l11.trans l12).trans l15)) S hy12) rfl tc27 rfl rfl ?_; clear F a S
          rintro _ a w ⟨g17, l17, S, rfl⟩ F; replace S : St g17 [c10, c5, c6, [bx b8 #[v1, v7] 25], [bx b5 #[.i6 0, .i6 0] 28], [bx b4 #[nilS, nilS] 25], [bx b3 #[vright1, vright2] 25], [bx b2 #[vleft1, vleft2] 25], [bx b1 #[vbase1, vbase2] 25], c1, c7] fr w := S
          refine wE (ev_pickF rfl hc6 rfl) F S rfl fun a F=>?_
          obtain rfl := sinj hm
          refine wpList_nil (then_n ?_); exact ⟨g17, F.sub ⟨rfl, rfl, rfl, rfl, rfl, rfl, rfl, rfl, rfl, rfl, rfl, rfl, rfl, rfl, rfl, rfl, trivial⟩, l17, S⟩
        clear F S; rintro a w ⟨g16, F, l16, S⟩
        refine wE (ev_assign rfl) F S rfl fun a F=>?_
        refine wpList_nil ?_
        refine then_n ?_
        obtain ⟨hc7, hm⟩ | ⟨hc7, hm⟩ := ite_or hm
        ·refine wp_condT F rfl hc7 ?_
         refine wp_skip ?_
         refine inb_n ?_
         refine then_n ?_
         exact ⟨y9, x4, v13, v6, c10, c6, g16, F.sub ⟨rfl, rfl, rfl, rfl, rfl, rfl, rfl, rfl, rfl, rfl, rfl, rfl, trivial⟩, (l15.trans l16), S, (h14.mono (l15.trans l16)), hn4, (h7.mono (((((l9.trans l10).trans l11).trans l12).trans l15).trans l16)), hm⟩
        ·refine wp_condF F rfl hc7 ?_
         refine wp_seq ?_
         refine wp_region_lit ?_
         refine wE (ev_move rfl) F S rfl fun a F=>?_
         refine wE (ev_move rfl) F S rfl fun a F=>?_
         obtain ⟨y13, hy13, hm⟩ := bind_some hm
         refine wl_call0 (wn rfl) rfl F rfl (slices_Equal_ok (fr := (fl [c10, c5, c6, [bx b8 #[v1, v7] 25], [bx b5 #[.i6 0, .i6 0] 28], [bx b4 #[nilS, nilS] 25], [bx b3 #[vright1, vright2] 25], [bx b2 #[vleft1, vleft2] 25], [bx b1 #[vbase1, vbase2] 25], c1, c7] fr)) y7 v11 (h12.mono (((l11.trans l12).trans l15).trans l16)) y6 v10 (h11.mono ((((l10.trans l11).trans l12).trans l15).trans l16)) S hy13) rfl tc27 rfl rfl ?_; clear F a S
         rintro _ a w ⟨g18, l18, S, rfl⟩ F; replace S : St g18 [c10, c5, c6, [bx b8 #[v1, v7] 25], [bx b5 #[.i6 0, .i6 0] 28], [bx b4 #[nilS, nilS] 25], [bx b3 #[vright1, vright2] 25], [bx b2 #[vleft1, vleft2] 25], [bx b1 #[vbase1, vbase2] 25], c1, c7] fr w := S
         refine wE (ev_assign rfl) F S rfl fun a F=>?_
         refine wpList_nil ?_
         refine then_n ?_
         obtain ⟨hc8, hm⟩ | ⟨hc8, hm⟩ := ite_or hm
         ·refine wp_condT F rfl hc8 ?_
          refine wp_region_lit ?_
          refine wE (ev_move rfl) F S rfl fun a F=>?_
          obtain ⟨y14, hy14, hm⟩ := bind_some hm
          refine wl_call0 (wn rfl) rfl F rfl (slices_Clone_x_okx (fr := (fl [c10, c5, c6, [bx b8 #[v1, v7] 25], [bx b5 #[.i6 0, .i6 0] 28], [bx b4 #[nilS, nilS] 25], [bx b3 #[vright1, vright2] 25], [bx b2 #[vleft1, vleft2] 25], [bx b1 #[vbase1, vbase2] 25], c1, c7] fr)) y8 v12 (h13.mono (((l12.trans l15).trans l16).trans l18)) hn3 S hy14) rfl tc24 rfl rfl ?_; clear F a S
          rintro _ a w ⟨g19, v18, c15, l19, S, h20, hn6, rfl⟩ F; replace S : St g19 [c15, c10, c5, c6, [bx b8 #[v1, v7] 25], [bx b5 #[.i6 0, .i6 0] 28], [bx b4 #[nilS, nilS] 25], [bx b3 #[vright1, vright2] 25], [bx b2 #[vleft1, vleft2] 25], [bx b1 #[vbase1, vbase2] 25], c1, c7] fr w := S
          refine wE (ev_assign rfl) F S rfl fun a F=>?_
          refine wpList_nil ?_
          refine inb_n ?_
          refine then_n ?_
          replace S : St g19 [c15, c5, c6, [bx b8 #[v1, v7] 25], [bx b5 #[.i6 0, .i6 0] 28], [bx b4 #[nilS, nilS] 25], [bx b3 #[vright1, vright2] 25], [bx b2 #[vleft1, vleft2] 25], [bx b1 #[vbase1, vbase2] 25], c1, c7] fr w := St.tail [c15, c5, c6, [bx b8 #[v1, v7] 25], [bx b5 #[.i6 0, .i6 0] 28], [bx b4 #[nilS, nilS] 25], [bx b3 #[vright1, vright2] 25], [bx b2 #[vleft1, vleft2] 25], [bx b1 #[vbase1, vbase2] 25], c1, c7] _ (((((((((((S.frontC 11 rfl).frontC 11 rfl).frontC 11 rfl).frontC 11 rfl).frontC 11 rfl).frontC 11 rfl).frontC 11 rfl).frontC 11 rfl).frontC 11 rfl).frontC 11 rfl).frontC 10 rfl)
          exact ⟨y14, x4, v18, v6, c15, c6, g19, F.sub ⟨rfl, rfl, rfl, rfl, rfl, rfl, rfl, rfl, rfl, rfl, rfl, rfl, trivial⟩, (((l15.trans l16).trans l18).trans l19), S, h20, hn6, (h7.mono (((((((l9.trans l10).trans l11).trans l12).trans l15).trans l16).trans l18).trans l19)), hm⟩
         ·refine wp_condF F rfl hc8 ?_
          refine wp_seq ?_
          refine wp_region_lit ?_
          refine wE (ev_move rfl) F S rfl fun a F=>?_
          refine wE (ev_nileqlSx (h12.mono ((((l11.trans l12).trans l15).trans l16).trans l18)) hn2 tu22 rfl rfl) F S rfl fun a F=>?_
          refine wE (ev_move rfl) F S rfl fun a F=>?_
          obtain ⟨x12, hx3, hm⟩ := bind_some hm
          refine wl_cut 3 (fun a w' => w = w' ∧ Fr 121 a [(93, .bool x12), (18, v13), (17, v12), (16, v11), (15, v10), (14, .string y5), (46, .i6 x3), (45, .i6 (y4.length : Int)), (44, v5), (12, v6), (11, bp b8 0), (8, bp b5 0), (6, bp b4 0), (5, bp b3 0), (4, bp b2 0), (3, bp b1 0)]) ?_ ?_
          ·clear hm; obtain ⟨hc9, hm⟩ | ⟨hc9, hm⟩ := ite_or hx3
           ·refine wl_skip rfl rfl rfl rfl (ne_ft hc9) F rfl rfl ?_; clear F a; intro a F
            refine wl_skip rfl rfl rfl rfl (ne_ft hc9) F rfl rfl ?_; clear F a; intro a F
            refine wE (ev_pickT rfl hc9 rfl) F S rfl fun a F=>?_
            obtain rfl := sinj hm
            refine wpList_nil (then_n ?_); exact ⟨rfl, F.sub ⟨rfl, rfl, rfl, rfl, rfl, rfl, rfl, rfl, rfl, rfl, rfl, rfl, rfl, rfl, rfl, rfl, trivial⟩⟩
           ·refine wl_ev (wg F rfl rfl rfl rfl hc9) (ev_move rfl) F S rfl rfl ?_; clear F a; intro a F
            refine wl_ev (wg F rfl rfl rfl rfl hc9) (ev_nileqlSx (h13.mono (((l12.trans l15).trans l16).trans l18)) hn3 tu22 rfl rfl) F S rfl rfl ?_; clear F a; intro a F
            refine wE (ev_pickF rfl hc9 rfl) F S rfl fun a F=>?_
            obtain rfl := sinj hm
            refine wpList_nil (then_n ?_); exact ⟨rfl, F.sub ⟨rfl, rfl, rfl, rfl, rfl, rfl, rfl, rfl, rfl, rfl, rfl, rfl, rfl, rfl, rfl, rfl, trivial⟩⟩
          clear F; rintro a w' ⟨rfl, F⟩
          refine wE (ev_assign rfl) F S rfl fun a F=>?_
          refine wpList_nil ?_
          refine then_n ?_
          obtain ⟨hc10, hm⟩ | ⟨hc10, hm⟩ := ite_or hm
          ·refine wp_condT F rfl hc10 ?_
           refine wp_region_lit ?_
           refine wE (ev_move rfl) F S rfl fun a F=>?_
           refine wE (ev_move rfl) F S rfl fun a F=>?_
           refine wE (ev_move rfl) F S rfl fun a F=>?_
           refine wE (ev_move rfl) F S rfl fun a F=>?_
           obtain ⟨y15, hy15, hm⟩ := bind_some hm
           refine wl_call0 (wn rfl) rfl F rfl (tablepatch_change_ok (fr := (fl [c10, c5, c6, [bx b8 #[v1, v7] 25], [bx b5 #[.i6 0, .i6 0] 28], [bx b4 #[nilS, nilS] 25], [bx b3 #[vright1, vright2] 25], [bx b2 #[vleft1, vleft2] 25], [bx b1 #[vbase1, vbase2] 25], c1, c7] fr)) y5 (-1) y7 v11 (h12.mono ((((l11.trans l12).trans l15).trans l16).trans l18)) y8 v12 (h13.mono (((l12.trans l15).trans l16).trans l18)) S hy15) rfl tc28 rfl rfl ?_; clear F a S
           rintro _ a w ⟨g20, v19, v20, c16, c17, l20, S, h21, h22, rfl⟩ F; replace S : St g20 [c16, c17, c10, c5, c6, [bx b8 #[v1, v7] 25], [bx b5 #[.i6 0, .i6 0] 28], [bx b4 #[nilS, nilS] 25], [bx b3 #[vright1, vright2] 25], [bx b2 #[vleft1, vleft2] 25], [bx b1 #[vbase1, vbase2] 25], c1, c7] fr w := S
           obtain ⟨g21, l21, S, h23⟩ : ∃ gz, Le g20 gz ∧ St gz [c17, c10, c5, c6, [bx b8 #[v1, v7] 25], [bx b5 #[.i6 0, .i6 0] 28], [bx b4 #[nilS, nilS] 25], [bx b3 #[vright1, vright2] 25], [bx b2 #[vleft1, vleft2] 25], [bx b1 #[vbase1, vbase2] 25], c1, c7] fr w ∧ RepSl gz y15.Old v19 := ⟨_, Le.add _ _, S.freeze 0 rfl, OwnS.freeze (S.front 0 rfl) h21⟩
           obtain ⟨g22, l22, S, h24⟩ : ∃ gz, Le g21 gz ∧ St gz [c10, c5, c6, [bx b8 #[v1, v7] 25], [bx b5 #[.i6 0, .i6 0] 28], [bx b4 #[nilS, nilS] 25], [bx b3 #[vright1, vright2] 25], [bx b2 #[vleft1, vleft2] 25], [bx b1 #[vbase1, vbase2] 25], c1, c7] fr w ∧ RepSl gz y15.New v20 := ⟨_, Le.add _ _, S.freeze 0 rfl, OwnS.freeze (S.front 0 rfl) (h22.mono l21)⟩
           refine wl_lit (l := ([y15] : List CellChange)) (vs := [.agg #[.string y15.Key, .i6 y15.Column, v19, v20]]) (parts := [(0, .tmp 98)]) (wn rfl) rfl rfl rfl tu26 te36 (sz_cons rfl sz_nil) rfl (Cat.cons (rep_CellChange_mk (x := y15) (h23.mono l22) h24) (Cat.nil _)) (coa_cons rfl coa_nil) rfl F S rfl rfl ?_; clear F a S
           rintro v21 c18 a w h25 F S
           obtain ⟨cs3, hk2, hr4⟩ := OwnS.reads h25
           obtain ⟨y16, hy16, hm⟩ := bind_some hm
           refine wl_append (wn rfl) rfl tu26 tu26 te36 (by decide) (by decide) F S rfl rfl (k := 3) rfl (h7.mono (((((((((l9.trans l10).trans l11).trans l12).trans l15).trans l16).trans l18).trans l20).trans l21).trans l22)) hk2 rfl (hr4 _ _ _ 0 rfl S) hy16 rfl rfl ?_; clear F a S
           rintro v22 c19 a w h26 S F; replace S : St g22 [c18, c10, c5, c19, [bx b8 #[v1, v7] 25], [bx b5 #[.i6 0, .i6 0] 28], [bx b4 #[nilS, nilS] 25], [bx b3 #[vright1, vright2] 25], [bx b2 #[vleft1, vleft2] 25], [bx b1 #[vbase1, vbase2] 25], c1, c7] fr w := S
           refine wE (ev_assign rfl) F S rfl fun a F=>?_
           refine wpList_nil ?_
           refine inb_n ?_
           refine then_n ?_
           replace S : St g22 [c10, c5, c19, [bx b8 #[v1, v7] 25], [bx b5 #[.i6 0, .i6 0] 28], [bx b4 #[nilS, nilS] 25], [bx b3 #[vright1, vright2] 25], [bx b2 #[vleft1, vleft2] 25], [bx b1 #[vbase1, vbase2] 25], c1, c7] fr w := St.tail [c10, c5, c19, [bx b8 #[v1, v7] 25], [bx b5 #[.i6 0, .i6 0] 28], [bx b4 #[nilS, nilS] 25], [bx b3 #[vright1, vright2] 25], [bx b2 #[vleft1, vleft2] 25], [bx b1 #[vbase1, vbase2] 25], c1, c7] _ (((((((((((S.frontC 11 rfl).frontC 11 rfl).frontC 11 rfl).frontC 11 rfl).frontC 11 rfl).frontC 11 rfl).frontC 11 rfl).frontC 11 rfl).frontC 11 rfl).frontC 11 rfl).frontC 11 rfl)
           exact ⟨y9, y16, v13, v22, c10, c19, g22, F.sub ⟨rfl, rfl, rfl, rfl, rfl, rfl, rfl, rfl, rfl, rfl, rfl, rfl, trivial⟩, (((((l15.trans l16).trans l18).trans l20).trans l21).trans l22), S, (h14.mono (((((l15.trans l16).trans l18).trans l20).trans l21).trans l22)), hn4, h26, hm⟩
          ·refine wp_condF F rfl hc10 ?_
           refine wp_seq ?_
           refine wp_region_lit ?_
           refine wE (ev_assign rfl) F S rfl fun a F=>?_
           refine wpList_nil ?_
           refine then_n ?_
           refine wp_seq ?_
           refine wp_region_lit ?_
           refine wE (ev_move rfl) F S rfl fun a F=>?_
           refine wE (ev_move rfl) F S rfl fun a F=>?_
           refine wE (ev_move rfl) F S rfl fun a F=>?_
           refine wE (ev_move rfl) F S rfl fun a F=>?_
           obtain ⟨y17, hy17, hm⟩ := bind_some hm
           refine wl_call0 (wn rfl) rfl F rfl (tablepatch_cells_ok (fr := (fl [c10, c5, c6, [bx b8 #[v1, v7] 25], [bx b5 #[.i6 0, .i6 0] 28], [bx b4 #[nilS, nilS] 25], [bx b3 #[vright1, vright2] 25], [bx b2 #[vleft1, vleft2] 25], [bx b1 #[vbase1, vbase2] 25], c1, c7] fr)) y5 y6 v10 (h11.mono (((((l10.trans l11).trans l12).trans l15).trans l16).trans l18)) hn1 y7 v11 (h12.mono ((((l11.trans l12).trans l15).trans l16).trans l18)) y8 v12 (h13.mono (((l12.trans l15).trans l16).trans l18)) S hy17) rfl tc29 rfl rfl ?_; clear F a S
           rintro _ a w ⟨g23, v23, v24, c20, c21, l23, S, h27, hn7, h28, rfl⟩ F; replace S : St g23 [c20, c21, c10, c5, c6, [bx b8 #[v1, v7] 25], [bx b5 #[.i6 0, .i6 0] 28], [bx b4 #[nilS, nilS] 25], [bx b3 #[vright1, vright2] 25], [bx b2 #[vleft1, vleft2] 25], [bx b1 #[vbase1, vbase2] 25], c1, c7] fr w := S
           refine wE (ev_move rfl) F S rfl fun a F=>?_
           refine wE (ev_extract rfl rfl) F S rfl fun a F=>?_
           refine wE (ev_extract rfl rfl) F S rfl fun a F=>?_
           refine wE (ev_assign rfl) F S rfl fun a F=>?_
           refine wE (ev_assign rfl) F S rfl fun a F=>?_
           refine wpList_nil ?_
           refine then_n ?_
           refine wp_region_lit ?_
           refine wE (ev_move rfl) F S rfl fun a F=>?_
           refine wE (ev_move rfl) F S rfl fun a F=>?_
           obtain ⟨cs4, hk3, hr5⟩ := OwnS.reads h28
           obtain ⟨y18, hy18, hm⟩ := bind_some hm
           refine wl_append (wn rfl) rfl tu26 tu26 te36 (by decide) (by decide) F S rfl rfl (k := 4) rfl (h7.mono (((((((l9.trans l10).trans l11).trans l12).trans l15).trans l16).trans l18).trans l23)) hk3 rfl (hr5 _ _ _ 1 rfl S) hy18 rfl rfl ?_; clear F a S
           rintro v25 c22 a w h29 S F; replace S : St g23 [c20, c21, c10, c5, c22, [bx b8 #[v1, v7] 25], [bx b5 #[.i6 0, .i6 0] 28], [bx b4 #[nilS, nilS] 25], [bx b3 #[vright1, vright2] 25], [bx b2 #[vleft1, vleft2] 25], [bx b1 #[vbase1, vbase2] 25], c1, c7] fr w := S
           refine wE (ev_assign rfl) F S rfl fun a F=>?_
           refine wpList_nil ?_
           refine inb_n ?_
           refine then_n ?_
           replace S : St g23 [c20, c5, c22, [bx b8 #[v1, v7] 25], [bx b5 #[.i6 0, .i6 0] 28], [bx b4 #[nilS, nilS] 25], [bx b3 #[vright1, vright2] 25], [bx b2 #[vleft1, vleft2] 25], [bx b1 #[vbase1, vbase2] 25], c1, c7] fr w := St.tail [c20, c5, c22, [bx b8 #[v1, v7] 25], [bx b5 #[.i6 0, .i6 0] 28], [bx b4 #[nilS, nilS] 25], [bx b3 #[vright1, vright2] 25], [bx b2 #[vleft1, vleft2] 25], [bx b1 #[vbase1, vbase2] 25], c1, c7] _ (((((((((((S.frontC 12 rfl).frontC 12 rfl).frontC 12 rfl).frontC 12 rfl).frontC 12 rfl).frontC 12 rfl).frontC 12 rfl).frontC 12 rfl).frontC 12 rfl).frontC 12 rfl).frontC 10 rfl)
           exact ⟨y17.1, y18, v23, v25, c20, c22, g23, F.sub ⟨rfl, rfl, rfl, rfl, rfl, rfl, rfl, rfl, rfl, rfl, rfl, rfl, trivial⟩, (((l15.trans l16).trans l18).trans l23), S, h27, hn7, h29, hm⟩
       ·clear F S hm; rintro a w ⟨x9, x10, v14, v15, c11, c12, g13, F, l13, S, h15, hn5, h16, hm⟩
        refine wp_seq ?_
        refine wp_region_lit ?_
        refine wE (ev_move rfl) F S rfl fun a F=>?_
        refine wE (ev_nilneqOx h15 hn5 tu22 rfl rfl) F S rfl fun a F=>?_
        refine wpList_nil ?_
        refine then_n ?_
        obtain ⟨hc5, hm⟩ | ⟨hc5, hm⟩ := ite_or hm
        ·refine wp_condT F rfl hc5 ?_
         refine wp_region_lit ?_
         refine wE (ev_fieldAddr' tu25 tf25_1 (z := 0) ts23 rfl ⟨_, rfl⟩ rfl) F S rfl fun a F=>?_
         refine wE (ev_load1 tu23 rfl rfl (box_ptr (cells := [v7]) 3 rfl 1 rfl (lb rfl))) F S rfl fun a F=>?_
         refine wE (ev_move rfl) F S rfl fun a F=>?_
         refine wE (ev_move rfl) F S rfl fun a F=>?_
         refine wE (ev_build (parts := [(0, .tmp 105), (1, .tmp 106)]) (vs := [(0, .string y5), (1, v14)]) rfl (fun w => tb54_0_1 y5 v14 (OwnS.isSl h15) w)) F S rfl fun a F=>?_
         obtain ⟨g14, l14, S, h17⟩ : ∃ gz, Le g13 gz ∧ St gz [c5, c12, [bx b8 #[v1, v7] 25], [bx b5 #[.i6 0, .i6 0] 28], [bx b4 #[nilS, nilS] 25], [bx b3 #[vright1, vright2] 25], [bx b2 #[vleft1, vleft2] 25], [bx b1 #[vbase1, vbase2] 25], c1, c7] fr w ∧ RepSl gz x9 v14 := ⟨_, Le.add _ _, S.freeze 0 rfl, OwnS.freeze (S.front 0 rfl) h15⟩
         refine wl_lit (l := ([({ Key := y5, Cells := x9 } : Row)] : List Row)) (vs := [.agg #[.string y5, v14]]) (parts := [(0, .tmp 107)]) (wn rfl) rfl rfl rfl tu23 te54 (sz_cons rfl sz_nil) rfl (Cat.cons (rep_Row_mk (x := ({ Key := y5, Cells := x9 } : Row)) h17) (Cat.nil _)) (coa_cons rfl coa_nil) rfl F S rfl rfl ?_; clear F a S
         rintro v16 c13 a w h18 F S
         obtain ⟨cs2, hk1, hr3⟩ := OwnS.reads h18
         obtain ⟨y10, hy10, hm⟩ := bind_some hm
         refine wl_append (wn rfl) rfl tu23 tu23 te54 (by decide) (by decide) F S rfl rfl (k := 10) rfl (h8.mono (((((l9.trans l10).trans l11).trans l12).trans l13).trans l14)) hk1 rfl (hr3 _ _ _ 0 rfl S) hy10 rfl rfl ?_; clear F a S
         rintro v17 c14 a w h19 S F; replace S : St g14 [c13, c5, c12, [bx b8 #[v1, v7] 25], [bx b5 #[.i6 0, .i6 0] 28], [bx b4 #[nilS, nilS] 25], [bx b3 #[vright1, vright2] 25], [bx b2 #[vleft1, vleft2] 25], [bx b1 #[vbase1, vbase2] 25], c1, c14] fr w := S
         refine wE (ev_fieldAddr' tu25 tf25_1 (z := 0) ts23 rfl ⟨_, rfl⟩ rfl) F S rfl fun a F=>?_
         refine wl_storeC (wn rfl) rfl F S rfl rfl (vs := [v17]) (OwnS.cl h19) ts23 (one_cons (OwnS.one h19) one_nil) (k := 3) rfl (lb rfl) (c' := #[v1, v17]) rfl rfl ?_; clear S; intro w S
         refine wpList_nil ?_
         refine inb_n ?_
         refine then_n ?_
         replace S : St g14 [c5, c12, [bx b8 #[v1, v17] 25], [bx b5 #[.i6 0, .i6 0] 28], [bx b4 #[nilS, nilS] 25], [bx b3 #[vright1, vright2] 25], [bx b2 #[vleft1, vleft2] 25], [bx b1 #[vbase1, vbase2] 25], c1, c14] fr w := St.tail [c5, c12, [bx b8 #[v1, v17] 25], [bx b5 #[.i6 0, .i6 0] 28], [bx b4 #[nilS, nilS] 25], [bx b3 #[vright1, vright2] 25], [bx b2 #[vleft1, vleft2] 25], [bx b1 #[vbase1, vbase2] 25], c1, c14] _ ((((((((((S.frontC 10 rfl).frontC 10 rfl).frontC 10 rfl).frontC 10 rfl).frontC 10 rfl).frontC 10 rfl).frontC 10 rfl).frontC 10 rfl).frontC 10 rfl).frontC 10 rfl)
         exact ⟨x10, y10, v15, v17, c12, c14, g14, F.sub ⟨rfl, rfl, rfl, rfl, rfl, rfl, rfl, rfl, rfl, rfl, trivial⟩, (((((l9.trans l10).trans l11).trans l12).trans l13).trans l14), S, (h16.mono l14), h19, hm⟩
        ·refine wp_condF F rfl hc5 ?_
         refine wp_skip ?_
         refine inb_n ?_
         refine then_n ?_
         replace S : St g13 [c5, c12, [bx b8 #[v1, v7] 25], [bx b5 #[.i6 0, .i6 0] 28], [bx b4 #[nilS, nilS] 25], [bx b3 #[vright1, vright2] 25], [bx b2 #[vleft1, vleft2] 25], [bx b1 #[vbase1, vbase2] 25], c1, c7] fr w := St.tail [c5, c12, [bx b8 #[v1, v7] 25], [bx b5 #[.i6 0, .i6 0] 28], [bx b4 #[nilS, nilS] 25], [bx b3 #[vright1, vright2] 25], [bx b2 #[vleft1, vleft2] 25], [bx b1 #[vbase1, vbase2] 25], c1, c7] _ ((((((((((S.frontC 10 rfl).frontC 10 rfl).frontC 10 rfl).frontC 10 rfl).frontC 10 rfl).frontC 10 rfl).frontC 10 rfl).frontC 10 rfl).frontC 10 rfl).frontC 10 rfl)
         exact ⟨x10, x5, v15, v7, c12, c7, g13, F.sub ⟨rfl, rfl, rfl, rfl, rfl, rfl, rfl, rfl, rfl, rfl, trivial⟩, ((((l9.trans l10).trans l11).trans l12).trans l13), S, h16, (h8.mono ((((l9.trans l10).trans l11).trans l12).trans l13)), hm⟩
      ·clear F S hm; rintro a w ⟨x7, x8, v8, v9, c8, c9, g8, F, l8, S, h9, h10, hm⟩
       refine wp_region_lit ?_
       obtain ⟨z1, hz1, hm⟩ := bind_some hm
       refine wE (ev_int rfl rfl (bo_add hz1)) F S rfl fun a F=>?_
       refine wE (ev_move rfl) F S rfl fun a F=>?_
       refine wpList_nil ?_
       refine then_n ?_
       obtain rfl := sinj hm
       refine ⟨_, rfl, ?_⟩
       dsimp only
       exact ⟨v8, v9, c8, c9, g8, F.sub ⟨rfl, rfl, rfl, rfl, rfl, rfl, rfl, rfl, rfl, rfl, trivial⟩, (l7.trans l8), S, h9, h10⟩
     ·refine wp_condF F rfl hc4 ?_
      refine wp_exit ?_
      refine then_e ?_
      refine then_e ?_
      refine inb_x ?_
      refine then_n ?_
      obtain rfl := sinj hm
      obtain rfl := hfin1 _ rfl
      clear hm
      have hm : (tablepatch_Merge.j1 y3 x4 x5 : Option (Table × (List CellChange) × Fault)) = some _ := hmo1
      replace S : St g7 [c6, [bx b8 #[v1, v7] 25], [bx b5 #[.i6 0, .i6 0] 28], [bx b4 #[nilS, nilS] 25], c1, c7] fr w := St.tail [c6, [bx b8 #[v1, v7] 25], [bx b5 #[.i6 0, .i6 0] 28], [bx b4 #[nilS, nilS] 25], c1, c7] _ ((((((S.frontC 9 rfl).frontC 9 rfl).frontC 6 rfl).frontC 6 rfl).frontC 6 rfl).frontC 6 rfl)
      exact ⟨x4, x5, v6, v7, c6, c7, g7, F.sub ⟨rfl, rfl, rfl, rfl, trivial⟩, ((l5.trans l6).trans l7), S, h7, h8, hm⟩
   ·clear F S hm; rintro a w ⟨x1, x2, v2, v3, c2, c3, g4, F, l4, S, h2, h3, hm⟩
    refine wp_seq ?_
    refine wp_seq ?_
    refine wp_region_lit ?_
    refine wE (ev_fieldAddr' tu25 tf25_1 (z := 0) ts23 rfl ⟨_, rfl⟩ rfl) F S rfl fun a F=>?_
    refine wE (ev_load1 tu23 rfl rfl (box_ptr (cells := [v3]) 1 rfl 1 rfl (lb rfl))) F S rfl fun a F=>?_
    refine wE (ev_lenOw h3 rfl tu23) F S rfl fun a F=>?_
    refine wE (ev_int rfl rfl (bo_gtr _ _ _ _)) F S rfl fun a F=>?_
    refine wpList_nil ?_
    refine then_n ?_
    obtain ⟨hc3, hm⟩ | ⟨hc3, hm⟩ := ite_or hm
    ·refine wp_condT F rfl hc3 ?_
     refine wp_seq ?_
     refine wp_region_lit ?_
     refine wE (ev_build (parts := []) (vs := []) rfl (fun w => tb25_  w)) F S rfl fun a F=>?_
     refine wE (ev_build (parts := [(0, .const (.i6 10)), (1, .const (.i6 (-1)))]) (vs := [(0, .i6 10), (1, .i6 (-1))]) rfl (fun w => tb28_0_1 10 (-1) w)) F S rfl fun a F=>?_
     refine wl_storeC (wn rfl) rfl F S rfl rfl (vs := [nilS, nilS]) rfl ts25 (one_cons rfl (one_cons rfl one_nil)) (k := 3) rfl (lb rfl) (c' := #[nilS, nilS]) rfl rfl ?_; clear S; intro w S
     refine wE (ev_assign rfl) F S rfl fun a F=>?_
     refine wl_storeC (wn rfl) rfl F S rfl rfl (vs := [.i6 10, .i6 (-1)]) rfl ts28 (one_cons rfl (one_cons rfl one_nil)) (k := 2) rfl (lb rfl) (c' := #[.i6 10, .i6 (-1)]) rfl rfl ?_; clear S; intro w S
     refine wpList_nil ?_
     refine then_n ?_
     refine wp_ret ?_
     refine then_r ?_
     obtain rfl := sinj hm
     replace S : St g4 [[], c2, [bx b8 #[v1, v3] 25], [bx b5 #[.i6 10, .i6 (-1)] 28], [bx b4 #[nilS, nilS] 25], c1, c3] fr w := S
     replace S : St g4 [[], [], c2, [bx b8 #[v1, v3] 25], [bx b5 #[.i6 10, .i6 (-1)] 28], [bx b4 #[nilS, nilS] 25], c1, c3] fr w := S
     replace S : St g4 [[], [], [], c2, [bx b8 #[v1, v3] 25], [bx b5 #[.i6 10, .i6 (-1)] 28], [bx b4 #[nilS, nilS] 25], c1, c3] fr w := S
     refine post_r _ F rfl (ar_cons (resA rfl tu25 rfl (box_ptr (cells := [nilS, nilS]) 6 rfl 0 rfl (lb rfl) w S) ts25) (ar_cons (resT rfl) (ar_cons (resA rfl tu28 rfl (box_ptr (cells := [.i6 10, .i6 (-1)]) 5 rfl 0 rfl (lb rfl) w S) ts28) ar_nil))) ?_
     replace S : St g4 [[], [], []] fr w := St.tail [[], [], []] _ (((S.frontC 0 rfl).frontC 2 rfl).frontC 4 rfl)
     exact ⟨_, rfl, g4, (nilS), (nilS), (nilS), [], [], [], (((l1.trans l2).trans l3).trans l4), S, (OwnS.nil _), (OwnS.nil _), (OwnS.nil _), rfl⟩
    ·refine wp_condF F rfl hc3 ?_
     refine wp_skip ?_
     refine then_n ?_
     refine wp_seq ?_
     refine wp_region_lit ?_
     refine wE (ev_loadA tu25 rfl (cs := [v1, v3]) ts25 rfl (box_ptr (cells := [v1, v3]) 1 rfl 0 rfl (lb rfl))) F S rfl fun a F=>?_
     refine wE (ev_move rfl) F S rfl fun a F=>?_
     refine wE (ev_build (parts := []) (vs := []) rfl (fun w => tb28_  w)) F S rfl fun a F=>?_
     refine wl_storeC (wn rfl) rfl F S rfl rfl (vs := [v1, v3]) rfl ts25 (one_cons (OwnS.one h1) (one_cons (OwnS.one h3) one_nil)) (k := 3) rfl (lb rfl) (c' := #[v1, v3]) rfl rfl ?_; clear S; intro w S
     refine wE (ev_assign rfl) F S rfl fun a F=>?_
     refine wl_storeC (wn rfl) rfl F S rfl rfl (vs := [.i6 0, .i6 0]) rfl ts28 (one_cons rfl (one_cons rfl one_nil)) (k := 2) rfl (lb rfl) (c' := #[.i6 0, .i6 0]) rfl rfl ?_; clear S; intro w S
     refine wpList_nil ?_
     refine then_n ?_
     refine wp_ret ?_
     obtain rfl := sinj hm
     refine post_r _ F rfl (ar_cons (resA rfl tu25 rfl (box_ptr (cells := [v1, v3]) 3 rfl 0 rfl (lb rfl) w S) ts25) (ar_cons (resT rfl) (ar_cons (resA rfl tu28 rfl (box_ptr (cells := [.i6 0, .i6 0]) 2 rfl 0 rfl (lb rfl) w S) ts28) ar_nil))) ?_
     replace S : St g4 [c1, c3, c2] fr w := St.tail [c1, c3, c2] _ (((S.frontC 0 rfl).frontC 6 rfl).frontC 6 rfl)
     exact ⟨_, rfl, g4, v1, v3, v2, c1, c3, c2, (((l1.trans l2).trans l3).trans l4), S, (h1.mono l4), h3, h2, rfl⟩

theorem changeforgeequal_Strings_ok {g : Gh} {fr : Hl} {w : World} {r : Bool} (a_ : (List ByteArray)) (va_1 : Value) (ha_1 : RepSl g a_ va_1) (b_ : (List ByteArray)) (vb_1 : Value) (hb_1 : RepSl g b_ vb_1) (S : St g [] fr w) (hm : changeforgeequal_Strings a_ b_ = some r) :
  Calls Try.prog 15 [va_1, vb_1].toArray w (fun en w' => ∃ v, en = .returned v ∧ ∃ (g' : Gh), Le g g' ∧ St g' [] fr w' ∧ .bool r = v) := by
 unfold changeforgeequal_Strings at hm
 refine calls_enter (fn := Try.f15) Try.func15 rfl Try.ntmps15 (lb rfl) ?_
 intro a F
 replace F : Fr 26 a [(0, va_1), (1, vb_1)] := F
 refine wp_seq ?_
 refine wp_region_lit ?_
 refine wE (ev_assign rfl) F S rfl fun a F=>?_
 refine wpList_nil ?_
 refine then_n ?_
 refine wp_seq ?_
 refine wp_seq ?_
 refine wp_region_lit ?_
 refine wE (ev_move rfl) F S rfl fun a F=>?_
 refine wE (ev_lenSh ha_1 rfl tu22) F S rfl fun a F=>?_
 refine wE (ev_move rfl) F S rfl fun a F=>?_
 refine wE (ev_lenSh hb_1 rfl tu22) F S rfl fun a F=>?_
 refine wE (ev_int rfl rfl (bo_neq _ _ _ _)) F S rfl fun a F=>?_
 refine wpList_nil ?_
 refine then_n ?_
 obtain ⟨hc1, hm⟩ | ⟨hc1, hm⟩ := ite_or hm
 ·refine wp_condT F rfl hc1 ?_
  refine wp_seq ?_
  refine wp_region_lit ?_
  refine wE (ev_assign rfl) F S rfl fun a F=>?_
  refine wpList_nil ?_
  refine then_n ?_
  refine wp_ret ?_
  refine then_r ?_
  obtain rfl := sinj hm
  refine post_r _ F rfl (ar_cons (resT rfl) ar_nil) ?_
  exact ⟨_, rfl, g, (Le.refl _), S, rfl⟩
 ·refine wp_condF F rfl hc1 ?_
  refine wp_skip ?_
  refine then_n ?_
  refine wp_cut (fun a w => ∃ (g1 : Gh), Fr 26 a [] ∧ Le g g1 ∧ St g1 [] fr w ∧ changeforgeequal_Strings.j1 = some r) ?_ ?_
  ·refine wp_seq ?_
   refine wp_region_lit ?_
   refine wE (ev_assign rfl) F S rfl fun a F=>?_
   refine wpList_nil ?_
   refine then_n ?_
   refine wp_block ?_
   obtain ⟨r1, hr1, hm⟩ := bind_some hm
   have hmo1 := hm; clear hm
   refine wp_iter (σ := Int) (ρ := Bool ⊕ Unit) (m := fun s => changeforgeequal_Strings.l1 a_ b_ s) (I := fun x1 a w => ∃ (g2 : Gh), Fr 26 a [(5, .i6 x1), (0, va_1), (1, vb_1)] ∧ Le g g2 ∧ St g2 [] fr w) hr1 ?_ ?_
   ·exact ⟨g, F.sub ⟨rfl, rfl, rfl, trivial⟩, (Le.refl _), S⟩
   ·clear F S; rintro x1 a w x2 ⟨g2, F, l2, S⟩ hx1 hfin1
    have hm : changeforgeequal_Strings.l1 a_ b_ x1 = some x2 := hx1; clear hx1
    unfold changeforgeequal_Strings.l1 at hm
    refine wp_seq ?_
    refine wp_seq ?_
    refine wp_region_lit ?_
    refine wE (ev_move rfl) F S rfl fun a F=>?_
    refine wE (ev_move rfl) F S rfl fun a F=>?_
    refine wE (ev_lenSh ha_1 rfl tu22) F S rfl fun a F=>?_
    refine wE (ev_int rfl rfl (bo_lss _ _ _ _)) F S rfl fun a F=>?_
    refine wpList_nil ?_
    refine then_n ?_
    obtain ⟨hc2, hm⟩ | ⟨hc2, hm⟩ := ite_or hm
    ·refine wp_condT F rfl hc2 ?_
     refine wp_skip ?_
     refine then_n ?_
     refine wp_seq ?_
     refine wp_block ?_
     refine wp_seq ?_
     refine wp_quiet mo (by kernel_rfl) S ?_
     refine wq_ev (wn rfl) (ev_move rfl) F rfl rfl ?_; clear F a; intro a F
     refine wq_ev (wn rfl) (ev_move rfl) F rfl rfl ?_; clear F a; intro a F
     obtain ⟨y1, hy1, hm⟩ := bind_some hm
     obtain ⟨cs1, hr2, hp1⟩ := elemS (ha_1.mono l2) hy1
     obtain rfl := rep_str hr2
     refine wq_ev (wn rfl) (ev_idxS (ha_1.mono l2) hy1 tu22 ts9 rfl rfl) F rfl rfl ?_; clear F a; intro a F
     refine wq_ev (wn rfl) (ev_load1 tu9 rfl rfl (ptr_mono (cks := []) (fr := fr) hp1 (Le.refl _))) F rfl rfl ?_; clear F a; intro a F
     refine wq_ev (wn rfl) (ev_move rfl) F rfl rfl ?_; clear F a; intro a F
     refine wq_ev (wn rfl) (ev_move rfl) F rfl rfl ?_; clear F a; intro a F
     obtain ⟨y2, hy2, hm⟩ := bind_some hm
     obtain ⟨cs2, hr3, hp2⟩ := elemS (hb_1.mono l2) hy2
     obtain rfl := rep_str hr3
     refine wq_ev (wn rfl) (ev_idxS (hb_1.mono l2) hy2 tu22 ts9 rfl rfl) F rfl rfl ?_; clear F a; intro a F
     refine wq_ev (wn rfl) (ev_load1 tu9 rfl rfl (ptr_mono (cks := []) (fr := fr) hp2 (Le.refl _))) F rfl rfl ?_; clear F a; intro a F
     refine wq_ev (wn rfl) (ev_str rfl rfl (bs_neq _ _ _)) F rfl rfl ?_; clear F a; intro a F
     refine wq_nil ?_; clear S; intro w S
     refine then_n ?_
     obtain ⟨hc3, hm⟩ | ⟨hc3, hm⟩ := ite_or hm
     ·refine wp_condT F rfl hc3 ?_
      refine wp_seq ?_
      refine wp_region_lit ?_
      refine wE (ev_assign rfl) F S rfl fun a F=>?_
      refine wpList_nil ?_
      refine then_n ?_
      refine wp_ret ?_
      refine inb_r ?_
      refine then_r ?_
      refine then_r ?_
      refine inb_r ?_
      refine then_r ?_
      obtain rfl := sinj hm
      obtain rfl := hfin1 _ rfl
      clear hm
      have hm : (some false : Option Bool) = some _ := hmo1
      obtain rfl := sinj hm
      refine post_r _ F rfl (ar_cons (resT rfl) ar_nil) ?_
      exact ⟨_, rfl, g2, l2, S, rfl⟩
     ·refine wp_condF F rfl hc3 ?_
      refine wp_skip ?_
      refine inb_n ?_
      refine then_n ?_
      refine wp_region_lit ?_
      refine wE (ev_move rfl) F S rfl fun a F=>?_
      obtain ⟨z1, hz1, hm⟩ := bind_some hm
      refine wE (ev_int rfl rfl (bo_add hz1)) F S rfl fun a F=>?_
      refine wE (ev_assign rfl) F S rfl fun a F=>?_
      refine wpList_nil ?_
      refine then_n ?_
      obtain rfl := sinj hm
      refine ⟨_, rfl, ?_⟩
      exact ⟨g2, F.sub ⟨rfl, rfl, rfl, trivial⟩, l2, S⟩
    ·refine wp_condF F rfl hc2 ?_
     refine wp_exit ?_
     refine then_e ?_
     refine then_e ?_
     refine inb_x ?_
     refine then_n ?_
     obtain rfl := sinj hm
     obtain rfl := hfin1 _ rfl
     clear hm
     have hm : (changeforgeequal_Strings.j1 : Option Bool) = some _ := hmo1
     exact ⟨g2, F.sub trivial, l2, S, hm⟩
  ·clear F S hm; rintro a w ⟨g1, F, l1, S, hm⟩
   refine wp_seq ?_
   refine wp_region_lit ?_
   refine wE (ev_assign rfl) F S rfl fun a F=>?_
   refine wpList_nil ?_
   refine then_n ?_
   refine wp_ret ?_
   obtain rfl := sinj hm
   refine post_r _ F rfl (ar_cons (resT rfl) ar_nil) ?_
   exact ⟨_, rfl, g1, l1, S, rfl⟩
end Go.Dc
