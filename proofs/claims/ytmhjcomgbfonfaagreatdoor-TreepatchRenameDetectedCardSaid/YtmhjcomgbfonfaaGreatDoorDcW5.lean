/- Walks: each function comes to what its model says. -/
import Derived.Test.YtmhjcomgbfonfaaGreatDoorDcTab
import Derived.Test.YtmhjcomgbfonfaaGreatDoorDcM
import Derived.Test.YtmhjcomgbfonfaaGreatDoorDcW2
import Derived.Test.YtmhjcomgbfonfaaGreatDoorDcW3
import Derived.Test.YtmhjcomgbfonfaaGreatDoorDcW4
namespace Go.Dc
open Go Go.Proofs
set_option maxRecDepth 100000
set_option maxHeartbeats 4000000
set_option linter.unusedVariables false
theorem cmp_isNaN_ok {g : Gh} {fr : Hl} {w : World} {r : Bool} (x_ : ByteArray) (S : St g [] fr w) (hm : cmp_isNaN x_ = some r) :
  Calls Tryz.prog 141 [.string x_].toArray w (fun en w' => ∃ v, en = .returned v ∧ ∃ (g' : Gh), Le g g' ∧ St g' [] fr w' ∧ .bool r = v) := by
 unfold cmp_isNaN at hm
 refine calls_enter (fn := Tryz.f141) Tryz.func141 rfl Tryz.ntmps141 (lb rfl) ?_
 intro a F
 replace F : Fr 6 a [(0, .string x_)] := F
 refine wp_seq ?_
 refine wp_region_lit ?_
 refine wE (ev_assign rfl) F S rfl fun a F=>?_
 refine wpList_nil ?_
 refine then_n ?_
 refine wp_seq ?_
 refine wp_region_lit ?_
 refine wE (ev_move rfl) F S rfl fun a F=>?_
 refine wE (ev_move rfl) F S rfl fun a F=>?_
 refine wE (ev_str rfl rfl (bs_neq _ _ _)) F S rfl fun a F=>?_
 refine wE (ev_assign rfl) F S rfl fun a F=>?_
 refine wpList_nil ?_
 refine then_n ?_
 refine wp_ret ?_
 obtain rfl := sinj hm
 refine post_r _ F rfl (ar_cons (resT rfl) ar_nil) ?_
 exact ⟨_, rfl, g, (Le.refl _), S, rfl⟩

theorem api_File__ok {g : Gh} {fr : Hl} {w : World} {r : (List File)} (s_ : (List File)) (vs_1 : Value) (hs_1 : RepSl g s_ vs_1) (S : St g [] fr w) (hm : api_File_ s_ = some r) :
  Calls Tryz.prog 136 [vs_1].toArray w (fun en w' => ∃ v, en = .returned v ∧ ∃ (g' : Gh) (v1 : Value) (c1 : Hl), Le g g' ∧ St g' [c1] fr w' ∧ OwnS g' r v1 c1 ∧ v1 = v) := by
 unfold api_File_ at hm
 refine calls_enter (fn := Tryz.f136) Tryz.func136 rfl Tryz.ntmps136 (lb rfl) ?_
 intro a F
 replace F : Fr 8 a [(0, vs_1)] := F
 refine wp_seq ?_
 refine wp_region_lit ?_
 refine wE (ev_assign rfl) F S rfl fun a F=>?_
 refine wpList_nil ?_
 refine then_n ?_
 refine wp_seq ?_
 refine wp_seq ?_
 refine wp_region_lit ?_
 refine wE (ev_move rfl) F S rfl fun a F=>?_
 obtain ⟨nb1, hnb1, he1⟩ := ev_nileqlS (P := Tryz.prog) (n := 8) (e := [(3, vs_1), (2, nilS), (0, vs_1)]) (C := fun w => St g [] fr w) (x := .tmp 3) (y := .const (nilS)) hs_1 tu22 rfl rfl
 refine wE he1 F S rfl fun a F=>?_
 refine wpList_nil ?_
 refine then_n ?_
 obtain ⟨hc1, hm⟩ | ⟨hc1, hm⟩ := nil_or hnb1 hm
 ·refine wp_condT F rfl hc1 ?_
  refine wp_seq ?_
  refine wp_region_lit ?_
  refine wE (ev_assign rfl) F S rfl fun a F=>?_
  refine wpList_nil ?_
  refine then_n ?_
  refine wp_ret ?_
  refine then_r ?_
  obtain rfl := sinj hm
  replace S : St g [[]] fr w := S
  refine post_r _ F rfl (ar_cons (resT rfl) ar_nil) ?_
  exact ⟨_, rfl, g, (nilS), [], (Le.refl _), S, (OwnS.nil _), rfl⟩
 ·refine wp_condF F rfl hc1 ?_
  refine wp_skip ?_
  refine then_n ?_
  refine wp_seq ?_
  refine wp_region_lit ?_
  refine wl_lit (l := ([] : List File)) (vs := []) (parts := []) (wn rfl) rfl rfl rfl tu22 te80 sz_nil rfl (Cat.nil _) coa_nil rfl F S rfl rfl ?_; clear F a S
  rintro v1 c1 a w h1 F S
  refine wE (ev_move rfl) F S rfl fun a F=>?_
  obtain ⟨cs1, hk1, hr1⟩ := RepSl.reads hs_1
  obtain ⟨y1, hy1, hm⟩ := bind_some hm
  refine wl_append (wn rfl) rfl tu22 tu22 te80 (by decide) (by decide) F S rfl rfl (k := 0) rfl h1 hk1 rfl (hr1 _ _ S) hy1 rfl rfl ?_; clear F a S
  rintro v2 c2 a w h2 S F; replace S : St g [c2] fr w := S
  refine wE (ev_assign rfl) F S rfl fun a F=>?_
  refine wpList_nil ?_
  refine then_n ?_
  refine wp_ret ?_
  obtain rfl := sinj hm
  refine post_r _ F rfl (ar_cons (resT rfl) ar_nil) ?_
  exact ⟨_, rfl, g, v2, c2, (Le.refl _), S, h2, rfl⟩

theorem rename_only_ok {g : Gh} {fr : Hl} {w : World} {r : (List File)} (a_ : FileTree) (va_1 : Value) (ha_1 : RepSl g a_.Files va_1) (b_ : FileTree) (vb_1 : Value) (hb_1 : RepSl g b_.Files vb_1) (S : St g [] fr w) (hm : rename_only a_ b_ = some r) :
  Calls Tryz.prog 77 [.agg #[va_1], .agg #[vb_1]].toArray w (fun en w' => ∃ v, en = .returned v ∧ ∃ (g' : Gh) (v1 : Value) (c1 : Hl), Le g g' ∧ St g' [c1] fr w' ∧ OwnS g' r v1 c1 ∧ v1 = v) := by
 unfold rename_only at hm
 refine calls_enter (fn := Tryz.f77) Tryz.func77 rfl Tryz.ntmps77 (lb rfl) ?_
 intro a F
 replace F : Fr 10 a [(0, .agg #[va_1]), (1, .agg #[vb_1])] := F
 refine wp_seq ?_
 refine wp_region_lit ?_
 refine wl_boxC (wn rfl) rfl rfl rfl F S rfl rfl ?_; clear F a S; rintro b1 a w F S
 refine wl_boxC (wn rfl) rfl rfl rfl F S rfl rfl ?_; clear F a S; rintro b2 a w F S
 refine wE (ev_assign rfl) F S rfl fun a F=>?_
 refine wpList_nil ?_
 refine then_n ?_
 refine wp_seq ?_
 refine wp_region_lit ?_
 refine wE (ev_fieldAddr' tu24 tf24_0 (z := 0) ts22 rfl ⟨_, rfl⟩ rfl) F S rfl fun a F=>?_
 refine wE (ev_load1 tu22 rfl rfl (box_ptr (cells := [va_1]) 1 rfl 0 rfl (lb rfl))) F S rfl fun a F=>?_
 obtain ⟨y1, hy1, hm⟩ := bind_some hm
 refine wl_call0 (wn rfl) rfl F rfl (api_File__ok (fr := (fl [[bx b2 #[vb_1] 24], [bx b1 #[va_1] 24]] fr)) a_.Files va_1 ha_1 S hy1) rfl tc136 rfl rfl ?_; clear F a S
 rintro _ a w ⟨g1, v1, c1, l1, S, h1, rfl⟩ F; replace S : St g1 [c1, [bx b2 #[vb_1] 24], [bx b1 #[va_1] 24]] fr w := S
 refine wE (ev_makeFunc (xs := [.tmp 3]) (vs := [bp b2 0]) rfl) F S rfl fun a F=>?_
 refine wl_call (wn rfl) rfl (xs := [.tmp 7, .tmp 8]) (vs := [v1, .func (.func 137) #[] #[bp b2 0]]) (cap := []) (R := fun u1 w => ∃ (x1 : List File) (v2 : Value) (c2 : Hl) (g2 : Gh), v2 = u1 ∧ Le g1 g2 ∧ St g2 [c2] fr w ∧ OwnS g2 x1 v2 c2 ∧ rename_only.j1 x1 = some r) F rfl rfl tc135 (calls_enter (fn := Tryz.f135) Tryz.func135 rfl Tryz.ntmps135 (lb rfl) ?_) rfl rfl ?_
 ·clear F a; intro a F
  replace F : Fr 42 a [(0, v1), (1, .func (.func 137) #[] #[bp b2 0])] := F
  refine wp_seq ?_
  refine wp_region_lit ?_
  refine wE (ev_assign rfl) F S rfl fun a F=>?_
  refine wpList_nil ?_
  refine then_n ?_
  refine wp_seq ?_
  refine wp_region_lit ?_
  refine wE (ev_move rfl) F S rfl fun a F=>?_
  refine wE (ev_move rfl) F S rfl fun a F=>?_
  refine wl_call (wn rfl) rfl (xs := [.tmp 8, .tmp 9]) (vs := [v1, .func (.func 137) #[] #[bp b2 0]]) (cap := []) (R := fun u2 w => ∃ (x2 : Int) (g3 : Gh), u2 = .i6 x2 ∧ Le g1 g3 ∧ St g3 [c1, [bx b2 #[vb_1] 24]] fr w ∧ rename_only.j2 b_ y1 x2 = some r) F rfl rfl tc176 (calls_enter (fn := Tryz.f176) Tryz.func176 rfl Tryz.ntmps176 (lb rfl) ?_) rfl rfl ?_
  ·clear F a; intro a F
   replace F : Fr 19 a [(0, v1), (1, .func (.func 137) #[] #[bp b2 0])] := F
   refine wp_seq ?_
   refine wp_region_lit ?_
   refine wE (ev_assign rfl) F S rfl fun a F=>?_
   refine wpList_nil ?_
   refine then_n ?_
   refine wp_cut (fun a w => ∃ (g8 : Gh), Fr 19 a [] ∧ Le g1 g8 ∧ St g8 [c1, [bx b2 #[vb_1] 24]] fr w ∧ rename_only.j5 b_ y1 = some r) ?_ ?_
   ·refine wp_seq ?_
    refine wp_region_lit ?_
    refine wE (ev_move rfl) F S rfl fun a F=>?_
    refine wE (ev_lenOw h1 rfl tu22) F S rfl fun a F=>?_
    refine wE (ev_move rfl) F S rfl fun a F=>?_
    refine wpList_nil ?_
    refine then_n ?_
    refine wp_block ?_
    obtain ⟨r2, hr3, hm⟩ := bind_some hm
    have hmo2 := hm; clear hm
    refine wp_iter (σ := Int) (ρ := Int ⊕ Unit) (m := fun s => rename_only.l2 b_ y1 s) (I := fun x11 a w => ∃ (g9 : Gh), Fr 19 a [(8, .i6 x11), (7, .i6 (y1.length : Int)), (0, v1), (1, .func (.func 137) #[] #[bp b2 0])] ∧ Le g1 g9 ∧ St g9 [c1, [bx b2 #[vb_1] 24]] fr w) hr3 ?_ ?_
    ·replace S : St g1 [c1, [bx b2 #[vb_1] 24]] fr w := St.tail [c1, [bx b2 #[vb_1] 24]] _ ((S.frontC 1 rfl).frontC 1 rfl)
     exact ⟨g1, F.sub ⟨rfl, rfl, rfl, rfl, trivial⟩, (Le.refl _), S⟩
    ·clear F S; rintro x11 a w x12 ⟨g9, F, l9, S⟩ hx2 hfin2
     have hm : rename_only.l2 b_ y1 x11 = some x12 := hx2; clear hx2
     unfold rename_only.l2 at hm
     refine wp_seq ?_
     refine wp_region_lit ?_
     refine wE (ev_int rfl rfl (bo_lss _ _ _ _)) F S rfl fun a F=>?_
     refine wpList_nil ?_
     refine then_n ?_
     refine wp_seq ?_
     obtain ⟨hc4, hm⟩ | ⟨hc4, hm⟩ := ite_or hm
     ·refine wp_condT F rfl hc4 ?_
      refine wp_skip ?_
      refine then_n ?_
      refine wp_seq ?_
      refine wp_block ?_
      refine wp_seq ?_
      refine wp_region_lit ?_
      refine wE (ev_move rfl) F S rfl fun a F=>?_
      refine wE (ev_assign rfl) F S rfl fun a F=>?_
      refine wpList_nil ?_
      refine then_n ?_
      refine wp_seq ?_
      refine wp_region_lit ?_
      refine wE (ev_move rfl) F S rfl fun a F=>?_
      refine wE (ev_move rfl) F S rfl fun a F=>?_
      refine wE (ev_move rfl) F S rfl fun a F=>?_
      obtain ⟨y8, hy8, hm⟩ := bind_some hm
      refine wE (ev_idxO (h1.mono l9) hy8 tu22 ts80 rfl rfl) F S rfl fun a F=>?_
      obtain ⟨cs2, hr4, hq2⟩ := elemO (h1.mono l9) hy8
      obtain ⟨v9, rfl, h10⟩ := rep_File hr4
      refine wE (ev_loadA tu80 rfl (cs := [.string y8.Path, v9]) ts80 rfl (hq2 _ _ 0 rfl)) F S rfl fun a F=>?_
      replace F := F.sub (e' := [(15, .agg #[.string y8.Path, v9]), (11, .func (.func 137) #[] #[bp b2 0]), (5, .i6 x11), (8, .i6 x11), (7, .i6 (y1.length : Int)), (0, v1), (1, .func (.func 137) #[] #[bp b2 0])]) ⟨rfl, rfl, rfl, rfl, rfl, rfl, rfl, trivial⟩
      refine wl_callK (wn rfl) rfl (xs := [.tmp 15]) (vs := [.agg #[.string y8.Path, v9]]) (cap := [bp b2 0]) (e' := [(5, .i6 x11), (8, .i6 x11), (7, .i6 (y1.length : Int)), (0, v1), (1, .func (.func 137) #[] #[bp b2 0])]) ⟨rfl, rfl, rfl, rfl, rfl, trivial⟩ F rfl rfl tc137 rfl rfl (calls_enter (fn := Tryz.f137) Tryz.func137 rfl Tryz.ntmps137 (lb rfl) ?_); clear F a; intro a F
      replace F : Fr 15 a [(0, .agg #[.string y8.Path, v9]), (1, bp b2 0)] := F
      refine wp_seq ?_
      refine wp_region_lit ?_
      refine wl_boxC (wn rfl) rfl rfl rfl F S rfl rfl ?_; clear F a S; rintro b5 a w F S
      refine wE (ev_assign rfl) F S rfl fun a F=>?_
      refine wpList_nil ?_
      refine then_n ?_
      refine wp_seq ?_
      refine wp_region_lit ?_
      refine wE (ev_fieldAddr' tu24 tf24_0 (z := 0) ts22 rfl ⟨_, rfl⟩ rfl) F S rfl fun a F=>?_
      refine wE (ev_load1 tu22 rfl rfl (box_ptr (cells := [vb_1]) 2 rfl 0 rfl (lb rfl))) F S rfl fun a F=>?_
      refine wE (ev_fieldAddr' tu80 tf80_0 (z := 0) ts9 rfl ⟨_, rfl⟩ rfl) F S rfl fun a F=>?_
      refine wE (ev_load1 tu9 rfl rfl (box_ptr (cells := [.string y8.Path]) 0 rfl 0 rfl (lb rfl))) F S rfl fun a F=>?_
      obtain ⟨y9, hy9, hm⟩ := bind_some hm
      refine wl_call0 (wn rfl) rfl F rfl (treepatch_Find_ok (fr := (fl [[bx b5 #[.string y8.Path, v9] 80], c1, [bx b2 #[vb_1] 24]] fr)) b_.Files vb_1 (hb_1.mono (l1.trans l9)) y8.Path S hy9) rfl tc72 rfl rfl ?_; clear F a S
      rintro _ a w ⟨g10, l10, S, rfl⟩ F; replace S : St g10 [[bx b5 #[.string y8.Path, v9] 80], c1, [bx b2 #[vb_1] 24]] fr w := S
      refine wE (ev_move rfl) F S rfl fun a F=>?_
      refine wE (ev_extract rfl rfl) F S rfl fun a F=>?_
      refine wE (ev_extract rfl rfl) F S rfl fun a F=>?_
      refine wE (ev_assign rfl) F S rfl fun a F=>?_
      refine wE (ev_assign rfl) F S rfl fun a F=>?_
      refine wpList_nil ?_
      refine then_n ?_
      refine wp_seq ?_
      refine wp_region_lit ?_
      refine wE (ev_move rfl) F S rfl fun a F=>?_
      refine wE (ev_assign rfl) F S rfl fun a F=>?_
      refine wpList_nil ?_
      refine then_n ?_
      refine wp_ret ?_
      refine post_r _ F rfl (ar_cons (resT rfl) ar_nil) ?_
      refine ⟨_, rfl, ?_⟩; clear F a; intro a F
      replace F : Fr 19 a [(16, .bool y9.2), (5, .i6 x11), (8, .i6 x11), (7, .i6 (y1.length : Int)), (0, v1), (1, .func (.func 137) #[] #[bp b2 0])] := F
      refine wpList_nil ?_
      refine then_n ?_
      obtain ⟨hc5, hm⟩ | ⟨hc5, hm⟩ := ite_or hm
      ·refine wp_condT F rfl hc5 ?_
       refine wp_seq ?_
       refine wp_region_lit ?_
       refine wE (ev_move rfl) F S rfl fun a F=>?_
       refine wE (ev_assign rfl) F S rfl fun a F=>?_
       refine wpList_nil ?_
       refine then_n ?_
       refine wp_ret ?_
       refine inb_r ?_
       refine then_r ?_
       refine then_r ?_
       refine inb_r ?_
       refine then_r ?_
       obtain rfl := sinj hm
       obtain rfl := hfin2 _ rfl
       clear hm
       have hm : (rename_only.j2 b_ y1 x11 : Option (List File)) = some _ := hmo2
       refine post_r _ F rfl (ar_cons (resT rfl) ar_nil) ?_
       replace S : St g10 [c1, [bx b2 #[vb_1] 24]] fr w := St.tail [c1, [bx b2 #[vb_1] 24]] _ ((S.frontC 2 rfl).frontC 2 rfl)
       exact ⟨_, rfl, ⟨x11, g10, rfl, (l9.trans l10), S, hm⟩⟩
      ·refine wp_condF F rfl hc5 ?_
       refine wp_skip ?_
       refine inb_n ?_
       refine then_n ?_
       refine wp_region_lit ?_
       obtain ⟨z5, hz5, hm⟩ := bind_some hm
       refine wE (ev_int rfl rfl (bo_add hz5)) F S rfl fun a F=>?_
       refine wE (ev_move rfl) F S rfl fun a F=>?_
       refine wpList_nil ?_
       refine then_n ?_
       obtain rfl := sinj hm
       refine ⟨_, rfl, ?_⟩
       replace S : St g10 [c1, [bx b2 #[vb_1] 24]] fr w := St.tail [c1, [bx b2 #[vb_1] 24]] _ ((S.frontC 2 rfl).frontC 2 rfl)
       exact ⟨g10, F.sub ⟨rfl, rfl, rfl, rfl, trivial⟩, (l9.trans l10), S⟩
     ·refine wp_condF F rfl hc4 ?_
      refine wp_exit ?_
      refine then_e ?_
      refine then_e ?_
      refine inb_x ?_
      refine then_n ?_
      obtain rfl := sinj hm
      obtain rfl := hfin2 _ rfl
      clear hm
      have hm : (rename_only.j5 b_ y1 : Option (List File)) = some _ := hmo2
      exact ⟨g9, F.sub trivial, l9, S, hm⟩
   ·clear F S hm; rintro a w ⟨g8, F, l8, S, hm⟩
    refine wp_seq ?_
    refine wp_region_lit ?_
    refine wE (ev_assign rfl) F S rfl fun a F=>?_
    refine wpList_nil ?_
    refine then_n ?_
    refine wp_ret ?_
    refine post_r _ F rfl (ar_cons (resT rfl) ar_nil) ?_
    exact ⟨_, rfl, ⟨(-1), g8, rfl, l8, S, hm⟩⟩
  ·clear F S hm; rintro _ a w ⟨x2, g3, rfl, l3, S, hm⟩ F
   replace F := F.sub (e' := [(10, .i6 x2), (0, v1), (1, .func (.func 137) #[] #[bp b2 0])]) ⟨rfl, rfl, rfl, trivial⟩
   refine wE (ev_assign rfl) F S rfl fun a F=>?_
   refine wpList_nil ?_
   refine then_n ?_
   refine wp_seq ?_
   refine wp_seq ?_
   refine wp_region_lit ?_
   refine wE (ev_move rfl) F S rfl fun a F=>?_
   refine wE (ev_int rfl rfl (bo_eql _ _ _ _)) F S rfl fun a F=>?_
   refine wpList_nil ?_
   refine then_n ?_
   obtain ⟨hc1, hm⟩ | ⟨hc1, hm⟩ := ite_or hm
   ·refine wp_condT F rfl hc1 ?_
    refine wp_seq ?_
    refine wp_region_lit ?_
    refine wE (ev_move rfl) F S rfl fun a F=>?_
    refine wE (ev_assign rfl) F S rfl fun a F=>?_
    refine wpList_nil ?_
    refine then_n ?_
    refine wp_ret ?_
    refine then_r ?_
    refine post_r _ F rfl (ar_cons (resT rfl) ar_nil) ?_
    replace S : St g3 [c1] fr w := St.tail [c1] _ (S.frontC 0 rfl)
    exact ⟨_, rfl, ⟨y1, v1, c1, g3, rfl, l3, S, (h1.mono l3), hm⟩⟩
   ·refine wp_condF F rfl hc1 ?_
    refine wp_skip ?_
    refine then_n ?_
    refine wp_cut (fun a w => ∃ (x3 : Int) (x4 : List File) (v3 : Value) (c3 : Hl) (g4 : Gh), Fr 42 a [(5, .i6 x3), (0, v3)] ∧ Le g3 g4 ∧ St g4 [c3] fr w ∧ OwnS g4 x4 v3 c3 ∧ rename_only.j3 x3 x4 = some r) ?_ ?_
    ·refine wp_seq ?_
     refine wp_region_lit ?_
     refine wE (ev_move rfl) F S rfl fun a F=>?_
     obtain ⟨z2, hz2, hm⟩ := bind_some hm
     refine wE (ev_int rfl rfl (bo_add hz2)) F S rfl fun a F=>?_
     refine wE (ev_assign rfl) F S rfl fun a F=>?_
     refine wpList_nil ?_
     refine then_n ?_
     refine wp_block ?_
     obtain ⟨r1, hr1, hm⟩ := bind_some hm
     have hmo1 := hm; clear hm
     refine wp_iter (σ := Int × Int × (List File)) (ρ := Int × (List File)) (m := fun s => rename_only.l1 b_ s.1 s.2.1 s.2.2) (I := fun s a w => match s with | (x5, x6, x7) => ∃ (v6 : Value) (c5 : Hl) (g5 : Gh), Fr 42 a [(6, .i6 x5), (5, .i6 x6), (0, v6), (1, .func (.func 137) #[] #[bp b2 0])] ∧ Le g3 g5 ∧ St g5 [c5, [bx b2 #[vb_1] 24]] fr w ∧ OwnS g5 x7 v6 c5) hr1 ?_ ?_
     ·dsimp only
      exact ⟨v1, c1, g3, F.sub ⟨rfl, rfl, rfl, rfl, trivial⟩, (Le.refl _), S, (h1.mono l3)⟩
     ·clear F S; rintro ⟨x5, x6, x7⟩ a w x8 ⟨v6, c5, g5, F, l5, S, h6⟩ hx1 hfin1
      have hm : rename_only.l1 b_ x5 x6 x7 = some x8 := hx1; clear hx1
      unfold rename_only.l1 at hm
      refine wp_seq ?_
      refine wp_seq ?_
      refine wp_region_lit ?_
      refine wE (ev_move rfl) F S rfl fun a F=>?_
      refine wE (ev_move rfl) F S rfl fun a F=>?_
      refine wE (ev_lenOw h6 rfl tu22) F S rfl fun a F=>?_
      refine wE (ev_int rfl rfl (bo_lss _ _ _ _)) F S rfl fun a F=>?_
      refine wpList_nil ?_
      refine then_n ?_
      obtain ⟨hc2, hm⟩ | ⟨hc2, hm⟩ := ite_or hm
      ·refine wp_condT F rfl hc2 ?_
       refine wp_skip ?_
       refine then_n ?_
       refine wp_cut (fun a w => ∃ (x9 : Int) (x10 : List File) (v7 : Value) (c6 : Hl) (g6 : Gh), Fr 42 a [(5, .i6 x9), (6, .i6 x5), (0, v7), (1, .func (.func 137) #[] #[bp b2 0])] ∧ Le g5 g6 ∧ St g6 [c6, [bx b2 #[vb_1] 24]] fr w ∧ OwnS g6 x10 v7 c6 ∧ rename_only.j4 x5 x9 x10 = some x8) ?_ ?_
       ·refine wp_block ?_
        refine wp_seq ?_
        refine wp_region_lit ?_
        refine wE (ev_move rfl) F S rfl fun a F=>?_
        refine wE (ev_move rfl) F S rfl fun a F=>?_
        obtain ⟨y4, hy4, hm⟩ := bind_some hm
        refine wE (ev_idxO h6 hy4 tu22 ts80 rfl rfl) F S rfl fun a F=>?_
        obtain ⟨cs1, hr2, hq1⟩ := elemO h6 hy4
        obtain ⟨v8, rfl, h8⟩ := rep_File hr2
        refine wE (ev_loadA tu80 rfl (cs := [.string y4.Path, v8]) ts80 rfl (hq1 _ _ 0 rfl)) F S rfl fun a F=>?_
        refine wl_alloc (wn rfl) rfl tz80 (cs := [.string ByteArray.empty, nilS]) rfl F S rfl rfl ?_; clear F a S; rintro b3 a w F S
        refine wl_storeC (wn rfl) rfl F S rfl rfl (vs := [.string y4.Path, v8]) rfl ts80 (one_cons rfl (one_cons h8.one one_nil)) (k := 0) rfl (lb rfl) (c' := #[.string y4.Path, v8]) rfl rfl ?_; clear S; intro w S
        refine wpList_nil ?_
        refine then_n ?_
        refine wp_seq ?_
        refine wp_region_lit ?_
        refine wE (ev_move rfl) F S rfl fun a F=>?_
        refine wE (ev_loadA tu80 rfl (cs := [.string y4.Path, v8]) ts80 rfl (box_ptr (cells := [.string y4.Path, v8]) 0 rfl 0 rfl (lb rfl))) F S rfl fun a F=>?_
        replace F := F.sub (e' := [(27, .agg #[.string y4.Path, v8]), (26, .func (.func 137) #[] #[bp b2 0]), (7, bp b3 0), (6, .i6 x5), (5, .i6 x6), (0, v6), (1, .func (.func 137) #[] #[bp b2 0])]) ⟨rfl, rfl, rfl, rfl, rfl, rfl, rfl, trivial⟩
        refine wl_callK (wn rfl) rfl (xs := [.tmp 27]) (vs := [.agg #[.string y4.Path, v8]]) (cap := [bp b2 0]) (e' := [(7, bp b3 0), (6, .i6 x5), (5, .i6 x6), (0, v6), (1, .func (.func 137) #[] #[bp b2 0])]) ⟨rfl, rfl, rfl, rfl, rfl, trivial⟩ F rfl rfl tc137 rfl rfl (calls_enter (fn := Tryz.f137) Tryz.func137 rfl Tryz.ntmps137 (lb rfl) ?_); clear F a; intro a F
        replace F : Fr 15 a [(0, .agg #[.string y4.Path, v8]), (1, bp b2 0)] := F
        refine wp_seq ?_
        refine wp_region_lit ?_
        refine wl_boxC (wn rfl) rfl rfl rfl F S rfl rfl ?_; clear F a S; rintro b4 a w F S
        refine wE (ev_assign rfl) F S rfl fun a F=>?_
        refine wpList_nil ?_
        refine then_n ?_
        refine wp_seq ?_
        refine wp_region_lit ?_
        refine wE (ev_fieldAddr' tu24 tf24_0 (z := 0) ts22 rfl ⟨_, rfl⟩ rfl) F S rfl fun a F=>?_
        refine wE (ev_load1 tu22 rfl rfl (box_ptr (cells := [vb_1]) 3 rfl 0 rfl (lb rfl))) F S rfl fun a F=>?_
        refine wE (ev_fieldAddr' tu80 tf80_0 (z := 0) ts9 rfl ⟨_, rfl⟩ rfl) F S rfl fun a F=>?_
        refine wE (ev_load1 tu9 rfl rfl (box_ptr (cells := [.string y4.Path]) 0 rfl 0 rfl (lb rfl))) F S rfl fun a F=>?_
        obtain ⟨y5, hy5, hm⟩ := bind_some hm
        refine wl_call0 (wn rfl) rfl F rfl (treepatch_Find_ok (fr := (fl [[bx b4 #[.string y4.Path, v8] 80], [bx b3 #[.string y4.Path, v8] 80], c5, [bx b2 #[vb_1] 24]] fr)) b_.Files vb_1 (hb_1.mono ((l1.trans l3).trans l5)) y4.Path S hy5) rfl tc72 rfl rfl ?_; clear F a S
        rintro _ a w ⟨g7, l7, S, rfl⟩ F; replace S : St g7 [[bx b4 #[.string y4.Path, v8] 80], [bx b3 #[.string y4.Path, v8] 80], c5, [bx b2 #[vb_1] 24]] fr w := S
        refine wE (ev_move rfl) F S rfl fun a F=>?_
        refine wE (ev_extract rfl rfl) F S rfl fun a F=>?_
        refine wE (ev_extract rfl rfl) F S rfl fun a F=>?_
        refine wE (ev_assign rfl) F S rfl fun a F=>?_
        refine wE (ev_assign rfl) F S rfl fun a F=>?_
        refine wpList_nil ?_
        refine then_n ?_
        refine wp_seq ?_
        refine wp_region_lit ?_
        refine wE (ev_move rfl) F S rfl fun a F=>?_
        refine wE (ev_assign rfl) F S rfl fun a F=>?_
        refine wpList_nil ?_
        refine then_n ?_
        refine wp_ret ?_
        refine post_r _ F rfl (ar_cons (resT rfl) ar_nil) ?_
        refine ⟨_, rfl, ?_⟩; clear F a; intro a F
        replace F : Fr 42 a [(28, .bool y5.2), (7, bp b3 0), (6, .i6 x5), (5, .i6 x6), (0, v6), (1, .func (.func 137) #[] #[bp b2 0])] := F
        refine wE (ev_not rfl) F S rfl fun a F=>?_
        refine wpList_nil ?_
        refine then_n ?_
        obtain ⟨hc3, hm⟩ | ⟨hc3, hm⟩ := ite_or hm
        ·refine wp_condT F rfl hc3 ?_
         refine wp_seq ?_
         refine wp_region_lit ?_
         refine wE (ev_move rfl) F S rfl fun a F=>?_
         refine wE (ev_move rfl) F S rfl fun a F=>?_
         refine wE (ev_loadA tu80 rfl (cs := [.string y4.Path, v8]) ts80 rfl (box_ptr (cells := [.string y4.Path, v8]) 1 rfl 0 rfl (lb rfl))) F S rfl fun a F=>?_
         obtain ⟨y6, hy6, hm⟩ := bind_some hm
         refine wE (ev_idxO (h6.mono l7) hy6 tu22 ts80 rfl rfl) F S rfl fun a F=>?_
         obtain ⟨y7, hy7, hm⟩ := bind_some hm
         refine wl_storeW (z' := y4) (wn rfl) rfl F S (h6.mono l7) hy6 rfl rfl (us := [.string y4.Path, v8]) rfl ts80 (one_cons rfl (one_cons h8.one one_nil)) (k := 2) rfl rfl (rep_File_mk (x := y4) (h8.mono l7)) rfl ?_; clear S
         rintro c7 w h9 S; replace S : St g7 [[bx b4 #[.string y4.Path, v8] 80], [bx b3 #[.string y4.Path, v8] 80], c7, [bx b2 #[vb_1] 24]] fr w := S; replace h9 : OwnS g7 y7 v6 c7 := sinj hy7 ▸ h9
         refine wpList_nil ?_
         refine then_n ?_
         refine wp_region_lit ?_
         refine wE (ev_move rfl) F S rfl fun a F=>?_
         obtain ⟨z4, hz4, hm⟩ := bind_some hm
         refine wE (ev_int rfl rfl (bo_add hz4)) F S rfl fun a F=>?_
         refine wE (ev_assign rfl) F S rfl fun a F=>?_
         refine wpList_nil ?_
         refine inb_n ?_
         refine then_n ?_
         replace S : St g7 [c7, [bx b2 #[vb_1] 24]] fr w := St.tail [c7, [bx b2 #[vb_1] 24]] _ ((S.frontC 3 rfl).frontC 3 rfl)
         exact ⟨z4, y7, v6, c7, g7, F.sub ⟨rfl, rfl, rfl, rfl, trivial⟩, l7, S, h9, hm⟩
        ·refine wp_condF F rfl hc3 ?_
         refine wp_skip ?_
         refine inb_n ?_
         refine then_n ?_
         replace S : St g7 [c5, [bx b2 #[vb_1] 24]] fr w := St.tail [c5, [bx b2 #[vb_1] 24]] _ ((S.frontC 3 rfl).frontC 3 rfl)
         exact ⟨x6, x7, v6, c5, g7, F.sub ⟨rfl, rfl, rfl, rfl, trivial⟩, l7, S, (h6.mono l7), hm⟩
       ·clear F S hm; rintro a w ⟨x9, x10, v7, c6, g6, F, l6, S, h7, hm⟩
        refine wp_region_lit ?_
        refine wE (ev_move rfl) F S rfl fun a F=>?_
        obtain ⟨z3, hz3, hm⟩ := bind_some hm
        refine wE (ev_int rfl rfl (bo_add hz3)) F S rfl fun a F=>?_
        refine wE (ev_assign rfl) F S rfl fun a F=>?_
        refine wpList_nil ?_
        refine then_n ?_
        obtain rfl := sinj hm
        refine ⟨_, rfl, ?_⟩
        dsimp only
        exact ⟨v7, c6, g6, F.sub ⟨rfl, rfl, rfl, rfl, trivial⟩, (l5.trans l6), S, h7⟩
      ·refine wp_condF F rfl hc2 ?_
       refine wp_exit ?_
       refine then_e ?_
       refine then_e ?_
       refine inb_x ?_
       refine then_n ?_
       obtain rfl := sinj hm
       obtain rfl := hfin1 _ rfl
       clear hm
       have hm : (rename_only.j3 x6 x7 : Option (List File)) = some _ := hmo1
       replace S : St g5 [c5] fr w := St.tail [c5] _ (S.frontC 0 rfl)
       exact ⟨x6, x7, v6, c5, g5, F.sub ⟨rfl, rfl, trivial⟩, l5, S, h6, hm⟩
    ·clear F S hm; rintro a w ⟨x3, x4, v3, c3, g4, F, l4, S, h3, hm⟩
     refine wp_seq ?_
     refine wp_region_lit ?_
     refine wE (ev_move rfl) F S rfl fun a F=>?_
     refine wE (ev_move rfl) F S rfl fun a F=>?_
     obtain ⟨z1, hz1, hm⟩ := bind_some hm
     obtain ⟨v4, hA1, he1⟩ := ev_cutA (P := Tryz.prog) (n := 42) (e := [(37, .i6 x3), (36, v3), (5, .i6 x3), (0, v3)]) (C := fun w => St g4 [c3] fr w) (x := .tmp 36) (lo := some (.tmp 37)) h3 hz1 tu22 ts80 rfl (bndV rfl)
     refine wE he1 F S rfl fun a F=>?_
     obtain ⟨y2, hy2, hm⟩ := bind_some hm
     refine wl_clearA (wn rfl) rfl tu22 te80 (fun g => (rep_File_mk (x := ({ Path := ByteArray.empty, Lines := [] } : File)) (RepSl.nil _))) F S rfl (j := 0) rfl h3 hA1 hy2 rfl ?_; clear S
     rintro c4 w h4 S; replace S : St g4 [c4] fr w := S
     refine wpList_nil ?_
     refine then_n ?_
     refine wp_seq ?_
     refine wp_region_lit ?_
     refine wE (ev_move rfl) F S rfl fun a F=>?_
     refine wE (ev_move rfl) F S rfl fun a F=>?_
     obtain ⟨y3, hy3, hm⟩ := bind_some hm
     refine wl_cutO (wn rfl) rfl h4 hy3 tu22 ts80 rfl (bnd0 _) (bndV rfl) F rfl rfl ?_; clear F a; rintro v5 h5 a F
     refine wE (ev_assign rfl) F S rfl fun a F=>?_
     refine wpList_nil ?_
     refine then_n ?_
     refine wp_ret ?_
     refine post_r _ F rfl (ar_cons (resT rfl) ar_nil) ?_
     exact ⟨_, rfl, ⟨y3, v5, c4, g4, rfl, (l3.trans l4), S, h5, hm⟩⟩
 ·clear F S hm; rintro _ a w ⟨x1, v2, c2, g2, rfl, l2, S, h2, hm⟩ F
  replace F := F.sub (e' := [(9, v2)]) ⟨rfl, trivial⟩
  refine wE (ev_assign rfl) F S rfl fun a F=>?_
  refine wpList_nil ?_
  refine then_n ?_
  refine wp_ret ?_
  obtain rfl := sinj hm
  refine post_r _ F rfl (ar_cons (resT rfl) ar_nil) ?_
  exact ⟨_, rfl, g2, v2, c2, (l1.trans l2), S, h2, rfl⟩

theorem diff_Distance_ok {g : Gh} {fr : Hl} {w : World} {r : Int × Fault} (a_ : (List ByteArray)) (va_1 : Value) (ha_1 : RepSl g a_ va_1) (b_ : (List ByteArray)) (vb_1 : Value) (hb_1 : RepSl g b_ vb_1) (S : St g [] fr w) (hm : diff_Distance a_ b_ = some r) :
  Calls Tryz.prog 138 [va_1, vb_1].toArray w (fun en w' => ∃ v, en = .returned v ∧ ∃ (g' : Gh), Le g g' ∧ St g' [] fr w' ∧ .tuple #[.i6 r.1, .agg #[.i6 r.2.Code, .i6 r.2.Index]] = v) := by
 unfold diff_Distance at hm
 refine calls_enter (fn := Tryz.f138) Tryz.func138 rfl Tryz.ntmps138 (lb rfl) ?_
 intro a F
 replace F : Fr 32 a [(0, va_1), (1, vb_1)] := F
 refine wp_seq ?_
 refine wp_region_lit ?_
 refine wE (ev_assign rfl) F S rfl fun a F=>?_
 refine wl_alloc (wn rfl) rfl tz30 (cs := [.i6 0, .i6 0]) rfl F S rfl rfl ?_; clear F a S; rintro b1 a w F S
 refine wpList_nil ?_
 refine then_n ?_
 refine wp_seq ?_
 refine wp_seq ?_
 refine wp_region_lit ?_
 refine wE (ev_move rfl) F S rfl fun a F=>?_
 refine wE (ev_move rfl) F S rfl fun a F=>?_
 obtain ⟨y1, hy1, hm⟩ := bind_some hm
 refine wl_call0 (wn rfl) rfl F rfl (lines_Both_ok (fr := (fl [[bx b1 #[.i6 0, .i6 0] 30]] fr)) a_ va_1 ha_1 b_ vb_1 hb_1 S hy1) rfl tc58 rfl rfl ?_; clear F a S
 rintro _ a w ⟨g1, l1, S, rfl⟩ F; replace S : St g1 [[bx b1 #[.i6 0, .i6 0] 30]] fr w := S
 refine wl_alloc (wn rfl) rfl tz30 (cs := [.i6 0, .i6 0]) rfl F S rfl rfl ?_; clear F a S; rintro b2 a w F S
 refine wl_storeC (wn rfl) rfl F S rfl rfl (vs := [.i6 y1.Code, .i6 y1.Index]) rfl ts30 (one_cons rfl (one_cons rfl one_nil)) (k := 0) rfl (lb rfl) (c' := #[.i6 y1.Code, .i6 y1.Index]) rfl rfl ?_; clear S; intro w S
 refine wpList_nil ?_
 refine then_n ?_
 refine wp_seq ?_
 refine wp_region_lit ?_
 refine wE (ev_loadA tu30 rfl (cs := [.i6 y1.Code, .i6 y1.Index]) ts30 rfl (box_ptr (cells := [.i6 y1.Code, .i6 y1.Index]) 0 rfl 0 rfl (lb rfl))) F S rfl fun a F=>?_
 refine wE (ev_build (parts := []) (vs := []) rfl (fun w => tb30_  w)) F S rfl fun a F=>?_
 refine wE (ev_neS tu30 tqa30 tqb30 tqc30 (xs := [.i6 y1.Code, .i6 y1.Index]) (ys := [.i6 0, .i6 0]) rfl rfl ⟨_, _, rfl, by decide, ⟨_, _, rfl, rfl, leaf_int tu3⟩, ⟨_, _, rfl, by decide, ⟨_, _, rfl, rfl, leaf_int tu3⟩, rfl⟩⟩) F S rfl fun a F=>?_
 refine wpList_nil ?_
 refine then_n ?_
 obtain ⟨hc1, hm⟩ | ⟨hc1, hm⟩ := ite_or hm
 ·refine wp_condT F rfl hc1 ?_
  refine wp_seq ?_
  refine wp_dv [] mo S ?_; clear S; intro ok1 w S
  refine dv_ev ok1 0 rfl (ev_loadA tu30 rfl (cs := [.i6 y1.Code, .i6 y1.Index]) ts30 rfl (box_ptr (cells := [.i6 y1.Code, .i6 y1.Index]) 0 rfl 0 rfl (lb rfl))) F S rfl fun a F=>?_
  refine dv_et ok1 1 rfl (ev_assign rfl) F rfl fun a F=>?_
  refine dv_op ok1 2 rfl [] ?_
  refine wl_storeC (wn rfl) rfl F S rfl rfl (vs := [.i6 y1.Code, .i6 y1.Index]) rfl ts30 (one_cons rfl (one_cons rfl one_nil)) (k := 1) rfl (lb rfl) (c' := #[.i6 y1.Code, .i6 y1.Index]) rfl rfl ?_; clear S; intro w S
  refine dv_nx trivial ?_
  refine dv_fin ok1 ?_
  refine then_n ?_
  refine wp_ret ?_
  refine then_r ?_
  obtain rfl := sinj hm
  refine post_r _ F rfl (ar_cons (resT rfl) (ar_cons (resA rfl tu30 rfl (box_ptr (cells := [.i6 y1.Code, .i6 y1.Index]) 1 rfl 0 rfl (lb rfl) w S) ts30) ar_nil)) ?_
  replace S : St g1 [] fr w := St.tail [] _ S
  exact ⟨_, rfl, g1, l1, S, rfl⟩
 ·refine wp_condF F rfl hc1 ?_
  refine wp_skip ?_
  refine then_n ?_
  refine wp_seq ?_
  refine wp_region_lit ?_
  refine wE (ev_assign rfl) F S rfl fun a F=>?_
  refine wpList_nil ?_
  refine then_n ?_
  refine wp_cut (fun a w => ∃ (x1 : Int) (g2 : Gh), Fr 32 a [(7, .i6 x1), (5, bp b1 0)] ∧ Le g1 g2 ∧ St g2 [[bx b1 #[.i6 0, .i6 0] 30]] fr w ∧ diff_Distance.j1 x1 = some r) ?_ ?_
  ·refine wp_seq ?_
   refine wp_region_lit ?_
   refine wE (ev_move rfl) F S rfl fun a F=>?_
   refine wE (ev_move rfl) F S rfl fun a F=>?_
   obtain ⟨y2, hy2, hm⟩ := bind_some hm
   refine wl_call0 (wn rfl) rfl F rfl (diff_Align_ok (fr := (fl [[bx b2 #[.i6 y1.Code, .i6 y1.Index] 30], [bx b1 #[.i6 0, .i6 0] 30]] fr)) a_ va_1 (ha_1.mono l1) b_ vb_1 (hb_1.mono l1) S hy2) rfl tc111 rfl rfl ?_; clear F a S
   rintro _ a w ⟨g3, v1, c1, l3, S, h1, rfl⟩ F; replace S : St g3 [c1, [bx b2 #[.i6 y1.Code, .i6 y1.Index] 30], [bx b1 #[.i6 0, .i6 0] 30]] fr w := S
   refine wE (ev_lenOw h1 rfl tu168) F S rfl fun a F=>?_
   refine wE (ev_move rfl) F S rfl fun a F=>?_
   refine wpList_nil ?_
   refine then_n ?_
   refine wp_block ?_
   obtain ⟨r1, hr1, hm⟩ := bind_some hm
   have hmo1 := hm; clear hm
   refine wp_iter (σ := Int × Int) (ρ := Int) (m := fun s => diff_Distance.l1 y2 s.1 s.2) (I := fun s a w => match s with | (x2, x3) => ∃ (g4 : Gh), Fr 32 a [(21, .i6 x2), (20, .i6 (y2.length : Int)), (19, v1), (7, .i6 x3), (5, bp b1 0)] ∧ Le g3 g4 ∧ St g4 [c1, [bx b1 #[.i6 0, .i6 0] 30]] fr w) hr1 ?_ ?_
   ·dsimp only
    replace S : St g3 [c1, [bx b1 #[.i6 0, .i6 0] 30]] fr w := St.tail [c1, [bx b1 #[.i6 0, .i6 0] 30]] _ ((S.frontC 2 rfl).frontC 1 rfl)
    exact ⟨g3, F.sub ⟨rfl, rfl, rfl, rfl, rfl, trivial⟩, (Le.refl _), S⟩
   ·clear F S; rintro ⟨x2, x3⟩ a w x4 ⟨g4, F, l4, S⟩ hx1 hfin1
    have hm : diff_Distance.l1 y2 x2 x3 = some x4 := hx1; clear hx1
    unfold diff_Distance.l1 at hm
    refine wp_seq ?_
    refine wp_region_lit ?_
    refine wE (ev_int rfl rfl (bo_lss _ _ _ _)) F S rfl fun a F=>?_
    refine wpList_nil ?_
    refine then_n ?_
    refine wp_seq ?_
    obtain ⟨hc2, hm⟩ | ⟨hc2, hm⟩ := ite_or hm
    ·refine wp_condT F rfl hc2 ?_
     refine wp_skip ?_
     refine then_n ?_
     refine wp_cut (fun a w => ∃ (x5 : Int) (g5 : Gh), Fr 32 a [(7, .i6 x5), (21, .i6 x2), (20, .i6 (y2.length : Int)), (19, v1), (5, bp b1 0)] ∧ Le g4 g5 ∧ St g5 [c1, [bx b1 #[.i6 0, .i6 0] 30]] fr w ∧ diff_Distance.j2 x2 x5 = some x4) ?_ ?_
     ·refine wp_block ?_
      refine wp_seq ?_
      refine wp_region_lit ?_
      obtain ⟨y3, hy3, hm⟩ := bind_some hm
      refine wE (ev_idxO (h1.mono l4) hy3 tu168 ts3 rfl rfl) F S rfl fun a F=>?_
      obtain ⟨cs1, hr2, hq1⟩ := elemO (h1.mono l4) hy3
      obtain rfl := rep_int hr2
      refine wE (ev_load1 tu3 rfl rfl (hq1 _ _ 0 rfl)) F S rfl fun a F=>?_
      refine wE (ev_assign rfl) F S rfl fun a F=>?_
      refine wpList_nil ?_
      refine then_n ?_
      refine wp_seq ?_
      refine wp_region_lit ?_
      refine wE (ev_move rfl) F S rfl fun a F=>?_
      refine wE (ev_int rfl rfl (bo_neq _ _ _ _)) F S rfl fun a F=>?_
      refine wpList_nil ?_
      refine then_n ?_
      obtain ⟨hc3, hm⟩ | ⟨hc3, hm⟩ := ite_or hm
      ·refine wp_condT F rfl hc3 ?_
       refine wp_region_lit ?_
       refine wE (ev_move rfl) F S rfl fun a F=>?_
       obtain ⟨z2, hz2, hm⟩ := bind_some hm
       refine wE (ev_int rfl rfl (bo_add hz2)) F S rfl fun a F=>?_
       refine wE (ev_assign rfl) F S rfl fun a F=>?_
       refine wpList_nil ?_
       refine inb_n ?_
       refine then_n ?_
       exact ⟨z2, g4, F.sub ⟨rfl, rfl, rfl, rfl, rfl, trivial⟩, (Le.refl _), S, hm⟩
      ·refine wp_condF F rfl hc3 ?_
       refine wp_skip ?_
       refine inb_n ?_
       refine then_n ?_
       exact ⟨x3, g4, F.sub ⟨rfl, rfl, rfl, rfl, rfl, trivial⟩, (Le.refl _), S, hm⟩
     ·clear F S hm; rintro a w ⟨x5, g5, F, l5, S, hm⟩
      refine wp_region_lit ?_
      obtain ⟨z1, hz1, hm⟩ := bind_some hm
      refine wE (ev_int rfl rfl (bo_add hz1)) F S rfl fun a F=>?_
      refine wE (ev_move rfl) F S rfl fun a F=>?_
      refine wpList_nil ?_
      refine then_n ?_
      obtain rfl := sinj hm
      refine ⟨_, rfl, ?_⟩
      dsimp only
      exact ⟨g5, F.sub ⟨rfl, rfl, rfl, rfl, rfl, trivial⟩, (l4.trans l5), S⟩
    ·refine wp_condF F rfl hc2 ?_
     refine wp_exit ?_
     refine then_e ?_
     refine then_e ?_
     refine inb_x ?_
     refine then_n ?_
     obtain rfl := sinj hm
     obtain rfl := hfin1 _ rfl
     clear hm
     have hm : (diff_Distance.j1 x3 : Option (Int × Fault)) = some _ := hmo1
     replace S : St g4 [[bx b1 #[.i6 0, .i6 0] 30]] fr w := St.tail [[bx b1 #[.i6 0, .i6 0] 30]] _ (S.frontC 1 rfl)
     exact ⟨x3, g4, F.sub ⟨rfl, rfl, trivial⟩, (l3.trans l4), S, hm⟩
  ·clear F S hm; rintro a w ⟨x1, g2, F, l2, S, hm⟩
   refine wp_seq ?_
   refine wp_region_lit ?_
   refine wE (ev_move rfl) F S rfl fun a F=>?_
   refine wE (ev_build (parts := []) (vs := []) rfl (fun w => tb30_  w)) F S rfl fun a F=>?_
   refine wE (ev_assign rfl) F S rfl fun a F=>?_
   refine wl_storeC (wn rfl) rfl F S rfl rfl (vs := [.i6 0, .i6 0]) rfl ts30 (one_cons rfl (one_cons rfl one_nil)) (k := 0) rfl (lb rfl) (c' := #[.i6 0, .i6 0]) rfl rfl ?_; clear S; intro w S
   refine wpList_nil ?_
   refine then_n ?_
   refine wp_ret ?_
   obtain rfl := sinj hm
   refine post_r _ F rfl (ar_cons (resT rfl) (ar_cons (resA rfl tu30 rfl (box_ptr (cells := [.i6 0, .i6 0]) 0 rfl 0 rfl (lb rfl) w S) ts30) ar_nil)) ?_
   replace S : St g2 [] fr w := St.tail [] _ S
   exact ⟨_, rfl, g2, (l1.trans l2), S, rfl⟩

theorem rename_Similarity_ok {g : Gh} {fr : Hl} {w : World} {r : Int × Fault} (a_ : (List ByteArray)) (va_1 : Value) (ha_1 : RepSl g a_ va_1) (b_ : (List ByteArray)) (vb_1 : Value) (hb_1 : RepSl g b_ vb_1) (S : St g [] fr w) (hm : rename_Similarity a_ b_ = some r) :
  Calls Tryz.prog 78 [va_1, vb_1].toArray w (fun en w' => ∃ v, en = .returned v ∧ ∃ (g' : Gh), Le g g' ∧ St g' [] fr w' ∧ .tuple #[.i6 r.1, .agg #[.i6 r.2.Code, .i6 r.2.Index]] = v) := by
 unfold rename_Similarity at hm
 refine calls_enter (fn := Tryz.f78) Tryz.func78 rfl Tryz.ntmps78 (lb rfl) ?_
 intro a F
 replace F : Fr 34 a [(0, va_1), (1, vb_1)] := F
 refine wp_seq ?_
 refine wp_region_lit ?_
 refine wE (ev_assign rfl) F S rfl fun a F=>?_
 refine wl_alloc (wn rfl) rfl tz30 (cs := [.i6 0, .i6 0]) rfl F S rfl rfl ?_; clear F a S; rintro b1 a w F S
 refine wpList_nil ?_
 refine then_n ?_
 refine wp_seq ?_
 refine wp_region_lit ?_
 refine wE (ev_move rfl) F S rfl fun a F=>?_
 refine wE (ev_move rfl) F S rfl fun a F=>?_
 obtain ⟨y1, hy1, hm⟩ := bind_some hm
 refine wl_call0 (wn rfl) rfl F rfl (diff_Distance_ok (fr := (fl [[bx b1 #[.i6 0, .i6 0] 30]] fr)) a_ va_1 ha_1 b_ vb_1 hb_1 S hy1) rfl tc138 rfl rfl ?_; clear F a S
 rintro _ a w ⟨g1, l1, S, rfl⟩ F; replace S : St g1 [[bx b1 #[.i6 0, .i6 0] 30]] fr w := S
 refine wE (ev_move rfl) F S rfl fun a F=>?_
 refine wE (ev_extract rfl rfl) F S rfl fun a F=>?_
 refine wE (ev_extract rfl rfl) F S rfl fun a F=>?_
 refine wl_alloc (wn rfl) rfl tz30 (cs := [.i6 0, .i6 0]) rfl F S rfl rfl ?_; clear F a S; rintro b2 a w F S
 refine wE (ev_assign rfl) F S rfl fun a F=>?_
 refine wl_storeC (wn rfl) rfl F S rfl rfl (vs := [.i6 y1.2.Code, .i6 y1.2.Index]) rfl ts30 (one_cons rfl (one_cons rfl one_nil)) (k := 0) rfl (lb rfl) (c' := #[.i6 y1.2.Code, .i6 y1.2.Index]) rfl rfl ?_; clear S; intro w S
 refine wpList_nil ?_
 refine then_n ?_
 refine wp_seq ?_
 refine wp_seq ?_
 refine wp_region_lit ?_
 refine wE (ev_loadA tu30 rfl (cs := [.i6 y1.2.Code, .i6 y1.2.Index]) ts30 rfl (box_ptr (cells := [.i6 y1.2.Code, .i6 y1.2.Index]) 0 rfl 0 rfl (lb rfl))) F S rfl fun a F=>?_
 refine wE (ev_build (parts := []) (vs := []) rfl (fun w => tb30_  w)) F S rfl fun a F=>?_
 refine wE (ev_neS tu30 tqa30 tqb30 tqc30 (xs := [.i6 y1.2.Code, .i6 y1.2.Index]) (ys := [.i6 0, .i6 0]) rfl rfl ⟨_, _, rfl, by decide, ⟨_, _, rfl, rfl, leaf_int tu3⟩, ⟨_, _, rfl, by decide, ⟨_, _, rfl, rfl, leaf_int tu3⟩, rfl⟩⟩) F S rfl fun a F=>?_
 refine wpList_nil ?_
 refine then_n ?_
 obtain ⟨hc1, hm⟩ | ⟨hc1, hm⟩ := ite_or hm
 ·refine wp_condT F rfl hc1 ?_
  refine wp_seq ?_
  refine wp_dv [] mo S ?_; clear S; intro ok1 w S
  refine dv_ev ok1 0 rfl (ev_loadA tu30 rfl (cs := [.i6 y1.2.Code, .i6 y1.2.Index]) ts30 rfl (box_ptr (cells := [.i6 y1.2.Code, .i6 y1.2.Index]) 0 rfl 0 rfl (lb rfl))) F S rfl fun a F=>?_
  refine dv_et ok1 1 rfl (ev_assign rfl) F rfl fun a F=>?_
  refine dv_op ok1 2 rfl [] ?_
  refine wl_storeC (wn rfl) rfl F S rfl rfl (vs := [.i6 y1.2.Code, .i6 y1.2.Index]) rfl ts30 (one_cons rfl (one_cons rfl one_nil)) (k := 1) rfl (lb rfl) (c' := #[.i6 y1.2.Code, .i6 y1.2.Index]) rfl rfl ?_; clear S; intro w S
  refine dv_nx trivial ?_
  refine dv_fin ok1 ?_
  refine then_n ?_
  refine wp_ret ?_
  refine then_r ?_
  obtain rfl := sinj hm
  refine post_r _ F rfl (ar_cons (resT rfl) (ar_cons (resA rfl tu30 rfl (box_ptr (cells := [.i6 y1.2.Code, .i6 y1.2.Index]) 1 rfl 0 rfl (lb rfl) w S) ts30) ar_nil)) ?_
  replace S : St g1 [] fr w := St.tail [] _ S
  exact ⟨_, rfl, g1, l1, S, rfl⟩
 ·refine wp_condF F rfl hc1 ?_
  refine wp_skip ?_
  refine then_n ?_
  refine wp_seq ?_
  refine wp_region_lit ?_
  refine wE (ev_move rfl) F S rfl fun a F=>?_
  refine wE (ev_lenSh ha_1 rfl tu42) F S rfl fun a F=>?_
  refine wE (ev_move rfl) F S rfl fun a F=>?_
  refine wE (ev_lenSh hb_1 rfl tu42) F S rfl fun a F=>?_
  obtain ⟨z1, hz1, hm⟩ := bind_some hm
  refine wE (ev_int rfl rfl (bo_add hz1)) F S rfl fun a F=>?_
  refine wE (ev_assign rfl) F S rfl fun a F=>?_
  refine wpList_nil ?_
  refine then_n ?_
  refine wp_seq ?_
  refine wp_seq ?_
  refine wp_region_lit ?_
  refine wE (ev_move rfl) F S rfl fun a F=>?_
  refine wE (ev_int rfl rfl (bo_eql _ _ _ _)) F S rfl fun a F=>?_
  refine wpList_nil ?_
  refine then_n ?_
  obtain ⟨hc2, hm⟩ | ⟨hc2, hm⟩ := ite_or hm
  ·refine wp_condT F rfl hc2 ?_
   refine wp_seq ?_
   refine wp_region_lit ?_
   refine wE (ev_build (parts := []) (vs := []) rfl (fun w => tb30_  w)) F S rfl fun a F=>?_
   refine wE (ev_assign rfl) F S rfl fun a F=>?_
   refine wl_storeC (wn rfl) rfl F S rfl rfl (vs := [.i6 0, .i6 0]) rfl ts30 (one_cons rfl (one_cons rfl one_nil)) (k := 1) rfl (lb rfl) (c' := #[.i6 0, .i6 0]) rfl rfl ?_; clear S; intro w S
   refine wpList_nil ?_
   refine then_n ?_
   refine wp_ret ?_
   refine then_r ?_
   obtain rfl := sinj hm
   refine post_r _ F rfl (ar_cons (resT rfl) (ar_cons (resA rfl tu30 rfl (box_ptr (cells := [.i6 0, .i6 0]) 1 rfl 0 rfl (lb rfl) w S) ts30) ar_nil)) ?_
   replace S : St g1 [] fr w := St.tail [] _ S
   exact ⟨_, rfl, g1, l1, S, rfl⟩
  ·refine wp_condF F rfl hc2 ?_
   refine wp_skip ?_
   refine then_n ?_
   refine wp_seq ?_
   refine wp_region_lit ?_
   refine wE (ev_move rfl) F S rfl fun a F=>?_
   refine wE (ev_move rfl) F S rfl fun a F=>?_
   obtain ⟨z2, hz2, hm⟩ := bind_some hm
   refine wE (ev_int rfl rfl (bo_sub hz2)) F S rfl fun a F=>?_
   obtain ⟨z3, hz3, hm⟩ := bind_some hm
   refine wE (ev_int rfl rfl (bo_mul hz3)) F S rfl fun a F=>?_
   refine wE (ev_move rfl) F S rfl fun a F=>?_
   obtain ⟨z4, hz4, hm⟩ := bind_some hm
   refine wE (ev_int rfl rfl (bo_quo hz4)) F S rfl fun a F=>?_
   refine wE (ev_build (parts := []) (vs := []) rfl (fun w => tb30_  w)) F S rfl fun a F=>?_
   refine wE (ev_assign rfl) F S rfl fun a F=>?_
   refine wl_storeC (wn rfl) rfl F S rfl rfl (vs := [.i6 0, .i6 0]) rfl ts30 (one_cons rfl (one_cons rfl one_nil)) (k := 1) rfl (lb rfl) (c' := #[.i6 0, .i6 0]) rfl rfl ?_; clear S; intro w S
   refine wpList_nil ?_
   refine then_n ?_
   refine wp_ret ?_
   obtain rfl := sinj hm
   refine post_r _ F rfl (ar_cons (resT rfl) (ar_cons (resA rfl tu30 rfl (box_ptr (cells := [.i6 0, .i6 0]) 1 rfl 0 rfl (lb rfl) w S) ts30) ar_nil)) ?_
   replace S : St g1 [] fr w := St.tail [] _ S
   exact ⟨_, rfl, g1, l1, S, rfl⟩

theorem cmp_Or_ok {g : Gh} {fr : Hl} {w : World} {r : Int} (vals : (List Int)) (vvals1 : Value) (hvals1 : RepSl g vals vvals1) (S : St g [] fr w) (hm : cmp_Or vals = some r) :
  Calls Tryz.prog 81 [vvals1].toArray w (fun en w' => ∃ v, en = .returned v ∧ ∃ (g' : Gh), Le g g' ∧ St g' [] fr w' ∧ .i6 r = v) := by
 unfold cmp_Or at hm
 refine calls_enter (fn := Tryz.f81) Tryz.func81 rfl Tryz.ntmps81 (lb rfl) ?_
 intro a F
 replace F : Fr 18 a [(0, vvals1)] := F
 refine wp_seq ?_
 refine wp_region_lit ?_
 refine wE (ev_assign rfl) F S rfl fun a F=>?_
 refine wpList_nil ?_
 refine then_n ?_
 refine wp_seq ?_
 refine wp_region_lit ?_
 refine wE (ev_assign rfl) F S rfl fun a F=>?_
 refine wpList_nil ?_
 refine then_n ?_
 refine wp_cut (fun a w => ∃ (g1 : Gh), Fr 18 a [(3, .i6 0)] ∧ Le g g1 ∧ St g1 [] fr w ∧ cmp_Or.j1 = some r) ?_ ?_
 ·refine wp_seq ?_
  refine wp_region_lit ?_
  refine wE (ev_move rfl) F S rfl fun a F=>?_
  refine wE (ev_lenSh hvals1 rfl tu168) F S rfl fun a F=>?_
  refine wE (ev_move rfl) F S rfl fun a F=>?_
  refine wpList_nil ?_
  refine then_n ?_
  refine wp_block ?_
  obtain ⟨r1, hr1, hm⟩ := bind_some hm
  have hmo1 := hm; clear hm
  refine wp_iter (σ := Int) (ρ := Int ⊕ Unit) (m := fun s => cmp_Or.l1 vals s) (I := fun x1 a w => ∃ (g2 : Gh), Fr 18 a [(8, .i6 x1), (7, .i6 (vals.length : Int)), (6, vvals1), (3, .i6 0)] ∧ Le g g2 ∧ St g2 [] fr w) hr1 ?_ ?_
  ·exact ⟨g, F.sub ⟨rfl, rfl, rfl, rfl, trivial⟩, (Le.refl _), S⟩
  ·clear F S; rintro x1 a w x2 ⟨g2, F, l2, S⟩ hx1 hfin1
   have hm : cmp_Or.l1 vals x1 = some x2 := hx1; clear hx1
   unfold cmp_Or.l1 at hm
   refine wp_seq ?_
   refine wp_region_lit ?_
   refine wE (ev_int rfl rfl (bo_lss _ _ _ _)) F S rfl fun a F=>?_
   refine wpList_nil ?_
   refine then_n ?_
   refine wp_seq ?_
   obtain ⟨hc1, hm⟩ | ⟨hc1, hm⟩ := ite_or hm
   ·refine wp_condT F rfl hc1 ?_
    refine wp_skip ?_
    refine then_n ?_
    refine wp_seq ?_
    refine wp_block ?_
    refine wp_seq ?_
    refine wp_region_lit ?_
    obtain ⟨y1, hy1, hm⟩ := bind_some hm
    obtain ⟨cs1, hr2, hp1⟩ := elemS (hvals1.mono l2) hy1
    obtain rfl := rep_int hr2
    refine wE (ev_idxS (hvals1.mono l2) hy1 tu168 ts3 rfl rfl) F S rfl fun a F=>?_
    refine wE (ev_load1 tu3 rfl rfl (ptr_mono (cks := []) (fr := fr) hp1 (Le.refl _))) F S rfl fun a F=>?_
    refine wE (ev_assign rfl) F S rfl fun a F=>?_
    refine wpList_nil ?_
    refine then_n ?_
    refine wp_seq ?_
    refine wp_region_lit ?_
    refine wE (ev_move rfl) F S rfl fun a F=>?_
    refine wE (ev_move rfl) F S rfl fun a F=>?_
    refine wE (ev_int rfl rfl (bo_neq _ _ _ _)) F S rfl fun a F=>?_
    refine wpList_nil ?_
    refine then_n ?_
    obtain ⟨hc2, hm⟩ | ⟨hc2, hm⟩ := ite_or hm
    ·refine wp_condT F rfl hc2 ?_
     refine wp_seq ?_
     refine wp_region_lit ?_
     refine wE (ev_move rfl) F S rfl fun a F=>?_
     refine wE (ev_assign rfl) F S rfl fun a F=>?_
     refine wpList_nil ?_
     refine then_n ?_
     refine wp_ret ?_
     refine inb_r ?_
     refine then_r ?_
     refine then_r ?_
     refine inb_r ?_
     refine then_r ?_
     obtain rfl := sinj hm
     obtain rfl := hfin1 _ rfl
     clear hm
     have hm : (some y1 : Option Int) = some _ := hmo1
     obtain rfl := sinj hm
     refine post_r _ F rfl (ar_cons (resT rfl) ar_nil) ?_
     exact ⟨_, rfl, g2, l2, S, rfl⟩
    ·refine wp_condF F rfl hc2 ?_
     refine wp_skip ?_
     refine inb_n ?_
     refine then_n ?_
     refine wp_region_lit ?_
     obtain ⟨z1, hz1, hm⟩ := bind_some hm
     refine wE (ev_int rfl rfl (bo_add hz1)) F S rfl fun a F=>?_
     refine wE (ev_move rfl) F S rfl fun a F=>?_
     refine wpList_nil ?_
     refine then_n ?_
     obtain rfl := sinj hm
     refine ⟨_, rfl, ?_⟩
     exact ⟨g2, F.sub ⟨rfl, rfl, rfl, rfl, trivial⟩, l2, S⟩
   ·refine wp_condF F rfl hc1 ?_
    refine wp_exit ?_
    refine then_e ?_
    refine then_e ?_
    refine inb_x ?_
    refine then_n ?_
    obtain rfl := sinj hm
    obtain rfl := hfin1 _ rfl
    clear hm
    have hm : (cmp_Or.j1 : Option Int) = some _ := hmo1
    exact ⟨g2, F.sub ⟨rfl, trivial⟩, l2, S, hm⟩
 ·clear F S hm; rintro a w ⟨g1, F, l1, S, hm⟩
  refine wp_seq ?_
  refine wp_region_lit ?_
  refine wE (ev_move rfl) F S rfl fun a F=>?_
  refine wE (ev_assign rfl) F S rfl fun a F=>?_
  refine wpList_nil ?_
  refine then_n ?_
  refine wp_ret ?_
  obtain rfl := sinj hm
  refine post_r _ F rfl (ar_cons (resT rfl) ar_nil) ?_
  exact ⟨_, rfl, g1, l1, S, rfl⟩

theorem cmp_Compare_ok {g : Gh} {fr : Hl} {w : World} {r : Int} (x_ : ByteArray) (y : ByteArray) (S : St g [] fr w) (hm : cmp_Compare x_ y = some r) :
  Calls Tryz.prog 82 [.string x_, .string y].toArray w (fun en w' => ∃ v, en = .returned v ∧ ∃ (g' : Gh), Le g g' ∧ St g' [] fr w' ∧ .i6 r = v) := by
 unfold cmp_Compare at hm
 refine calls_enter (fn := Tryz.f82) Tryz.func82 rfl Tryz.ntmps82 (lb rfl) ?_
 intro a F
 replace F : Fr 20 a [(0, .string x_), (1, .string y)] := F
 refine wp_seq ?_
 refine wp_region_lit ?_
 refine wE (ev_assign rfl) F S rfl fun a F=>?_
 refine wpList_nil ?_
 refine then_n ?_
 refine wp_seq ?_
 refine wp_region_lit ?_
 refine wE (ev_move rfl) F S rfl fun a F=>?_
 obtain ⟨y1, hy1, hm⟩ := bind_some hm
 refine wl_call0 (wn rfl) rfl F rfl (cmp_isNaN_ok x_ S hy1) rfl tc141 rfl rfl ?_; clear F a S
 rintro _ a w ⟨g1, l1, S, rfl⟩ F; replace S : St g1 [] fr w := S
 refine wE (ev_assign rfl) F S rfl fun a F=>?_
 refine wpList_nil ?_
 refine then_n ?_
 refine wp_seq ?_
 refine wp_region_lit ?_
 refine wE (ev_move rfl) F S rfl fun a F=>?_
 obtain ⟨y2, hy2, hm⟩ := bind_some hm
 refine wl_call0 (wn rfl) rfl F rfl (cmp_isNaN_ok y S hy2) rfl tc141 rfl rfl ?_; clear F a S
 rintro _ a w ⟨g2, l2, S, rfl⟩ F; replace S : St g2 [] fr w := S
 refine wE (ev_assign rfl) F S rfl fun a F=>?_
 refine wpList_nil ?_
 refine then_n ?_
 refine wp_seq ?_
 refine wp_seq ?_
 refine wp_region_lit ?_
 refine wE (ev_move rfl) F S rfl fun a F=>?_
 refine wpList_nil ?_
 refine then_n ?_
 obtain ⟨hc1, hm⟩ | ⟨hc1, hm⟩ := ite_or hm
 ·refine wp_condT F rfl hc1 ?_
  refine wp_seq ?_
  refine wp_seq ?_
  refine wp_region_lit ?_
  refine wE (ev_move rfl) F S rfl fun a F=>?_
  refine wpList_nil ?_
  refine then_n ?_
  obtain ⟨hc2, hm⟩ | ⟨hc2, hm⟩ := ite_or hm
  ·refine wp_condT F rfl hc2 ?_
   refine wp_seq ?_
   refine wp_region_lit ?_
   refine wE (ev_assign rfl) F S rfl fun a F=>?_
   refine wpList_nil ?_
   refine then_n ?_
   refine wp_ret ?_
   refine then_r ?_
   refine then_r ?_
   obtain rfl := sinj hm
   refine post_r _ F rfl (ar_cons (resT rfl) ar_nil) ?_
   exact ⟨_, rfl, g2, (l1.trans l2), S, rfl⟩
  ·refine wp_condF F rfl hc2 ?_
   refine wp_skip ?_
   refine then_n ?_
   refine wp_seq ?_
   refine wp_region_lit ?_
   refine wE (ev_assign rfl) F S rfl fun a F=>?_
   refine wpList_nil ?_
   refine then_n ?_
   refine wp_ret ?_
   refine then_r ?_
   obtain rfl := sinj hm
   refine post_r _ F rfl (ar_cons (resT rfl) ar_nil) ?_
   exact ⟨_, rfl, g2, (l1.trans l2), S, rfl⟩
 ·refine wp_condF F rfl hc1 ?_
  refine wp_skip ?_
  refine then_n ?_
  refine wp_seq ?_
  refine wp_seq ?_
  refine wp_region_lit ?_
  refine wE (ev_move rfl) F S rfl fun a F=>?_
  refine wpList_nil ?_
  refine then_n ?_
  obtain ⟨hc3, hm⟩ | ⟨hc3, hm⟩ := ite_or hm
  ·refine wp_condT F rfl hc3 ?_
   refine wp_seq ?_
   refine wp_region_lit ?_
   refine wE (ev_assign rfl) F S rfl fun a F=>?_
   refine wpList_nil ?_
   refine then_n ?_
   refine wp_ret ?_
   refine then_r ?_
   obtain rfl := sinj hm
   refine post_r _ F rfl (ar_cons (resT rfl) ar_nil) ?_
   exact ⟨_, rfl, g2, (l1.trans l2), S, rfl⟩
  ·refine wp_condF F rfl hc3 ?_
   refine wp_skip ?_
   refine then_n ?_
   refine wp_seq ?_
   refine wp_seq ?_
   refine wp_region_lit ?_
   refine wE (ev_move rfl) F S rfl fun a F=>?_
   refine wE (ev_move rfl) F S rfl fun a F=>?_
   refine wE (ev_str rfl rfl (bs_lss _ _ _)) F S rfl fun a F=>?_
   refine wpList_nil ?_
   refine then_n ?_
   obtain ⟨hc4, hm⟩ | ⟨hc4, hm⟩ := ite_or hm
   ·refine wp_condT F rfl hc4 ?_
    refine wp_seq ?_
    refine wp_region_lit ?_
    refine wE (ev_assign rfl) F S rfl fun a F=>?_
    refine wpList_nil ?_
    refine then_n ?_
    refine wp_ret ?_
    refine then_r ?_
    obtain rfl := sinj hm
    refine post_r _ F rfl (ar_cons (resT rfl) ar_nil) ?_
    exact ⟨_, rfl, g2, (l1.trans l2), S, rfl⟩
   ·refine wp_condF F rfl hc4 ?_
    refine wp_skip ?_
    refine then_n ?_
    refine wp_seq ?_
    refine wp_seq ?_
    refine wp_region_lit ?_
    refine wE (ev_move rfl) F S rfl fun a F=>?_
    refine wE (ev_move rfl) F S rfl fun a F=>?_
    refine wE (ev_str rfl rfl (bs_gtr _ _ _)) F S rfl fun a F=>?_
    refine wpList_nil ?_
    refine then_n ?_
    obtain ⟨hc5, hm⟩ | ⟨hc5, hm⟩ := ite_or hm
    ·refine wp_condT F rfl hc5 ?_
     refine wp_seq ?_
     refine wp_region_lit ?_
     refine wE (ev_assign rfl) F S rfl fun a F=>?_
     refine wpList_nil ?_
     refine then_n ?_
     refine wp_ret ?_
     refine then_r ?_
     obtain rfl := sinj hm
     refine post_r _ F rfl (ar_cons (resT rfl) ar_nil) ?_
     exact ⟨_, rfl, g2, (l1.trans l2), S, rfl⟩
    ·refine wp_condF F rfl hc5 ?_
     refine wp_skip ?_
     refine then_n ?_
     refine wp_seq ?_
     refine wp_region_lit ?_
     refine wE (ev_assign rfl) F S rfl fun a F=>?_
     refine wpList_nil ?_
     refine then_n ?_
     refine wp_ret ?_
     obtain rfl := sinj hm
     refine post_r _ F rfl (ar_cons (resT rfl) ar_nil) ?_
     exact ⟨_, rfl, g2, (l1.trans l2), S, rfl⟩

theorem rename_Detect_s1_ok {g : Gh} {fr : Hl} {w : World} {r : Int} (a_ : Pair_rename) (b_ : Pair_rename) (S : St g [] fr w) (hm : rename_Detect_s1 a_ b_ = some r) :
  Calls Tryz.prog 80 [.agg #[.string a_.old_, .string a_.newer, .i6 a_.percent], .agg #[.string b_.old_, .string b_.newer, .i6 b_.percent]].toArray w (fun en w' => ∃ v, en = .returned v ∧ ∃ (g' : Gh), Le g g' ∧ St g' [] fr w' ∧ .i6 r = v) := by
 unfold rename_Detect_s1 at hm
 refine calls_enter (fn := Tryz.f80) Tryz.func80 rfl Tryz.ntmps80 (lb rfl) ?_
 intro a F
 replace F : Fr 22 a [(0, .agg #[.string a_.old_, .string a_.newer, .i6 a_.percent]), (1, .agg #[.string b_.old_, .string b_.newer, .i6 b_.percent])] := F
 refine wp_seq ?_
 refine wp_region_lit ?_
 refine wl_boxC (wn rfl) rfl rfl rfl F S rfl rfl ?_; clear F a S; rintro b1 a w F S
 refine wl_boxC (wn rfl) rfl rfl rfl F S rfl rfl ?_; clear F a S; rintro b2 a w F S
 refine wE (ev_assign rfl) F S rfl fun a F=>?_
 refine wpList_nil ?_
 refine then_n ?_
 refine wp_seq ?_
 refine wp_dv [] mo S ?_; clear S; intro ok1 w S
 refine dv_et ok1 0 rfl (ev_fieldAddr' tu135 tf135_2 (z := 0) ts3 rfl ⟨_, rfl⟩ rfl) F rfl fun a F=>?_
 refine dv_ev ok1 1 rfl (ev_load1 tu3 rfl rfl (box_ptr (cells := [.i6 b_.percent]) 0 rfl 2 rfl (lb rfl))) F S rfl fun a F=>?_
 refine dv_et ok1 2 rfl (ev_fieldAddr' tu135 tf135_2 (z := 0) ts3 rfl ⟨_, rfl⟩ rfl) F rfl fun a F=>?_
 refine dv_ev ok1 3 rfl (ev_load1 tu3 rfl rfl (box_ptr (cells := [.i6 a_.percent]) 1 rfl 2 rfl (lb rfl))) F S rfl fun a F=>?_
 obtain ⟨z1, hz1, hm⟩ := bind_some hm
 refine dv_et ok1 4 rfl (ev_int rfl rfl (bo_sub hz1)) F rfl fun a F=>?_
 refine dv_et ok1 5 rfl (ev_fieldAddr' tu135 tf135_0 (z := 0) ts9 rfl ⟨_, rfl⟩ rfl) F rfl fun a F=>?_
 refine dv_ev ok1 6 rfl (ev_load1 tu9 rfl rfl (box_ptr (cells := [.string a_.old_]) 1 rfl 0 rfl (lb rfl))) F S rfl fun a F=>?_
 refine dv_et ok1 7 rfl (ev_fieldAddr' tu135 tf135_0 (z := 0) ts9 rfl ⟨_, rfl⟩ rfl) F rfl fun a F=>?_
 refine dv_ev ok1 8 rfl (ev_load1 tu9 rfl rfl (box_ptr (cells := [.string b_.old_]) 0 rfl 0 rfl (lb rfl))) F S rfl fun a F=>?_
 refine dv_et ok1 10 rfl (ev_fieldAddr' tu135 tf135_1 (z := 0) ts9 rfl ⟨_, rfl⟩ rfl) F rfl fun a F=>?_
 refine dv_ev ok1 11 rfl (ev_load1 tu9 rfl rfl (box_ptr (cells := [.string a_.newer]) 1 rfl 1 rfl (lb rfl))) F S rfl fun a F=>?_
 refine dv_et ok1 12 rfl (ev_fieldAddr' tu135 tf135_1 (z := 0) ts9 rfl ⟨_, rfl⟩ rfl) F rfl fun a F=>?_
 refine dv_ev ok1 13 rfl (ev_load1 tu9 rfl rfl (box_ptr (cells := [.string b_.newer]) 0 rfl 1 rfl (lb rfl))) F S rfl fun a F=>?_
 refine dv_op ok1 9 rfl [(13, .string b_.newer), (11, .string a_.newer), (3, .i6 a_.percent), (1, .i6 b_.percent)] ?_
 obtain ⟨y1, hy1, hm⟩ := bind_some hm
 refine wl_call0 (wn rfl) rfl F rfl (cmp_Compare_ok (fr := (fl [[bx b2 #[.string b_.old_, .string b_.newer, .i6 b_.percent] 135], [bx b1 #[.string a_.old_, .string a_.newer, .i6 a_.percent] 135]] fr)) a_.old_ b_.old_ S hy1) rfl tc82 rfl rfl ?_; clear F a S
 rintro _ a w ⟨g1, l1, S, rfl⟩ F; replace S : St g1 [[bx b2 #[.string b_.old_, .string b_.newer, .i6 b_.percent] 135], [bx b1 #[.string a_.old_, .string a_.newer, .i6 a_.percent] 135]] fr w := S
 refine dv_nx ⟨yl_ev rfl rfl (ev_load1 tu9 rfl rfl (box_ptr (cells := [.string b_.newer]) 0 rfl 1 rfl (lb rfl))) F S, yl_ev rfl rfl (ev_load1 tu9 rfl rfl (box_ptr (cells := [.string a_.newer]) 1 rfl 1 rfl (lb rfl))) F S, yl_ev rfl rfl (ev_load1 tu3 rfl rfl (box_ptr (cells := [.i6 a_.percent]) 1 rfl 2 rfl (lb rfl))) F S, yl_ev rfl rfl (ev_load1 tu3 rfl rfl (box_ptr (cells := [.i6 b_.percent]) 0 rfl 2 rfl (lb rfl))) F S, trivial⟩ ?_
 refine dv_op ok1 14 rfl [(3, .i6 a_.percent), (1, .i6 b_.percent)] ?_
 obtain ⟨y2, hy2, hm⟩ := bind_some hm
 refine wl_call0 (wn rfl) rfl F rfl (cmp_Compare_ok (fr := (fl [[bx b2 #[.string b_.old_, .string b_.newer, .i6 b_.percent] 135], [bx b1 #[.string a_.old_, .string a_.newer, .i6 a_.percent] 135]] fr)) a_.newer b_.newer S hy2) rfl tc82 rfl rfl ?_; clear F a S
 rintro _ a w ⟨g2, l2, S, rfl⟩ F; replace S : St g2 [[bx b2 #[.string b_.old_, .string b_.newer, .i6 b_.percent] 135], [bx b1 #[.string a_.old_, .string a_.newer, .i6 a_.percent] 135]] fr w := S
 refine dv_nx ⟨yl_ev rfl rfl (ev_load1 tu3 rfl rfl (box_ptr (cells := [.i6 a_.percent]) 1 rfl 2 rfl (lb rfl))) F S, yl_ev rfl rfl (ev_load1 tu3 rfl rfl (box_ptr (cells := [.i6 b_.percent]) 0 rfl 2 rfl (lb rfl))) F S, trivial⟩ ?_
 refine dv_op ok1 15 rfl [] ?_
 refine wl_lit (l := ([z1, y1, y2] : List Int)) (vs := [.i6 z1, .i6 y1, .i6 y2]) (parts := [(0, .tmp 9), (1, .tmp 14), (2, .tmp 19)]) (wn rfl) rfl rfl rfl tu168 te3 (sz_cons rfl (sz_cons rfl (sz_cons rfl sz_nil))) rfl (Cat.cons (show Rep.rep _ z1 _ from rfl) (Cat.cons (show Rep.rep _ y1 _ from rfl) (Cat.cons (show Rep.rep _ y2 _ from rfl) (Cat.nil _)))) (coa_cons rfl (coa_cons rfl (coa_cons rfl coa_nil))) rfl F S rfl rfl ?_; clear F a S
 rintro v1 c1 a w h1 F S
 refine dv_nx trivial ?_
 refine dv_op ok1 16 rfl [] ?_
 obtain ⟨g3, l3, S, h2⟩ : ∃ gz, Le g2 gz ∧ St gz [[bx b2 #[.string b_.old_, .string b_.newer, .i6 b_.percent] 135], [bx b1 #[.string a_.old_, .string a_.newer, .i6 a_.percent] 135]] fr w ∧ RepSl gz ([z1, y1, y2] : List Int) v1 := ⟨_, Le.add _ _, S.freeze 0 rfl, OwnS.freeze (S.front 0 rfl) h1⟩
 obtain ⟨y3, hy3, hm⟩ := bind_some hm
 refine wl_call0 (wn rfl) rfl F rfl (cmp_Or_ok (fr := (fl [[bx b2 #[.string b_.old_, .string b_.newer, .i6 b_.percent] 135], [bx b1 #[.string a_.old_, .string a_.newer, .i6 a_.percent] 135]] fr)) ([z1, y1, y2] : List Int) v1 h2 S hy3) rfl tc81 rfl rfl ?_; clear F a S
 rintro _ a w ⟨g4, l4, S, rfl⟩ F; replace S : St g4 [[bx b2 #[.string b_.old_, .string b_.newer, .i6 b_.percent] 135], [bx b1 #[.string a_.old_, .string a_.newer, .i6 a_.percent] 135]] fr w := S
 refine dv_nx trivial ?_
 refine dv_et ok1 17 rfl (ev_assign rfl) F rfl fun a F=>?_
 refine dv_fin ok1 ?_
 refine then_n ?_
 refine wp_ret ?_
 obtain rfl := sinj hm
 refine post_r _ F rfl (ar_cons (resT rfl) ar_nil) ?_
 replace S : St g4 [] fr w := St.tail [] _ S
 exact ⟨_, rfl, g4, (((l1.trans l2).trans l3).trans l4), S, rfl⟩

theorem rename_Detect_s3_ok {g : Gh} {fr : Hl} {w : World} {r : Int} (a_ : Arr2_ByteArray) (b_ : Arr2_ByteArray) (S : St g [] fr w) (hm : rename_Detect_s3 a_ b_ = some r) :
  Calls Tryz.prog 86 [.agg #[.string a_.e0, .string a_.e1], .agg #[.string b_.e0, .string b_.e1]].toArray w (fun en w' => ∃ v, en = .returned v ∧ ∃ (g' : Gh), Le g g' ∧ St g' [] fr w' ∧ .i6 r = v) := by
 unfold rename_Detect_s3 at hm
 refine calls_enter (fn := Tryz.f86) Tryz.func86 rfl Tryz.ntmps86 (lb rfl) ?_
 intro a F
 replace F : Fr 10 a [(0, .agg #[.string a_.e0, .string a_.e1]), (1, .agg #[.string b_.e0, .string b_.e1])] := F
 refine wp_seq ?_
 refine wp_region_lit ?_
 refine wl_boxC (wn rfl) rfl rfl rfl F S rfl rfl ?_; clear F a S; rintro b1 a w F S
 refine wl_boxC (wn rfl) rfl rfl rfl F S rfl rfl ?_; clear F a S; rintro b2 a w F S
 refine wE (ev_assign rfl) F S rfl fun a F=>?_
 refine wpList_nil ?_
 refine then_n ?_
 refine wp_seq ?_
 refine wp_region_lit ?_
 refine wE (ev_idxBox tu67 ts9 (by decide) (off' := 0) rfl rfl rfl) F S rfl fun a F=>?_
 refine wE (ev_load1 tu9 rfl rfl (box_ptr (cells := [.string a_.e0]) 1 rfl 0 rfl (lb rfl))) F S rfl fun a F=>?_
 refine wE (ev_idxBox tu67 ts9 (by decide) (off' := 0) rfl rfl rfl) F S rfl fun a F=>?_
 refine wE (ev_load1 tu9 rfl rfl (box_ptr (cells := [.string b_.e0]) 0 rfl 0 rfl (lb rfl))) F S rfl fun a F=>?_
 obtain ⟨y1, hy1, hm⟩ := bind_some hm
 refine wl_call0 (wn rfl) rfl F rfl (cmp_Compare_ok (fr := (fl [[bx b2 #[.string b_.e0, .string b_.e1] 67], [bx b1 #[.string a_.e0, .string a_.e1] 67]] fr)) a_.e0 b_.e0 S hy1) rfl tc82 rfl rfl ?_; clear F a S
 rintro _ a w ⟨g1, l1, S, rfl⟩ F; replace S : St g1 [[bx b2 #[.string b_.e0, .string b_.e1] 67], [bx b1 #[.string a_.e0, .string a_.e1] 67]] fr w := S
 refine wE (ev_assign rfl) F S rfl fun a F=>?_
 refine wpList_nil ?_
 refine then_n ?_
 refine wp_ret ?_
 obtain rfl := sinj hm
 refine post_r _ F rfl (ar_cons (resT rfl) ar_nil) ?_
 replace S : St g1 [] fr w := St.tail [] _ S
 exact ⟨_, rfl, g1, l1, S, rfl⟩

theorem rename_Detect_ok {g : Gh} {fr : Hl} {w : World} {r : (List Arr2_ByteArray) × Fault} (old_ : FileTree) (vold_1 : Value) (hold_1 : RepSl g old_.Files vold_1) (newer : FileTree) (vnewer1 : Value) (hnewer1 : RepSl g newer.Files vnewer1) (percent : Int) (S : St g [] fr w) (hm : rename_Detect old_ newer percent = some r) :
  Calls Tryz.prog 28 [.agg #[vold_1], .agg #[vnewer1], .i6 percent].toArray w (fun en w' => ∃ v, en = .returned v ∧ ∃ (g' : Gh) (v1 : Value) (c1 : Hl), Le g g' ∧ St g' [c1] fr w' ∧ OwnS g' r.1 v1 c1 ∧ .tuple #[v1, .agg #[.i6 r.2.Code, .i6 r.2.Index]] = v) := by
 unfold rename_Detect at hm
 refine calls_enter (fn := Tryz.f28) Tryz.func28 rfl Tryz.ntmps28 (lb rfl) ?_
 intro a F
 replace F : Fr 104 a [(0, .agg #[vold_1]), (1, .agg #[vnewer1]), (2, .i6 percent)] := F
 refine wp_seq ?_
 refine wp_region_lit ?_
 refine wl_boxC (wn rfl) rfl rfl rfl F S rfl rfl ?_; clear F a S; rintro b1 a w F S
 refine wl_boxC (wn rfl) rfl rfl rfl F S rfl rfl ?_; clear F a S; rintro b2 a w F S
 refine wE (ev_assign rfl) F S rfl fun a F=>?_
 refine wl_alloc (wn rfl) rfl tz30 (cs := [.i6 0, .i6 0]) rfl F S rfl rfl ?_; clear F a S; rintro b3 a w F S
 refine wpList_nil ?_
 refine then_n ?_
 refine wp_seq ?_
 refine wp_seq ?_
 refine wp_region_lit ?_
 refine wE (ev_loadA tu24 rfl (cs := [vold_1]) ts24 rfl (box_ptr (cells := [vold_1]) 2 rfl 0 rfl (lb rfl))) F S rfl fun a F=>?_
 obtain ⟨y1, hy1, hm⟩ := bind_some hm
 refine wl_call0 (wn rfl) rfl F rfl (treepatch_Validate_ok (fr := (fl [[bx b3 #[.i6 0, .i6 0] 30], [bx b2 #[vnewer1] 24], [bx b1 #[vold_1] 24]] fr)) old_ vold_1 hold_1 S hy1) rfl tc16 rfl rfl ?_; clear F a S
 rintro _ a w ⟨g1, l1, S, rfl⟩ F; replace S : St g1 [[bx b3 #[.i6 0, .i6 0] 30], [bx b2 #[vnewer1] 24], [bx b1 #[vold_1] 24]] fr w := S
 refine wl_alloc (wn rfl) rfl tz30 (cs := [.i6 0, .i6 0]) rfl F S rfl rfl ?_; clear F a S; rintro b4 a w F S
 refine wl_storeC (wn rfl) rfl F S rfl rfl (vs := [.i6 y1.Code, .i6 y1.Index]) rfl ts30 (one_cons rfl (one_cons rfl one_nil)) (k := 0) rfl (lb rfl) (c' := #[.i6 y1.Code, .i6 y1.Index]) rfl rfl ?_; clear S; intro w S
 refine wpList_nil ?_
 refine then_n ?_
 refine wp_seq ?_
 refine wp_region_lit ?_
 refine wE (ev_loadA tu30 rfl (cs := [.i6 y1.Code, .i6 y1.Index]) ts30 rfl (box_ptr (cells := [.i6 y1.Code, .i6 y1.Index]) 0 rfl 0 rfl (lb rfl))) F S rfl fun a F=>?_
 refine wE (ev_build (parts := []) (vs := []) rfl (fun w => tb30_  w)) F S rfl fun a F=>?_
 refine wE (ev_neS tu30 tqa30 tqb30 tqc30 (xs := [.i6 y1.Code, .i6 y1.Index]) (ys := [.i6 0, .i6 0]) rfl rfl ⟨_, _, rfl, by decide, ⟨_, _, rfl, rfl, leaf_int tu3⟩, ⟨_, _, rfl, by decide, ⟨_, _, rfl, rfl, leaf_int tu3⟩, rfl⟩⟩) F S rfl fun a F=>?_
 refine wpList_nil ?_
 refine then_n ?_
 obtain ⟨hc1, hm⟩ | ⟨hc1, hm⟩ := ite_or hm
 ·refine wp_condT F rfl hc1 ?_
  refine wp_seq ?_
  refine wp_dv [] mo S ?_; clear S; intro ok1 w S
  refine dv_ev ok1 0 rfl (ev_loadA tu30 rfl (cs := [.i6 y1.Code, .i6 y1.Index]) ts30 rfl (box_ptr (cells := [.i6 y1.Code, .i6 y1.Index]) 0 rfl 0 rfl (lb rfl))) F S rfl fun a F=>?_
  refine dv_et ok1 1 rfl (ev_assign rfl) F rfl fun a F=>?_
  refine dv_op ok1 2 rfl [] ?_
  refine wl_storeC (wn rfl) rfl F S rfl rfl (vs := [.i6 y1.Code, .i6 y1.Index]) rfl ts30 (one_cons rfl (one_cons rfl one_nil)) (k := 1) rfl (lb rfl) (c' := #[.i6 y1.Code, .i6 y1.Index]) rfl rfl ?_; clear S; intro w S
  refine dv_nx trivial ?_
  refine dv_fin ok1 ?_
  refine then_n ?_
  refine wp_ret ?_
  refine then_r ?_
  obtain rfl := sinj hm
  replace S : St g1 [[], [bx b4 #[.i6 y1.Code, .i6 y1.Index] 30], [bx b3 #[.i6 y1.Code, .i6 y1.Index] 30], [bx b2 #[vnewer1] 24], [bx b1 #[vold_1] 24]] fr w := S
  refine post_r _ F rfl (ar_cons (resT rfl) (ar_cons (resA rfl tu30 rfl (box_ptr (cells := [.i6 y1.Code, .i6 y1.Index]) 2 rfl 0 rfl (lb rfl) w S) ts30) ar_nil)) ?_
  replace S : St g1 [[]] fr w := St.tail [[]] _ (S.frontC 0 rfl)
  exact ⟨_, rfl, g1, (nilS), [], l1, S, (OwnS.nil _), rfl⟩
 ·refine wp_condF F rfl hc1 ?_
  refine wp_skip ?_
  refine then_n ?_
  refine wp_seq ?_
  refine wp_seq ?_
  refine wp_region_lit ?_
  refine wE (ev_loadA tu24 rfl (cs := [vnewer1]) ts24 rfl (box_ptr (cells := [vnewer1]) 2 rfl 0 rfl (lb rfl))) F S rfl fun a F=>?_
  obtain ⟨y2, hy2, hm⟩ := bind_some hm
  refine wl_call0 (wn rfl) rfl F rfl (treepatch_Second_ok (fr := (fl [[bx b4 #[.i6 y1.Code, .i6 y1.Index] 30], [bx b3 #[.i6 0, .i6 0] 30], [bx b2 #[vnewer1] 24], [bx b1 #[vold_1] 24]] fr)) newer vnewer1 (hnewer1.mono l1) (-2) S hy2) rfl tc50 rfl rfl ?_; clear F a S
  rintro _ a w ⟨g2, l2, S, rfl⟩ F; replace S : St g2 [[bx b4 #[.i6 y1.Code, .i6 y1.Index] 30], [bx b3 #[.i6 0, .i6 0] 30], [bx b2 #[vnewer1] 24], [bx b1 #[vold_1] 24]] fr w := S
  refine wl_alloc (wn rfl) rfl tz30 (cs := [.i6 0, .i6 0]) rfl F S rfl rfl ?_; clear F a S; rintro b5 a w F S
  refine wl_storeC (wn rfl) rfl F S rfl rfl (vs := [.i6 y2.Code, .i6 y2.Index]) rfl ts30 (one_cons rfl (one_cons rfl one_nil)) (k := 0) rfl (lb rfl) (c' := #[.i6 y2.Code, .i6 y2.Index]) rfl rfl ?_; clear S; intro w S
  refine wpList_nil ?_
  refine then_n ?_
  refine wp_seq ?_
  refine wp_region_lit ?_
  refine wE (ev_loadA tu30 rfl (cs := [.i6 y2.Code, .i6 y2.Index]) ts30 rfl (box_ptr (cells := [.i6 y2.Code, .i6 y2.Index]) 0 rfl 0 rfl (lb rfl))) F S rfl fun a F=>?_
  refine wE (ev_build (parts := []) (vs := []) rfl (fun w => tb30_  w)) F S rfl fun a F=>?_
  refine wE (ev_neS tu30 tqa30 tqb30 tqc30 (xs := [.i6 y2.Code, .i6 y2.Index]) (ys := [.i6 0, .i6 0]) rfl rfl ⟨_, _, rfl, by decide, ⟨_, _, rfl, rfl, leaf_int tu3⟩, ⟨_, _, rfl, by decide, ⟨_, _, rfl, rfl, leaf_int tu3⟩, rfl⟩⟩) F S rfl fun a F=>?_
  refine wpList_nil ?_
  refine then_n ?_
  obtain ⟨hc2, hm⟩ | ⟨hc2, hm⟩ := ite_or hm
  ·refine wp_condT F rfl hc2 ?_
   refine wp_seq ?_
   refine wp_dv [] mo S ?_; clear S; intro ok2 w S
   refine dv_ev ok2 0 rfl (ev_loadA tu30 rfl (cs := [.i6 y2.Code, .i6 y2.Index]) ts30 rfl (box_ptr (cells := [.i6 y2.Code, .i6 y2.Index]) 0 rfl 0 rfl (lb rfl))) F S rfl fun a F=>?_
   refine dv_et ok2 1 rfl (ev_assign rfl) F rfl fun a F=>?_
   refine dv_op ok2 2 rfl [] ?_
   refine wl_storeC (wn rfl) rfl F S rfl rfl (vs := [.i6 y2.Code, .i6 y2.Index]) rfl ts30 (one_cons rfl (one_cons rfl one_nil)) (k := 2) rfl (lb rfl) (c' := #[.i6 y2.Code, .i6 y2.Index]) rfl rfl ?_; clear S; intro w S
   refine dv_nx trivial ?_
   refine dv_fin ok2 ?_
   refine then_n ?_
   refine wp_ret ?_
   refine then_r ?_
   obtain rfl := sinj hm
   replace S : St g2 [[], [bx b5 #[.i6 y2.Code, .i6 y2.Index] 30], [bx b4 #[.i6 y1.Code, .i6 y1.Index] 30], [bx b3 #[.i6 y2.Code, .i6 y2.Index] 30], [bx b2 #[vnewer1] 24], [bx b1 #[vold_1] 24]] fr w := S
   refine post_r _ F rfl (ar_cons (resT rfl) (ar_cons (resA rfl tu30 rfl (box_ptr (cells := [.i6 y2.Code, .i6 y2.Index]) 3 rfl 0 rfl (lb rfl) w S) ts30) ar_nil)) ?_
   replace S : St g2 [[]] fr w := St.tail [[]] _ (S.frontC 0 rfl)
   exact ⟨_, rfl, g2, (nilS), [], (l1.trans l2), S, (OwnS.nil _), rfl⟩
  ·refine wp_condF F rfl hc2 ?_
   refine wp_skip ?_
   refine then_n ?_
   refine wp_seq ?_
   refine wp_seq ?_
   refine wp_region_lit ?_
   refine wE (ev_move rfl) F S rfl fun a F=>?_
   refine wE (ev_int rfl rfl (bo_lss _ _ _ _)) F S rfl fun a F=>?_
   refine wE (ev_move rfl) F S rfl fun a F=>?_
   obtain ⟨x1, hx1, hm⟩ := bind_some hm
   refine wl_cut 3 (fun a w' => w = w' ∧ Fr 104 a [(38, .bool x1), (7, bp b3 0), (4, bp b2 0), (3, bp b1 0), (2, .i6 percent)]) ?_ ?_
   ·clear hm; obtain ⟨hc3, hm⟩ | ⟨hc3, hm⟩ := ite_or hx1
    ·refine wl_skip rfl rfl rfl rfl (ne_ft hc3) F rfl rfl ?_; clear F a; intro a F
     refine wl_skip rfl rfl rfl rfl (ne_ft hc3) F rfl rfl ?_; clear F a; intro a F
     refine wE (ev_pickT rfl hc3 rfl) F S rfl fun a F=>?_
     obtain rfl := sinj hm
     refine wpList_nil (then_n ?_); exact ⟨rfl, F.sub ⟨rfl, rfl, rfl, rfl, rfl, trivial⟩⟩
    ·refine wl_ev (wg F rfl rfl rfl rfl hc3) (ev_move rfl) F S rfl rfl ?_; clear F a; intro a F
     refine wl_ev (wg F rfl rfl rfl rfl hc3) (ev_int rfl rfl (bo_gtr _ _ _ _)) F S rfl rfl ?_; clear F a; intro a F
     refine wE (ev_pickF rfl hc3 rfl) F S rfl fun a F=>?_
     obtain rfl := sinj hm
     refine wpList_nil (then_n ?_); exact ⟨rfl, F.sub ⟨rfl, rfl, rfl, rfl, rfl, trivial⟩⟩
   clear F; rintro a w' ⟨rfl, F⟩
   refine wpList_nil ?_
   refine then_n ?_
   obtain ⟨hc4, hm⟩ | ⟨hc4, hm⟩ := ite_or hm
   ·refine wp_condT F rfl hc4 ?_
    refine wp_seq ?_
    refine wp_region_lit ?_
    refine wE (ev_build (parts := [(0, .const (.i6 3)), (1, .const (.i6 (-3)))]) (vs := [(0, .i6 3), (1, .i6 (-3))]) rfl (fun w => tb30_0_1 3 (-3) w)) F S rfl fun a F=>?_
    refine wE (ev_assign rfl) F S rfl fun a F=>?_
    refine wl_storeC (wn rfl) rfl F S rfl rfl (vs := [.i6 3, .i6 (-3)]) rfl ts30 (one_cons rfl (one_cons rfl one_nil)) (k := 2) rfl (lb rfl) (c' := #[.i6 3, .i6 (-3)]) rfl rfl ?_; clear S; intro w S
    refine wpList_nil ?_
    refine then_n ?_
    refine wp_ret ?_
    refine then_r ?_
    obtain rfl := sinj hm
    replace S : St g2 [[], [bx b5 #[.i6 y2.Code, .i6 y2.Index] 30], [bx b4 #[.i6 y1.Code, .i6 y1.Index] 30], [bx b3 #[.i6 3, .i6 (-3)] 30], [bx b2 #[vnewer1] 24], [bx b1 #[vold_1] 24]] fr w := S
    refine post_r _ F rfl (ar_cons (resT rfl) (ar_cons (resA rfl tu30 rfl (box_ptr (cells := [.i6 3, .i6 (-3)]) 3 rfl 0 rfl (lb rfl) w S) ts30) ar_nil)) ?_
    replace S : St g2 [[]] fr w := St.tail [[]] _ (S.frontC 0 rfl)
    exact ⟨_, rfl, g2, (nilS), [], (l1.trans l2), S, (OwnS.nil _), rfl⟩
   ·refine wp_condF F rfl hc4 ?_
    refine wp_skip ?_
    refine then_n ?_
    refine wp_seq ?_
    refine wp_region_lit ?_
    refine wE (ev_assign rfl) F S rfl fun a F=>?_
    refine wpList_nil ?_
    refine then_n ?_
    refine wp_cut (fun a w => ∃ (x2 : List Pair_rename) (v1 : Value) (c1 : Hl) (g3 : Gh), Fr 104 a [(10, v1), (7, bp b3 0)] ∧ Le g2 g3 ∧ St g3 [c1, [bx b3 #[.i6 0, .i6 0] 30]] fr w ∧ OwnS g3 x2 v1 c1 ∧ rename_Detect.j1 old_ newer x2 = some r) ?_ ?_
    ·refine wp_seq ?_
     refine wp_region_lit ?_
     refine wE (ev_loadA tu24 rfl (cs := [vold_1]) ts24 rfl (box_ptr (cells := [vold_1]) 4 rfl 0 rfl (lb rfl))) F S rfl fun a F=>?_
     refine wE (ev_loadA tu24 rfl (cs := [vnewer1]) ts24 rfl (box_ptr (cells := [vnewer1]) 3 rfl 0 rfl (lb rfl))) F S rfl fun a F=>?_
     obtain ⟨y8, hy8, hm⟩ := bind_some hm
     refine wl_call0 (wn rfl) rfl F rfl (rename_only_ok (fr := (fl [[bx b5 #[.i6 y2.Code, .i6 y2.Index] 30], [bx b4 #[.i6 y1.Code, .i6 y1.Index] 30], [bx b3 #[.i6 0, .i6 0] 30], [bx b2 #[vnewer1] 24], [bx b1 #[vold_1] 24]] fr)) old_ vold_1 (hold_1.mono (l1.trans l2)) newer vnewer1 (hnewer1.mono (l1.trans l2)) S hy8) rfl tc77 rfl rfl ?_; clear F a S
     rintro _ a w ⟨g10, v7, c9, l10, S, h9, rfl⟩ F; replace S : St g10 [c9, [bx b5 #[.i6 y2.Code, .i6 y2.Index] 30], [bx b4 #[.i6 y1.Code, .i6 y1.Index] 30], [bx b3 #[.i6 0, .i6 0] 30], [bx b2 #[vnewer1] 24], [bx b1 #[vold_1] 24]] fr w := S
     refine wE (ev_lenOw h9 rfl tu22) F S rfl fun a F=>?_
     refine wE (ev_move rfl) F S rfl fun a F=>?_
     refine wpList_nil ?_
     refine then_n ?_
     refine wp_block ?_
     obtain ⟨r3, hr6, hm⟩ := bind_some hm
     have hmo3 := hm; clear hm
     refine wp_iter (σ := Int × (List Pair_rename)) (ρ := (List Pair_rename)) (m := fun s => rename_Detect.l3 old_ newer percent y8 s.1 s.2) (I := fun s a w => match s with | (x12, x13) => ∃ (v8 : Value) (c10 : Hl) (g11 : Gh), Fr 104 a [(44, .i6 x12), (43, .i6 (y8.length : Int)), (42, v7), (10, v8), (7, bp b3 0), (4, bp b2 0), (3, bp b1 0), (2, .i6 percent)] ∧ Le g10 g11 ∧ St g11 [c9, c10, [bx b3 #[.i6 0, .i6 0] 30], [bx b2 #[vnewer1] 24], [bx b1 #[vold_1] 24]] fr w ∧ OwnS g11 x13 v8 c10) hr6 ?_ ?_
     ·dsimp only
      replace S : St g10 [[], c9, [bx b5 #[.i6 y2.Code, .i6 y2.Index] 30], [bx b4 #[.i6 y1.Code, .i6 y1.Index] 30], [bx b3 #[.i6 0, .i6 0] 30], [bx b2 #[vnewer1] 24], [bx b1 #[vold_1] 24]] fr w := S
      replace S : St g10 [c9, [], [bx b3 #[.i6 0, .i6 0] 30], [bx b2 #[vnewer1] 24], [bx b1 #[vold_1] 24]] fr w := St.tail [c9, [], [bx b3 #[.i6 0, .i6 0] 30], [bx b2 #[vnewer1] 24], [bx b1 #[vold_1] 24]] _ (((((S.frontC 6 rfl).frontC 6 rfl).frontC 6 rfl).frontC 3 rfl).frontC 5 rfl)
      exact ⟨(nilS), [], g10, F.sub ⟨rfl, rfl, rfl, rfl, rfl, rfl, rfl, rfl, trivial⟩, (Le.refl _), S, (OwnS.nil _)⟩
     ·clear F S; rintro ⟨x12, x13⟩ a w x14 ⟨v8, c10, g11, F, l11, S, h10⟩ hx5 hfin3
      have hm : rename_Detect.l3 old_ newer percent y8 x12 x13 = some x14 := hx5; clear hx5
      unfold rename_Detect.l3 at hm
      refine wp_seq ?_
      refine wp_region_lit ?_
      refine wE (ev_int rfl rfl (bo_lss _ _ _ _)) F S rfl fun a F=>?_
      refine wpList_nil ?_
      refine then_n ?_
      refine wp_seq ?_
      obtain ⟨hc10, hm⟩ | ⟨hc10, hm⟩ := ite_or hm
      ·refine wp_condT F rfl hc10 ?_
       refine wp_skip ?_
       refine then_n ?_
       refine wp_cut (fun a w => ∃ (x15 : List Pair_rename) (v9 : Value) (c11 : Hl) (g12 : Gh), Fr 104 a [(44, .i6 x12), (43, .i6 (y8.length : Int)), (42, v7), (10, v9), (7, bp b3 0), (4, bp b2 0), (3, bp b1 0), (2, .i6 percent)] ∧ Le g11 g12 ∧ St g12 [c9, c11, [bx b3 #[.i6 0, .i6 0] 30], [bx b2 #[vnewer1] 24], [bx b1 #[vold_1] 24]] fr w ∧ OwnS g12 x15 v9 c11 ∧ rename_Detect.j6 x12 x15 = some x14) ?_ ?_
       ·refine wp_block ?_
        refine wp_seq ?_
        refine wp_region_lit ?_
        obtain ⟨y9, hy9, hm⟩ := bind_some hm
        refine wE (ev_idxO (h9.mono l11) hy9 tu22 ts80 rfl rfl) F S rfl fun a F=>?_
        obtain ⟨cs4, hr7, hq3⟩ := elemO (h9.mono l11) hy9
        obtain ⟨v10, rfl, h12⟩ := rep_File hr7
        refine wE (ev_loadA tu80 rfl (cs := [.string y9.Path, v10]) ts80 rfl (hq3 _ _ 0 rfl)) F S rfl fun a F=>?_
        refine wl_alloc (wn rfl) rfl tz80 (cs := [.string ByteArray.empty, nilS]) rfl F S rfl rfl ?_; clear F a S; rintro b8 a w F S
        refine wl_storeC (wn rfl) rfl F S rfl rfl (vs := [.string y9.Path, v10]) rfl ts80 (one_cons rfl (one_cons h12.one one_nil)) (k := 0) rfl (lb rfl) (c' := #[.string y9.Path, v10]) rfl rfl ?_; clear S; intro w S
        refine wpList_nil ?_
        refine then_n ?_
        refine wp_seq ?_
        refine wp_region_lit ?_
        refine wE (ev_loadA tu24 rfl (cs := [vnewer1]) ts24 rfl (box_ptr (cells := [vnewer1]) 4 rfl 0 rfl (lb rfl))) F S rfl fun a F=>?_
        refine wE (ev_loadA tu24 rfl (cs := [vold_1]) ts24 rfl (box_ptr (cells := [vold_1]) 5 rfl 0 rfl (lb rfl))) F S rfl fun a F=>?_
        obtain ⟨y10, hy10, hm⟩ := bind_some hm
        refine wl_call0 (wn rfl) rfl F rfl (rename_only_ok (fr := (fl [[bx b8 #[.string y9.Path, v10] 80], c9, c10, [bx b3 #[.i6 0, .i6 0] 30], [bx b2 #[vnewer1] 24], [bx b1 #[vold_1] 24]] fr)) newer vnewer1 (hnewer1.mono (((l1.trans l2).trans l10).trans l11)) old_ vold_1 (hold_1.mono (((l1.trans l2).trans l10).trans l11)) S hy10) rfl tc77 rfl rfl ?_; clear F a S
        rintro _ a w ⟨g13, v11, c12, l13, S, h13, rfl⟩ F; replace S : St g13 [c12, [bx b8 #[.string y9.Path, v10] 80], c9, c10, [bx b3 #[.i6 0, .i6 0] 30], [bx b2 #[vnewer1] 24], [bx b1 #[vold_1] 24]] fr w := S
        refine wE (ev_lenOw h13 rfl tu22) F S rfl fun a F=>?_
        refine wE (ev_move rfl) F S rfl fun a F=>?_
        refine wpList_nil ?_
        refine then_n ?_
        refine wp_cut1 (fun a w => ∃ (x16 : List Pair_rename) (v12 : Value) (c13 : Hl) (g14 : Gh), Fr 104 a [(44, .i6 x12), (43, .i6 (y8.length : Int)), (42, v7), (10, v12), (7, bp b3 0), (4, bp b2 0), (3, bp b1 0), (2, .i6 percent)] ∧ Le g13 g14 ∧ St g14 [c9, c13, [bx b3 #[.i6 0, .i6 0] 30], [bx b2 #[vnewer1] 24], [bx b1 #[vold_1] 24]] fr w ∧ OwnS g14 x16 v12 c13 ∧ rename_Detect.j7 x12 x16 = some x14) ?_ ?_
        ·refine wp_block ?_
         obtain ⟨r4, hr8, hm⟩ := bind_some hm
         have hmo4 := hm; clear hm
         refine wp_iter (σ := Int × (List Pair_rename)) (ρ := (List Pair_rename)) (m := fun s => rename_Detect.l4 old_ newer percent y9 y10 s.1 s.2) (I := fun s a w => match s with | (x17, x18) => ∃ (v13 : Value) (c14 : Hl) (g15 : Gh), Fr 104 a [(52, .i6 x17), (51, .i6 (y10.length : Int)), (50, v11), (12, bp b8 0), (44, .i6 x12), (43, .i6 (y8.length : Int)), (42, v7), (10, v13), (7, bp b3 0), (4, bp b2 0), (3, bp b1 0), (2, .i6 percent)] ∧ Le g13 g15 ∧ St g15 [c12, [bx b8 #[.string y9.Path, v10] 80], c9, c14, [bx b3 #[.i6 0, .i6 0] 30], [bx b2 #[vnewer1] 24], [bx b1 #[vold_1] 24]] fr w ∧ OwnS g15 x18 v13 c14) hr8 ?_ ?_
         ·dsimp only
          exact ⟨v8, c10, g13, F.sub ⟨rfl, rfl, rfl, rfl, rfl, rfl, rfl, rfl, rfl, rfl, rfl, rfl, trivial⟩, (Le.refl _), S, (h10.mono l13)⟩
         ·clear F S; rintro ⟨x17, x18⟩ a w x19 ⟨v13, c14, g15, F, l15, S, h15⟩ hx6 hfin4
          have hm : rename_Detect.l4 old_ newer percent y9 y10 x17 x18 = some x19 := hx6; clear hx6
          unfold rename_Detect.l4 at hm
          refine wp_seq ?_
          refine wp_region_lit ?_
          refine wE (ev_int rfl rfl (bo_lss _ _ _ _)) F S rfl fun a F=>?_
          refine wpList_nil ?_
          refine then_n ?_
          refine wp_seq ?_
          obtain ⟨hc11, hm⟩ | ⟨hc11, hm⟩ := ite_or hm
          ·refine wp_condT F rfl hc11 ?_
           refine wp_skip ?_
           refine then_n ?_
           refine wp_cut (fun a w => ∃ (x20 : List Pair_rename) (v14 : Value) (c15 : Hl) (g16 : Gh), Fr 104 a [(10, v14), (52, .i6 x17), (51, .i6 (y10.length : Int)), (50, v11), (12, bp b8 0), (44, .i6 x12), (43, .i6 (y8.length : Int)), (42, v7), (7, bp b3 0), (4, bp b2 0), (3, bp b1 0), (2, .i6 percent)] ∧ Le g15 g16 ∧ St g16 [c15, c12, [bx b8 #[.string y9.Path, v10] 80], c9, [bx b3 #[.i6 0, .i6 0] 30], [bx b2 #[vnewer1] 24], [bx b1 #[vold_1] 24]] fr w ∧ OwnS g16 x20 v14 c15 ∧ rename_Detect.j8 x17 x20 = some x19) ?_ ?_
           ·refine wp_block ?_
            refine wp_seq ?_
            refine wp_region_lit ?_
            obtain ⟨y11, hy11, hm⟩ := bind_some hm
            refine wE (ev_idxO (h13.mono l15) hy11 tu22 ts80 rfl rfl) F S rfl fun a F=>?_
            obtain ⟨cs5, hr9, hq4⟩ := elemO (h13.mono l15) hy11
            obtain ⟨v15, rfl, h17⟩ := rep_File hr9
            refine wE (ev_loadA tu80 rfl (cs := [.string y11.Path, v15]) ts80 rfl (hq4 _ _ 0 rfl)) F S rfl fun a F=>?_
            refine wl_alloc (wn rfl) rfl tz80 (cs := [.string ByteArray.empty, nilS]) rfl F S rfl rfl ?_; clear F a S; rintro b9 a w F S
            refine wl_storeC (wn rfl) rfl F S rfl rfl (vs := [.string y11.Path, v15]) rfl ts80 (one_cons rfl (one_cons h17.one one_nil)) (k := 0) rfl (lb rfl) (c' := #[.string y11.Path, v15]) rfl rfl ?_; clear S; intro w S
            refine wpList_nil ?_
            refine then_n ?_
            refine wp_seq ?_
            refine wp_region_lit ?_
            refine wE (ev_fieldAddr' tu80 tf80_1 (z := 0) ts42 rfl ⟨_, rfl⟩ rfl) F S rfl fun a F=>?_
            refine wE (ev_load1 tu42 rfl rfl (box_ptr (cells := [v10]) 2 rfl 1 rfl (lb rfl))) F S rfl fun a F=>?_
            refine wE (ev_fieldAddr' tu80 tf80_1 (z := 0) ts42 rfl ⟨_, rfl⟩ rfl) F S rfl fun a F=>?_
            refine wE (ev_load1 tu42 rfl rfl (box_ptr (cells := [v15]) 0 rfl 1 rfl (lb rfl))) F S rfl fun a F=>?_
            obtain ⟨y12, hy12, hm⟩ := bind_some hm
            refine wl_call0 (wn rfl) rfl F rfl (rename_Similarity_ok (fr := (fl [[bx b9 #[.string y11.Path, v15] 80], c12, [bx b8 #[.string y9.Path, v10] 80], c9, c14, [bx b3 #[.i6 0, .i6 0] 30], [bx b2 #[vnewer1] 24], [bx b1 #[vold_1] 24]] fr)) y9.Lines v10 (h12.mono (l13.trans l15)) y11.Lines v15 h17 S hy12) rfl tc78 rfl rfl ?_; clear F a S
            rintro _ a w ⟨g17, l17, S, rfl⟩ F; replace S : St g17 [[bx b9 #[.string y11.Path, v15] 80], c12, [bx b8 #[.string y9.Path, v10] 80], c9, c14, [bx b3 #[.i6 0, .i6 0] 30], [bx b2 #[vnewer1] 24], [bx b1 #[vold_1] 24]] fr w := S
            refine wE (ev_move rfl) F S rfl fun a F=>?_
            refine wE (ev_extract rfl rfl) F S rfl fun a F=>?_
            refine wE (ev_extract rfl rfl) F S rfl fun a F=>?_
            refine wl_alloc (wn rfl) rfl tz30 (cs := [.i6 0, .i6 0]) rfl F S rfl rfl ?_; clear F a S; rintro b10 a w F S
            refine wE (ev_assign rfl) F S rfl fun a F=>?_
            refine wl_storeC (wn rfl) rfl F S rfl rfl (vs := [.i6 y12.2.Code, .i6 y12.2.Index]) rfl ts30 (one_cons rfl (one_cons rfl one_nil)) (k := 0) rfl (lb rfl) (c' := #[.i6 y12.2.Code, .i6 y12.2.Index]) rfl rfl ?_; clear S; intro w S
            refine wpList_nil ?_
            refine then_n ?_
            refine wp_seq ?_
            refine wp_region_lit ?_
            refine wE (ev_move rfl) F S rfl fun a F=>?_
            refine wE (ev_move rfl) F S rfl fun a F=>?_
            refine wE (ev_int rfl rfl (bo_geq _ _ _ _)) F S rfl fun a F=>?_
            refine wpList_nil ?_
            refine then_n ?_
            obtain ⟨hc12, hm⟩ | ⟨hc12, hm⟩ := ite_or hm
            ·refine wp_condT F rfl hc12 ?_
             refine wp_region_lit ?_
             refine wE (ev_move rfl) F S rfl fun a F=>?_
             refine wE (ev_fieldAddr' tu80 tf80_0 (z := 0) ts9 rfl ⟨_, rfl⟩ rfl) F S rfl fun a F=>?_
             refine wE (ev_load1 tu9 rfl rfl (box_ptr (cells := [.string y9.Path]) 3 rfl 0 rfl (lb rfl))) F S rfl fun a F=>?_
             refine wE (ev_fieldAddr' tu80 tf80_0 (z := 0) ts9 rfl ⟨_, rfl⟩ rfl) F S rfl fun a F=>?_
             refine wE (ev_load1 tu9 rfl rfl (box_ptr (cells := [.string y11.Path]) 1 rfl 0 rfl (lb rfl))) F S rfl fun a F=>?_
             refine wE (ev_move rfl) F S rfl fun a F=>?_
             refine wE (ev_build (parts := [(0, .tmp 69), (1, .tmp 71), (2, .tmp 72)]) (vs := [(0, .string y9.Path), (1, .string y11.Path), (2, .i6 y12.1)]) rfl (fun w => tb135_0_1_2 y9.Path y11.Path y12.1 w)) F S rfl fun a F=>?_
             refine wl_lit (l := ([({ old_ := y9.Path, newer := y11.Path, percent := y12.1 } : Pair_rename)] : List Pair_rename)) (vs := [.agg #[.string y9.Path, .string y11.Path, .i6 y12.1]]) (parts := [(0, .tmp 73)]) (wn rfl) rfl rfl rfl tu130 te135 (sz_cons rfl sz_nil) rfl (Cat.cons (rep_Pair_rename_mk (x := ({ old_ := y9.Path, newer := y11.Path, percent := y12.1 } : Pair_rename)) ) (Cat.nil _)) (coa_cons rfl coa_nil) rfl F S rfl rfl ?_; clear F a S
             rintro v16 c16 a w h18 F S
             obtain ⟨cs6, hk2, hr10⟩ := OwnS.reads h18
             obtain ⟨y13, hy13, hm⟩ := bind_some hm
             refine wl_append (wn rfl) rfl tu130 tu130 te135 (by decide) (by decide) F S rfl rfl (k := 6) rfl (h15.mono l17) hk2 rfl (hr10 _ _ _ 0 rfl S) hy13 rfl rfl ?_; clear F a S
             rintro v17 c17 a w h19 S F; replace S : St g17 [c16, [bx b10 #[.i6 y12.2.Code, .i6 y12.2.Index] 30], [bx b9 #[.string y11.Path, v15] 80], c12, [bx b8 #[.string y9.Path, v10] 80], c9, c17, [bx b3 #[.i6 0, .i6 0] 30], [bx b2 #[vnewer1] 24], [bx b1 #[vold_1] 24]] fr w := S
             refine wE (ev_assign rfl) F S rfl fun a F=>?_
             refine wpList_nil ?_
             refine inb_n ?_
             refine then_n ?_
             replace S : St g17 [c17, c12, [bx b8 #[.string y9.Path, v10] 80], c9, [bx b3 #[.i6 0, .i6 0] 30], [bx b2 #[vnewer1] 24], [bx b1 #[vold_1] 24]] fr w := St.tail [c17, c12, [bx b8 #[.string y9.Path, v10] 80], c9, [bx b3 #[.i6 0, .i6 0] 30], [bx b2 #[vnewer1] 24], [bx b1 #[vold_1] 24]] _ (((((((S.frontC 9 rfl).frontC 9 rfl).frontC 9 rfl).frontC 8 rfl).frontC 8 rfl).frontC 8 rfl).frontC 12 rfl)
             exact ⟨y13, v17, c17, g17, F.sub ⟨rfl, rfl, rfl, rfl, rfl, rfl, rfl, rfl, rfl, rfl, rfl, rfl, trivial⟩, l17, S, h19, hm⟩
            ·refine wp_condF F rfl hc12 ?_
             refine wp_skip ?_
             refine inb_n ?_
             refine then_n ?_
             replace S : St g17 [c14, c12, [bx b8 #[.string y9.Path, v10] 80], c9, [bx b3 #[.i6 0, .i6 0] 30], [bx b2 #[vnewer1] 24], [bx b1 #[vold_1] 24]] fr w := St.tail [c14, c12, [bx b8 #[.string y9.Path, v10] 80], c9, [bx b3 #[.i6 0, .i6 0] 30], [bx b2 #[vnewer1] 24], [bx b1 #[vold_1] 24]] _ (((((((S.frontC 8 rfl).frontC 8 rfl).frontC 8 rfl).frontC 7 rfl).frontC 7 rfl).frontC 7 rfl).frontC 11 rfl)
             exact ⟨x18, v13, c14, g17, F.sub ⟨rfl, rfl, rfl, rfl, rfl, rfl, rfl, rfl, rfl, rfl, rfl, rfl, trivial⟩, l17, S, (h15.mono l17), hm⟩
           ·clear F S hm; rintro a w ⟨x20, v14, c15, g16, F, l16, S, h16, hm⟩
            refine wp_region_lit ?_
            obtain ⟨z4, hz4, hm⟩ := bind_some hm
            refine wE (ev_int rfl rfl (bo_add hz4)) F S rfl fun a F=>?_
            refine wE (ev_move rfl) F S rfl fun a F=>?_
            refine wpList_nil ?_
            refine then_n ?_
            obtain rfl := sinj hm
            refine ⟨_, rfl, ?_⟩
            dsimp only
            replace S : St g16 [c12, [bx b8 #[.string y9.Path, v10] 80], c9, c15, [bx b3 #[.i6 0, .i6 0] 30], [bx b2 #[vnewer1] 24], [bx b1 #[vold_1] 24]] fr w := St.tail [c12, [bx b8 #[.string y9.Path, v10] 80], c9, c15, [bx b3 #[.i6 0, .i6 0] 30], [bx b2 #[vnewer1] 24], [bx b1 #[vold_1] 24]] _ (((((((S.frontC 6 rfl).frontC 6 rfl).frontC 6 rfl).frontC 3 rfl).frontC 7 rfl).frontC 7 rfl).frontC 7 rfl)
            exact ⟨v14, c15, g16, F.sub ⟨rfl, rfl, rfl, rfl, rfl, rfl, rfl, rfl, rfl, rfl, rfl, rfl, trivial⟩, (l15.trans l16), S, h16⟩
          ·refine wp_condF F rfl hc11 ?_
           refine wp_exit ?_
           refine then_e ?_
           refine then_e ?_
           refine inb_x ?_
           refine then_n ?_
           obtain rfl := sinj hm
           obtain rfl := hfin4 _ rfl
           clear hm
           have hm : (rename_Detect.j7 x12 x18 : Option (Step (Int × (List Pair_rename)) (List Pair_rename))) = some _ := hmo4
           replace S : St g15 [c9, c14, [bx b3 #[.i6 0, .i6 0] 30], [bx b2 #[vnewer1] 24], [bx b1 #[vold_1] 24]] fr w := St.tail [c9, c14, [bx b3 #[.i6 0, .i6 0] 30], [bx b2 #[vnewer1] 24], [bx b1 #[vold_1] 24]] _ (((((S.frontC 6 rfl).frontC 6 rfl).frontC 6 rfl).frontC 6 rfl).frontC 6 rfl)
           exact ⟨x18, v13, c14, g15, F.sub ⟨rfl, rfl, rfl, rfl, rfl, rfl, rfl, rfl, trivial⟩, l15, S, h15, hm⟩
        ·clear F S hm; rintro a w ⟨x16, v12, c13, g14, F, l14, S, h14, hm⟩
         refine inb_n ?_
         refine then_n ?_
         exact ⟨x16, v12, c13, g14, F.sub ⟨rfl, rfl, rfl, rfl, rfl, rfl, rfl, rfl, trivial⟩, (l13.trans l14), S, h14, hm⟩
       ·clear F S hm; rintro a w ⟨x15, v9, c11, g12, F, l12, S, h11, hm⟩
        refine wp_region_lit ?_
        obtain ⟨z3, hz3, hm⟩ := bind_some hm
        refine wE (ev_int rfl rfl (bo_add hz3)) F S rfl fun a F=>?_
        refine wE (ev_move rfl) F S rfl fun a F=>?_
        refine wpList_nil ?_
        refine then_n ?_
        obtain rfl := sinj hm
        refine ⟨_, rfl, ?_⟩
        dsimp only
        exact ⟨v9, c11, g12, F.sub ⟨rfl, rfl, rfl, rfl, rfl, rfl, rfl, rfl, trivial⟩, (l11.trans l12), S, h11⟩
      ·refine wp_condF F rfl hc10 ?_
       refine wp_exit ?_
       refine then_e ?_
       refine then_e ?_
       refine inb_x ?_
       refine then_n ?_
       obtain rfl := sinj hm
       obtain rfl := hfin3 _ rfl
       clear hm
       have hm : (rename_Detect.j1 old_ newer x13 : Option ((List Arr2_ByteArray) × Fault)) = some _ := hmo3
       replace S : St g11 [c10, [bx b3 #[.i6 0, .i6 0] 30]] fr w := St.tail [c10, [bx b3 #[.i6 0, .i6 0] 30]] _ ((S.frontC 2 rfl).frontC 2 rfl)
       exact ⟨x13, v8, c10, g11, F.sub ⟨rfl, rfl, trivial⟩, (l10.trans l11), S, h10, hm⟩
    ·clear F S hm; rintro a w ⟨x2, v1, c1, g3, F, l3, S, h1, hm⟩
     refine wp_seq ?_
     refine wp_region_lit ?_
     refine wE (ev_move rfl) F S rfl fun a F=>?_
     obtain ⟨y3, hy3, hm⟩ := bind_some hm
     refine wl_call0 (wn rfl) rfl F rfl (sort_ok (δ := Pair_rename) Tryz.lay79 sA135 sZ135 tc80 (fun g w x y cx cy r hx hy S hm => by obtain rfl := rep_Pair_rename hx; obtain rfl := rep_Pair_rename hy; exact rename_Detect_s1_ok x y S hm) S h1 hy3) rfl tc79 rfl rfl ?_; clear F a S
     rintro _ a w ⟨c2, S, h2, rfl⟩ F; replace S : St g3 [c2, [bx b3 #[.i6 0, .i6 0] 30]] fr w := S
     refine wpList_nil ?_
     refine then_n ?_
     refine wp_seq ?_
     refine wp_region_lit ?_
     refine wE (ev_assign rfl) F S rfl fun a F=>?_
     refine wpList_nil ?_
     refine then_n ?_
     refine wp_cut (fun a w => ∃ (x3 : List Arr2_ByteArray) (v2 : Value) (c3 : Hl) (g4 : Gh), Fr 104 a [(17, v2), (7, bp b3 0)] ∧ Le g3 g4 ∧ St g4 [c3, [bx b3 #[.i6 0, .i6 0] 30]] fr w ∧ OwnS g4 x3 v2 c3 ∧ rename_Detect.j2 x3 = some r) ?_ ?_
     ·refine wp_seq ?_
      refine wp_region_lit ?_
      refine wE (ev_move rfl) F S rfl fun a F=>?_
      refine wE (ev_lenOw h2 rfl tu130) F S rfl fun a F=>?_
      refine wE (ev_move rfl) F S rfl fun a F=>?_
      refine wpList_nil ?_
      refine then_n ?_
      refine wp_block ?_
      obtain ⟨r1, hr1, hm⟩ := bind_some hm
      have hmo1 := hm; clear hm
      refine wp_iter (σ := Int × (List Arr2_ByteArray)) (ρ := (List Arr2_ByteArray)) (m := fun s => rename_Detect.l1 old_ newer y3 s.1 s.2) (I := fun s a w => match s with | (x4, x5) => ∃ (v3 : Value) (c5 : Hl) (g5 : Gh), Fr 104 a [(82, .i6 x4), (81, .i6 (y3.length : Int)), (80, v1), (17, v3), (7, bp b3 0)] ∧ Le g3 g5 ∧ St g5 [c2, c5, [bx b3 #[.i6 0, .i6 0] 30]] fr w ∧ OwnS g5 x5 v3 c5) hr1 ?_ ?_
      ·dsimp only
       replace S : St g3 [[], c2, [bx b3 #[.i6 0, .i6 0] 30]] fr w := S
       replace S : St g3 [c2, [], [bx b3 #[.i6 0, .i6 0] 30]] fr w := St.tail [c2, [], [bx b3 #[.i6 0, .i6 0] 30]] _ (((S.frontC 2 rfl).frontC 1 rfl).frontC 3 rfl)
       exact ⟨(nilS), [], g3, F.sub ⟨rfl, rfl, rfl, rfl, rfl, trivial⟩, (Le.refl _), S, (OwnS.nil _)⟩
      ·clear F S; rintro ⟨x4, x5⟩ a w x6 ⟨v3, c5, g5, F, l5, S, h5⟩ hx2 hfin1
       have hm : rename_Detect.l1 old_ newer y3 x4 x5 = some x6 := hx2; clear hx2
       unfold rename_Detect.l1 at hm
       refine wp_seq ?_
       refine wp_region_lit ?_
       refine wE (ev_int rfl rfl (bo_lss _ _ _ _)) F S rfl fun a F=>?_
       refine wpList_nil ?_
       refine then_n ?_
       refine wp_seq ?_
       obtain ⟨hc5, hm⟩ | ⟨hc5, hm⟩ := ite_or hm
       ·refine wp_condT F rfl hc5 ?_
        refine wp_skip ?_
        refine then_n ?_
        refine wp_cut (fun a w => ∃ (x7 : List Arr2_ByteArray) (v4 : Value) (c6 : Hl) (g6 : Gh), Fr 104 a [(17, v4), (82, .i6 x4), (81, .i6 (y3.length : Int)), (80, v1), (7, bp b3 0)] ∧ Le g5 g6 ∧ St g6 [c6, c2, [bx b3 #[.i6 0, .i6 0] 30]] fr w ∧ OwnS g6 x7 v4 c6 ∧ rename_Detect.j3 x4 x7 = some x6) ?_ ?_
        ·refine wp_block ?_
         refine wp_seq ?_
         refine wp_region_lit ?_
         obtain ⟨y5, hy5, hm⟩ := bind_some hm
         refine wE (ev_idxO (h2.mono l5) hy5 tu130 ts135 rfl rfl) F S rfl fun a F=>?_
         obtain ⟨cs1, hr2, hq1⟩ := elemO (h2.mono l5) hy5
         obtain rfl := rep_Pair_rename hr2
         refine wE (ev_loadA tu135 rfl (cs := [.string y5.old_, .string y5.newer, .i6 y5.percent]) ts135 rfl (hq1 _ _ 0 rfl)) F S rfl fun a F=>?_
         refine wl_alloc (wn rfl) rfl tz135 (cs := [.string ByteArray.empty, .string ByteArray.empty, .i6 0]) rfl F S rfl rfl ?_; clear F a S; rintro b6 a w F S
         refine wl_storeC (wn rfl) rfl F S rfl rfl (vs := [.string y5.old_, .string y5.newer, .i6 y5.percent]) rfl ts135 (one_cons rfl (one_cons rfl (one_cons rfl one_nil))) (k := 0) rfl (lb rfl) (c' := #[.string y5.old_, .string y5.newer, .i6 y5.percent]) rfl rfl ?_; clear S; intro w S
         refine wpList_nil ?_
         refine then_n ?_
         refine wp_seq ?_
         refine wp_region_lit ?_
         refine wE (ev_makeFunc (xs := [.tmp 19]) (vs := [bp b6 0]) rfl) F S rfl fun a F=>?_
         refine wE (ev_assign rfl) F S rfl fun a F=>?_
         refine wpList_nil ?_
         refine then_n ?_
         refine wp_seq ?_
         refine wp_region_lit ?_
         refine wE (ev_move rfl) F S rfl fun a F=>?_
         refine wE (ev_move rfl) F S rfl fun a F=>?_
         replace F := F.sub (e' := [(88, .func (.func 83) #[] #[bp b6 0]), (87, v3), (19, bp b6 0), (82, .i6 x4), (81, .i6 (y3.length : Int)), (80, v1), (17, v3), (7, bp b3 0)]) ⟨rfl, rfl, rfl, rfl, rfl, rfl, rfl, rfl, trivial⟩
         refine wl_callK (wn rfl) rfl (xs := [.tmp 87, .tmp 88]) (vs := [v3, .func (.func 83) #[] #[bp b6 0]]) (cap := []) (e' := [(19, bp b6 0), (82, .i6 x4), (81, .i6 (y3.length : Int)), (80, v1), (17, v3), (7, bp b3 0)]) ⟨rfl, rfl, rfl, rfl, rfl, rfl, trivial⟩ F rfl rfl tc84 rfl rfl (calls_enter (fn := Tryz.f84) Tryz.func84 rfl Tryz.ntmps84 (lb rfl) ?_); clear F a; intro a F
         replace F : Fr 9 a [(0, v3), (1, .func (.func 83) #[] #[bp b6 0])] := F
         refine wp_seq ?_
         refine wp_region_lit ?_
         refine wE (ev_assign rfl) F S rfl fun a F=>?_
         refine wpList_nil ?_
         refine then_n ?_
         refine wp_seq ?_
         refine wp_region_lit ?_
         refine wE (ev_move rfl) F S rfl fun a F=>?_
         refine wE (ev_move rfl) F S rfl fun a F=>?_
         refine wl_call (wn rfl) rfl (xs := [.tmp 5, .tmp 6]) (vs := [v3, .func (.func 83) #[] #[bp b6 0]]) (cap := []) (R := fun u1 w => ∃ (x8 : Int) (g7 : Gh), u1 = .i6 x8 ∧ Le g5 g7 ∧ St g7 [[bx b6 #[.string y5.old_, .string y5.newer, .i6 y5.percent] 135], c2, c5, [bx b3 #[.i6 0, .i6 0] 30]] fr w ∧ rename_Detect.j4 old_ newer x4 x5 y5 x8 = some x6) F rfl rfl tc142 (calls_enter (fn := Tryz.f142) Tryz.func142 rfl Tryz.ntmps142 (lb rfl) ?_) rfl rfl ?_
         ·clear F a; intro a F
          replace F : Fr 19 a [(0, v3), (1, .func (.func 83) #[] #[bp b6 0])] := F
          refine wp_seq ?_
          refine wp_region_lit ?_
          refine wE (ev_assign rfl) F S rfl fun a F=>?_
          refine wpList_nil ?_
          refine then_n ?_
          refine wp_cut (fun a w => ∃ (g8 : Gh), Fr 19 a [] ∧ Le g5 g8 ∧ St g8 [[bx b6 #[.string y5.old_, .string y5.newer, .i6 y5.percent] 135], c2, c5, [bx b3 #[.i6 0, .i6 0] 30]] fr w ∧ rename_Detect.j5 old_ newer x4 x5 y5 = some x6) ?_ ?_
          ·refine wp_seq ?_
           refine wp_region_lit ?_
           refine wE (ev_move rfl) F S rfl fun a F=>?_
           refine wE (ev_lenOw h5 rfl tu63) F S rfl fun a F=>?_
           refine wE (ev_move rfl) F S rfl fun a F=>?_
           refine wpList_nil ?_
           refine then_n ?_
           refine wp_block ?_
           obtain ⟨r2, hr4, hm⟩ := bind_some hm
           have hmo2 := hm; clear hm
           refine wp_iter (σ := Int) (ρ := Int ⊕ Unit) (m := fun s => rename_Detect.l2 old_ newer x5 y5 s) (I := fun x9 a w => ∃ (g9 : Gh), Fr 19 a [(8, .i6 x9), (7, .i6 (x5.length : Int)), (0, v3), (1, .func (.func 83) #[] #[bp b6 0])] ∧ Le g5 g9 ∧ St g9 [c5, [bx b6 #[.string y5.old_, .string y5.newer, .i6 y5.percent] 135], c2, [bx b3 #[.i6 0, .i6 0] 30]] fr w) hr4 ?_ ?_
           ·replace S : St g5 [c5, [bx b6 #[.string y5.old_, .string y5.newer, .i6 y5.percent] 135], c2, [bx b3 #[.i6 0, .i6 0] 30]] fr w := St.tail [c5, [bx b6 #[.string y5.old_, .string y5.newer, .i6 y5.percent] 135], c2, [bx b3 #[.i6 0, .i6 0] 30]] _ ((((S.frontC 3 rfl).frontC 2 rfl).frontC 2 rfl).frontC 5 rfl)
            exact ⟨g5, F.sub ⟨rfl, rfl, rfl, rfl, trivial⟩, (Le.refl _), S⟩
           ·clear F S; rintro x9 a w x10 ⟨g9, F, l9, S⟩ hx3 hfin2
            have hm : rename_Detect.l2 old_ newer x5 y5 x9 = some x10 := hx3; clear hx3
            unfold rename_Detect.l2 at hm
            refine wp_seq ?_
            refine wp_region_lit ?_
            refine wE (ev_int rfl rfl (bo_lss _ _ _ _)) F S rfl fun a F=>?_
            refine wpList_nil ?_
            refine then_n ?_
            refine wp_seq ?_
            obtain ⟨hc7, hm⟩ | ⟨hc7, hm⟩ := ite_or hm
            ·refine wp_condT F rfl hc7 ?_
             refine wp_skip ?_
             refine then_n ?_
             refine wp_seq ?_
             refine wp_block ?_
             refine wp_seq ?_
             refine wp_region_lit ?_
             refine wE (ev_move rfl) F S rfl fun a F=>?_
             refine wE (ev_assign rfl) F S rfl fun a F=>?_
             refine wpList_nil ?_
             refine then_n ?_
             refine wp_seq ?_
             refine wp_region_lit ?_
             refine wE (ev_move rfl) F S rfl fun a F=>?_
             refine wE (ev_move rfl) F S rfl fun a F=>?_
             refine wE (ev_move rfl) F S rfl fun a F=>?_
             obtain ⟨y7, hy7, hm⟩ := bind_some hm
             refine wE (ev_idxO (h5.mono l9) hy7 tu63 ts67 rfl rfl) F S rfl fun a F=>?_
             obtain ⟨cs3, hr5, hq2⟩ := elemO (h5.mono l9) hy7
             obtain rfl := rep_Arr2_ByteArray hr5
             refine wE (ev_loadA tu67 rfl (cs := [.string y7.e0, .string y7.e1]) ts67 rfl (hq2 _ _ 0 rfl)) F S rfl fun a F=>?_
             replace F := F.sub (e' := [(15, .agg #[.string y7.e0, .string y7.e1]), (11, .func (.func 83) #[] #[bp b6 0]), (5, .i6 x9), (8, .i6 x9), (7, .i6 (x5.length : Int)), (0, v3), (1, .func (.func 83) #[] #[bp b6 0])]) ⟨rfl, rfl, rfl, rfl, rfl, rfl, rfl, trivial⟩
             refine wl_callK (wn rfl) rfl (xs := [.tmp 15]) (vs := [.agg #[.string y7.e0, .string y7.e1]]) (cap := [bp b6 0]) (e' := [(5, .i6 x9), (8, .i6 x9), (7, .i6 (x5.length : Int)), (0, v3), (1, .func (.func 83) #[] #[bp b6 0])]) ⟨rfl, rfl, rfl, rfl, rfl, trivial⟩ F rfl rfl tc83 rfl rfl (calls_enter (fn := Tryz.f83) Tryz.func83 rfl Tryz.ntmps83 (lb rfl) ?_); clear F a; intro a F
             replace F : Fr 16 a [(0, .agg #[.string y7.e0, .string y7.e1]), (1, bp b6 0)] := F
             refine wp_seq ?_
             refine wp_region_lit ?_
             refine wl_boxC (wn rfl) rfl rfl rfl F S rfl rfl ?_; clear F a S; rintro b7 a w F S
             refine wE (ev_assign rfl) F S rfl fun a F=>?_
             refine wpList_nil ?_
             refine then_n ?_
             refine wp_seq ?_
             refine wp_region_lit ?_
             refine wE (ev_idxBox tu67 ts9 (by decide) (off' := 0) rfl rfl rfl) F S rfl fun a F=>?_
             refine wE (ev_load1 tu9 rfl rfl (box_ptr (cells := [.string y7.e0]) 0 rfl 0 rfl (lb rfl))) F S rfl fun a F=>?_
             refine wE (ev_fieldAddr' tu135 tf135_0 (z := 0) ts9 rfl ⟨_, rfl⟩ rfl) F S rfl fun a F=>?_
             refine wE (ev_load1 tu9 rfl rfl (box_ptr (cells := [.string y5.old_]) 2 rfl 0 rfl (lb rfl))) F S rfl fun a F=>?_
             refine wE (ev_str rfl rfl (bs_eql _ _ _)) F S rfl fun a F=>?_
             refine wE (ev_move rfl) F S rfl fun a F=>?_
             obtain ⟨x11, hx4, hm⟩ := bind_some hm
             refine wl_cut 6 (fun a w' => w = w' ∧ Fr 16 a [(15, .bool x11), (3, .bool false)]) ?_ ?_
             ·clear hm; obtain ⟨hc8, hm⟩ | ⟨hc8, hm⟩ := ite_or hx4
              ·refine wl_skip rfl rfl rfl rfl (ne_ft hc8) F rfl rfl ?_; clear F a; intro a F
               refine wl_skip rfl rfl rfl rfl (ne_ft hc8) F rfl rfl ?_; clear F a; intro a F
               refine wl_skip rfl rfl rfl rfl (ne_ft hc8) F rfl rfl ?_; clear F a; intro a F
               refine wl_skip rfl rfl rfl rfl (ne_ft hc8) F rfl rfl ?_; clear F a; intro a F
               refine wl_skip rfl rfl rfl rfl (ne_ft hc8) F rfl rfl ?_; clear F a; intro a F
               refine wE (ev_pickT rfl hc8 rfl) F S rfl fun a F=>?_
               obtain rfl := sinj hm
               refine wpList_nil (then_n ?_); exact ⟨rfl, F.sub ⟨rfl, rfl, trivial⟩⟩
              ·refine wl_ev (wg F rfl rfl rfl rfl hc8) (ev_idxBox tu67 ts9 (by decide) (off' := 1) rfl rfl rfl) F S rfl rfl ?_; clear F a; intro a F
               refine wl_ev (wg F rfl rfl rfl rfl hc8) (ev_load1 tu9 rfl rfl (box_ptr (cells := [.string y7.e1]) 0 rfl 1 rfl (lb rfl))) F S rfl rfl ?_; clear F a; intro a F
               refine wl_ev (wg F rfl rfl rfl rfl hc8) (ev_fieldAddr' tu135 tf135_1 (z := 0) ts9 rfl ⟨_, rfl⟩ rfl) F S rfl rfl ?_; clear F a; intro a F
               refine wl_ev (wg F rfl rfl rfl rfl hc8) (ev_load1 tu9 rfl rfl (box_ptr (cells := [.string y5.newer]) 2 rfl 1 rfl (lb rfl))) F S rfl rfl ?_; clear F a; intro a F
               refine wl_ev (wg F rfl rfl rfl rfl hc8) (ev_str rfl rfl (bs_eql _ _ _)) F S rfl rfl ?_; clear F a; intro a F
               refine wE (ev_pickF rfl hc8 rfl) F S rfl fun a F=>?_
               obtain rfl := sinj hm
               refine wpList_nil (then_n ?_); exact ⟨rfl, F.sub ⟨rfl, rfl, trivial⟩⟩
             clear F; rintro a w' ⟨rfl, F⟩
             refine wE (ev_assign rfl) F S rfl fun a F=>?_
             refine wpList_nil ?_
             refine then_n ?_
             refine wp_ret ?_
             refine post_r _ F rfl (ar_cons (resT rfl) ar_nil) ?_
             refine ⟨_, rfl, ?_⟩; clear F a; intro a F
             replace F : Fr 19 a [(16, .bool x11), (5, .i6 x9), (8, .i6 x9), (7, .i6 (x5.length : Int)), (0, v3), (1, .func (.func 83) #[] #[bp b6 0])] := F
             refine wpList_nil ?_
             refine then_n ?_
             obtain ⟨hc9, hm⟩ | ⟨hc9, hm⟩ := ite_or hm
             ·refine wp_condT F rfl hc9 ?_
              refine wp_seq ?_
              refine wp_region_lit ?_
              refine wE (ev_move rfl) F S rfl fun a F=>?_
              refine wE (ev_assign rfl) F S rfl fun a F=>?_
              refine wpList_nil ?_
              refine then_n ?_
              refine wp_ret ?_
              refine inb_r ?_
              refine then_r ?_
              refine then_r ?_
              refine inb_r ?_
              refine then_r ?_
              obtain rfl := sinj hm
              obtain rfl := hfin2 _ rfl
              clear hm
              have hm : (rename_Detect.j4 old_ newer x4 x5 y5 x9 : Option (Step (Int × (List Arr2_ByteArray)) (List Arr2_ByteArray))) = some _ := hmo2
              refine post_r _ F rfl (ar_cons (resT rfl) ar_nil) ?_
              replace S : St g9 [[bx b6 #[.string y5.old_, .string y5.newer, .i6 y5.percent] 135], c2, c5, [bx b3 #[.i6 0, .i6 0] 30]] fr w := St.tail [[bx b6 #[.string y5.old_, .string y5.newer, .i6 y5.percent] 135], c2, c5, [bx b3 #[.i6 0, .i6 0] 30]] _ ((((S.frontC 4 rfl).frontC 2 rfl).frontC 5 rfl).frontC 5 rfl)
              exact ⟨_, rfl, ⟨x9, g9, rfl, l9, S, hm⟩⟩
             ·refine wp_condF F rfl hc9 ?_
              refine wp_skip ?_
              refine inb_n ?_
              refine then_n ?_
              refine wp_region_lit ?_
              obtain ⟨z2, hz2, hm⟩ := bind_some hm
              refine wE (ev_int rfl rfl (bo_add hz2)) F S rfl fun a F=>?_
              refine wE (ev_move rfl) F S rfl fun a F=>?_
              refine wpList_nil ?_
              refine then_n ?_
              obtain rfl := sinj hm
              refine ⟨_, rfl, ?_⟩
              replace S : St g9 [c5, [bx b6 #[.string y5.old_, .string y5.newer, .i6 y5.percent] 135], c2, [bx b3 #[.i6 0, .i6 0] 30]] fr w := St.tail [c5, [bx b6 #[.string y5.old_, .string y5.newer, .i6 y5.percent] 135], c2, [bx b3 #[.i6 0, .i6 0] 30]] _ ((((S.frontC 4 rfl).frontC 4 rfl).frontC 4 rfl).frontC 4 rfl)
              exact ⟨g9, F.sub ⟨rfl, rfl, rfl, rfl, trivial⟩, l9, S⟩
            ·refine wp_condF F rfl hc7 ?_
             refine wp_exit ?_
             refine then_e ?_
             refine then_e ?_
             refine inb_x ?_
             refine then_n ?_
             obtain rfl := sinj hm
             obtain rfl := hfin2 _ rfl
             clear hm
             have hm : (rename_Detect.j5 old_ newer x4 x5 y5 : Option (Step (Int × (List Arr2_ByteArray)) (List Arr2_ByteArray))) = some _ := hmo2
             replace S : St g9 [[bx b6 #[.string y5.old_, .string y5.newer, .i6 y5.percent] 135], c2, c5, [bx b3 #[.i6 0, .i6 0] 30]] fr w := St.tail [[bx b6 #[.string y5.old_, .string y5.newer, .i6 y5.percent] 135], c2, c5, [bx b3 #[.i6 0, .i6 0] 30]] _ ((((S.frontC 3 rfl).frontC 1 rfl).frontC 4 rfl).frontC 4 rfl)
             exact ⟨g9, F.sub trivial, l9, S, hm⟩
          ·clear F S hm; rintro a w ⟨g8, F, l8, S, hm⟩
           refine wp_seq ?_
           refine wp_region_lit ?_
           refine wE (ev_assign rfl) F S rfl fun a F=>?_
           refine wpList_nil ?_
           refine then_n ?_
           refine wp_ret ?_
           refine post_r _ F rfl (ar_cons (resT rfl) ar_nil) ?_
           exact ⟨_, rfl, ⟨(-1), g8, rfl, l8, S, hm⟩⟩
         ·clear F S hm; rintro _ a w ⟨x8, g7, rfl, l7, S, hm⟩ F
          replace F := F.sub (e' := [(7, .i6 x8)]) ⟨rfl, trivial⟩
          refine wE (ev_int rfl rfl (bo_geq _ _ _ _)) F S rfl fun a F=>?_
          refine wE (ev_assign rfl) F S rfl fun a F=>?_
          refine wpList_nil ?_
          refine then_n ?_
          refine wp_ret ?_
          refine post_r _ F rfl (ar_cons (resT rfl) ar_nil) ?_
          refine ⟨_, rfl, ?_⟩; clear F a; intro a F
          replace F : Fr 104 a [(89, .bool (decide (x8 ≥ 0))), (19, bp b6 0), (82, .i6 x4), (81, .i6 (y3.length : Int)), (80, v1), (17, v3), (7, bp b3 0)] := F
          refine wE (ev_not rfl) F S rfl fun a F=>?_
          refine wpList_nil ?_
          refine then_n ?_
          obtain ⟨hc6, hm⟩ | ⟨hc6, hm⟩ := ite_or hm
          ·refine wp_condT F rfl hc6 ?_
           refine wp_region_lit ?_
           refine wE (ev_move rfl) F S rfl fun a F=>?_
           refine wE (ev_fieldAddr' tu135 tf135_0 (z := 0) ts9 rfl ⟨_, rfl⟩ rfl) F S rfl fun a F=>?_
           refine wE (ev_load1 tu9 rfl rfl (box_ptr (cells := [.string y5.old_]) 0 rfl 0 rfl (lb rfl))) F S rfl fun a F=>?_
           refine wE (ev_fieldAddr' tu135 tf135_1 (z := 0) ts9 rfl ⟨_, rfl⟩ rfl) F S rfl fun a F=>?_
           refine wE (ev_load1 tu9 rfl rfl (box_ptr (cells := [.string y5.newer]) 0 rfl 1 rfl (lb rfl))) F S rfl fun a F=>?_
           refine wE (ev_build (parts := [(0, .tmp 93), (1, .tmp 95)]) (vs := [(0, .string y5.old_), (1, .string y5.newer)]) rfl (fun w => tb67_0_1 y5.old_ y5.newer w)) F S rfl fun a F=>?_
           refine wl_lit (l := ([({ e0 := y5.old_, e1 := y5.newer } : Arr2_ByteArray)] : List Arr2_ByteArray)) (vs := [.agg #[.string y5.old_, .string y5.newer]]) (parts := [(0, .tmp 96)]) (wn rfl) rfl rfl rfl tu63 te67 (sz_cons rfl sz_nil) rfl (Cat.cons (rep_Arr2_ByteArray_mk (x := ({ e0 := y5.old_, e1 := y5.newer } : Arr2_ByteArray)) ) (Cat.nil _)) (coa_cons rfl coa_nil) rfl F S rfl rfl ?_; clear F a S
           rintro v5 c7 a w h7 F S
           obtain ⟨cs2, hk1, hr3⟩ := OwnS.reads h7
           obtain ⟨y6, hy6, hm⟩ := bind_some hm
           refine wl_append (wn rfl) rfl tu63 tu63 te67 (by decide) (by decide) F S rfl rfl (k := 3) rfl (h5.mono l7) hk1 rfl (hr3 _ _ _ 0 rfl S) hy6 rfl rfl ?_; clear F a S
           rintro v6 c8 a w h8 S F; replace S : St g7 [c7, [bx b6 #[.string y5.old_, .string y5.newer, .i6 y5.percent] 135], c2, c8, [bx b3 #[.i6 0, .i6 0] 30]] fr w := S
           refine wE (ev_assign rfl) F S rfl fun a F=>?_
           refine wpList_nil ?_
           refine inb_n ?_
           refine then_n ?_
           replace S : St g7 [c8, c2, [bx b3 #[.i6 0, .i6 0] 30]] fr w := St.tail [c8, c2, [bx b3 #[.i6 0, .i6 0] 30]] _ (((S.frontC 4 rfl).frontC 3 rfl).frontC 5 rfl)
           exact ⟨y6, v6, c8, g7, F.sub ⟨rfl, rfl, rfl, rfl, rfl, trivial⟩, l7, S, h8, hm⟩
          ·refine wp_condF F rfl hc6 ?_
           refine wp_skip ?_
           refine inb_n ?_
           refine then_n ?_
           replace S : St g7 [c5, c2, [bx b3 #[.i6 0, .i6 0] 30]] fr w := St.tail [c5, c2, [bx b3 #[.i6 0, .i6 0] 30]] _ (((S.frontC 3 rfl).frontC 2 rfl).frontC 4 rfl)
           exact ⟨x5, v3, c5, g7, F.sub ⟨rfl, rfl, rfl, rfl, rfl, trivial⟩, l7, S, (h5.mono l7), hm⟩
        ·clear F S hm; rintro a w ⟨x7, v4, c6, g6, F, l6, S, h6, hm⟩
         refine wp_region_lit ?_
         obtain ⟨z1, hz1, hm⟩ := bind_some hm
         refine wE (ev_int rfl rfl (bo_add hz1)) F S rfl fun a F=>?_
         refine wE (ev_move rfl) F S rfl fun a F=>?_
         refine wpList_nil ?_
         refine then_n ?_
         obtain rfl := sinj hm
         refine ⟨_, rfl, ?_⟩
         dsimp only
         replace S : St g6 [c2, c6, [bx b3 #[.i6 0, .i6 0] 30]] fr w := St.tail [c2, c6, [bx b3 #[.i6 0, .i6 0] 30]] _ (((S.frontC 2 rfl).frontC 1 rfl).frontC 3 rfl)
         exact ⟨v4, c6, g6, F.sub ⟨rfl, rfl, rfl, rfl, rfl, trivial⟩, (l5.trans l6), S, h6⟩
       ·refine wp_condF F rfl hc5 ?_
        refine wp_exit ?_
        refine then_e ?_
        refine then_e ?_
        refine inb_x ?_
        refine then_n ?_
        obtain rfl := sinj hm
        obtain rfl := hfin1 _ rfl
        clear hm
        have hm : (rename_Detect.j2 x5 : Option ((List Arr2_ByteArray) × Fault)) = some _ := hmo1
        replace S : St g5 [c5, [bx b3 #[.i6 0, .i6 0] 30]] fr w := St.tail [c5, [bx b3 #[.i6 0, .i6 0] 30]] _ ((S.frontC 2 rfl).frontC 2 rfl)
        exact ⟨x5, v3, c5, g5, F.sub ⟨rfl, rfl, trivial⟩, l5, S, h5, hm⟩
     ·clear F S hm; rintro a w ⟨x3, v2, c3, g4, F, l4, S, h3, hm⟩
      refine wp_seq ?_
      refine wp_region_lit ?_
      refine wE (ev_move rfl) F S rfl fun a F=>?_
      obtain ⟨y4, hy4, hm⟩ := bind_some hm
      refine wl_call0 (wn rfl) rfl F rfl (sort_ok (δ := Arr2_ByteArray) Tryz.lay85 sA67 sZ67 tc86 (fun g w x y cx cy r hx hy S hm => by obtain rfl := rep_Arr2_ByteArray hx; obtain rfl := rep_Arr2_ByteArray hy; exact rename_Detect_s3_ok x y S hm) S h3 hy4) rfl tc85 rfl rfl ?_; clear F a S
      rintro _ a w ⟨c4, S, h4, rfl⟩ F; replace S : St g4 [c4, [bx b3 #[.i6 0, .i6 0] 30]] fr w := S
      refine wpList_nil ?_
      refine then_n ?_
      refine wp_seq ?_
      refine wp_region_lit ?_
      refine wE (ev_move rfl) F S rfl fun a F=>?_
      refine wE (ev_build (parts := []) (vs := []) rfl (fun w => tb30_  w)) F S rfl fun a F=>?_
      refine wE (ev_assign rfl) F S rfl fun a F=>?_
      refine wl_storeC (wn rfl) rfl F S rfl rfl (vs := [.i6 0, .i6 0]) rfl ts30 (one_cons rfl (one_cons rfl one_nil)) (k := 1) rfl (lb rfl) (c' := #[.i6 0, .i6 0]) rfl rfl ?_; clear S; intro w S
      refine wpList_nil ?_
      refine then_n ?_
      refine wp_ret ?_
      obtain rfl := sinj hm
      refine post_r _ F rfl (ar_cons (resT rfl) (ar_cons (resA rfl tu30 rfl (box_ptr (cells := [.i6 0, .i6 0]) 1 rfl 0 rfl (lb rfl) w S) ts30) ar_nil)) ?_
      replace S : St g4 [c4] fr w := St.tail [c4] _ (S.frontC 0 rfl)
      exact ⟨_, rfl, g4, v2, c4, (((l1.trans l2).trans l3).trans l4), S, h4, rfl⟩
end Go.Dc
