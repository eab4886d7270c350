/- Walks: each function comes to what its model says. -/
import Derived.Test.YtjmigclbilnajaaDoorDcTab
import Derived.Test.YtjmigclbilnajaaDoorDcM
import Derived.Test.YtjmigclbilnajaaDoorDcW1
import Derived.Test.YtjmigclbilnajaaDoorDcW3
import Derived.Test.YtjmigclbilnajaaDoorDcW4
namespace Go.Dc
open Go Go.Proofs
set_option maxRecDepth 100000
set_option maxHeartbeats 4000000
set_option linter.unusedVariables false
theorem treepatch_SecondPatch_ok {g : Gh} {fr : Hl} {w : World} {r : Fault} (p_ : TreePatch) (vp_1 : Value) (hp_1 : RepSl g p_.Changes vp_1) (index : Int) (S : St g [] fr w) (hm : treepatch_SecondPatch p_ index = some r) :
  Calls Tryd.prog 30 [.agg #[vp_1], .i6 index].toArray w (fun en w' => ∃ v, en = .returned v ∧ ∃ (g' : Gh), Le g g' ∧ St g' [] fr w' ∧ .agg #[.i6 r.Code, .i6 r.Index] = v) := by
 unfold treepatch_SecondPatch at hm
 refine calls_enter (fn := Tryd.f30) Tryd.func30 rfl Tryd.ntmps30 (lb rfl) ?_
 intro a F
 replace F : Fr 16 a [(0, .agg #[vp_1]), (1, .i6 index)] := F
 refine wp_seq ?_
 refine wp_region_lit ?_
 refine wl_boxC (wn rfl) rfl rfl rfl F S rfl rfl ?_; clear F a S; rintro b1 a w F S
 refine wl_alloc (wn rfl) rfl tz29 (cs := [.i6 0, .i6 0]) rfl F S rfl rfl ?_; clear F a S; rintro b2 a w F S
 refine wpList_nil ?_
 refine then_n ?_
 refine wp_seq ?_
 refine wp_seq ?_
 refine wp_region_lit ?_
 refine wE (ev_loadA tu41 rfl (cs := [vp_1]) ts41 rfl (box_ptr (cells := [vp_1]) 1 rfl 0 rfl (lb rfl))) F S rfl fun a F=>?_
 obtain ⟨y1, hy1, hm⟩ := bind_some hm
 refine wl_call0 (wn rfl) rfl F rfl (treepatch_ValidatePatch_ok (fr := (fl [[bx b2 #[.i6 0, .i6 0] 29], [bx b1 #[vp_1] 41]] fr)) p_ vp_1 hp_1 S hy1) rfl tc24 rfl rfl ?_; clear F a S
 rintro _ a w ⟨g1, l1, S, rfl⟩ F; replace S : St g1 [[bx b2 #[.i6 0, .i6 0] 29], [bx b1 #[vp_1] 41]] fr w := S
 refine wl_alloc (wn rfl) rfl tz29 (cs := [.i6 0, .i6 0]) rfl F S rfl rfl ?_; clear F a S; rintro b3 a w F S
 refine wl_storeC (wn rfl) rfl F S rfl rfl (vs := [.i6 y1.Code, .i6 y1.Index]) rfl ts29 (one_cons rfl (one_cons rfl one_nil)) (k := 0) rfl (lb rfl) (c' := #[.i6 y1.Code, .i6 y1.Index]) rfl rfl ?_; clear S; intro w S
 refine wpList_nil ?_
 refine then_n ?_
 refine wp_seq ?_
 refine wp_region_lit ?_
 refine wE (ev_loadA tu29 rfl (cs := [.i6 y1.Code, .i6 y1.Index]) ts29 rfl (box_ptr (cells := [.i6 y1.Code, .i6 y1.Index]) 0 rfl 0 rfl (lb rfl))) F S rfl fun a F=>?_
 refine wE (ev_build (parts := []) (vs := []) rfl (fun w => tb29_  w)) F S rfl fun a F=>?_
 refine wE (ev_neS tu29 tqa29 tqb29 tqc29 (xs := [.i6 y1.Code, .i6 y1.Index]) (ys := [.i6 0, .i6 0]) rfl rfl ⟨_, _, rfl, by decide, ⟨_, _, rfl, rfl, leaf_int tu3⟩, ⟨_, _, rfl, by decide, ⟨_, _, rfl, rfl, leaf_int tu3⟩, rfl⟩⟩) F S rfl fun a F=>?_
 refine wpList_nil ?_
 refine then_n ?_
 obtain ⟨hc1, hm⟩ | ⟨hc1, hm⟩ := ite_or hm
 ·refine wp_condT F rfl hc1 ?_
  refine wp_seq ?_
  refine wp_region_lit ?_
  refine wE (ev_fieldAddr' tu29 tf29_0 (z := 0) ts3 rfl ⟨_, rfl⟩ rfl) F S rfl fun a F=>?_
  refine wE (ev_load1 tu3 rfl rfl (box_ptr (cells := [.i6 y1.Code]) 0 rfl 0 rfl (lb rfl))) F S rfl fun a F=>?_
  refine wE (ev_move rfl) F S rfl fun a F=>?_
  refine wE (ev_build (parts := [(0, .tmp 12), (1, .tmp 13)]) (vs := [(0, .i6 y1.Code), (1, .i6 index)]) rfl (fun w => tb29_0_1 y1.Code index w)) F S rfl fun a F=>?_
  refine wl_storeC (wn rfl) rfl F S rfl rfl (vs := [.i6 y1.Code, .i6 index]) rfl ts29 (one_cons rfl (one_cons rfl one_nil)) (k := 1) rfl (lb rfl) (c' := #[.i6 y1.Code, .i6 index]) rfl rfl ?_; clear S; intro w S
  refine wpList_nil ?_
  refine then_n ?_
  refine wp_ret ?_
  refine then_r ?_
  obtain rfl := sinj hm
  refine post_r _ F rfl (ar_cons (resA rfl tu29 rfl (box_ptr (cells := [.i6 y1.Code, .i6 index]) 1 rfl 0 rfl (lb rfl) w S) ts29) ar_nil) ?_
  replace S : St g1 [] fr w := St.tail [] _ S
  exact ⟨_, rfl, g1, l1, S, rfl⟩
 ·refine wp_condF F rfl hc1 ?_
  refine wp_skip ?_
  refine then_n ?_
  refine wp_seq ?_
  refine wp_region_lit ?_
  refine wE (ev_build (parts := []) (vs := []) rfl (fun w => tb29_  w)) F S rfl fun a F=>?_
  refine wl_storeC (wn rfl) rfl F S rfl rfl (vs := [.i6 0, .i6 0]) rfl ts29 (one_cons rfl (one_cons rfl one_nil)) (k := 1) rfl (lb rfl) (c' := #[.i6 0, .i6 0]) rfl rfl ?_; clear S; intro w S
  refine wpList_nil ?_
  refine then_n ?_
  refine wp_ret ?_
  obtain rfl := sinj hm
  refine post_r _ F rfl (ar_cons (resA rfl tu29 rfl (box_ptr (cells := [.i6 0, .i6 0]) 1 rfl 0 rfl (lb rfl) w S) ts29) ar_nil) ?_
  replace S : St g1 [] fr w := St.tail [] _ S
  exact ⟨_, rfl, g1, l1, S, rfl⟩

theorem treecommute_paths_ok {g : Gh} {fr : Hl} {w : World} {r : (List ByteArray)} (c_ : TreeChange) (vc_1 : Value) (hc_1 : RepSl g c_.Lines vc_1) (vc_2 : Value) (hc_2 : RepSl g c_.Patch.Hunks vc_2) (S : St g [] fr w) (hm : treecommute_paths c_ = some r) :
  Calls Tryd.prog 68 [.agg #[.i6 c_.Kind, .string c_.Path, .string c_.To, vc_1, vc_2]].toArray w (fun en w' => ∃ v, en = .returned v ∧ ∃ (g' : Gh) (v1 : Value) (c1 : Hl), Le g g' ∧ St g' [c1] fr w' ∧ OwnS g' r v1 c1 ∧ v1 = v) := by
 unfold treecommute_paths at hm
 refine calls_enter (fn := Tryd.f68) Tryd.func68 rfl Tryd.ntmps68 (lb rfl) ?_
 intro a F
 replace F : Fr 14 a [(0, .agg #[.i6 c_.Kind, .string c_.Path, .string c_.To, vc_1, vc_2])] := F
 refine wp_seq ?_
 refine wp_region_lit ?_
 refine wl_boxC (wn rfl) rfl rfl rfl F S rfl rfl ?_; clear F a S; rintro b1 a w F S
 refine wE (ev_assign rfl) F S rfl fun a F=>?_
 refine wpList_nil ?_
 refine then_n ?_
 refine wp_seq ?_
 refine wp_seq ?_
 refine wp_region_lit ?_
 refine wE (ev_fieldAddr' tu27 tf27_0 (z := 0) ts3 rfl ⟨_, rfl⟩ rfl) F S rfl fun a F=>?_
 refine wE (ev_load1 tu3 rfl rfl (box_ptr (cells := [.i6 c_.Kind]) 0 rfl 0 rfl (lb rfl))) F S rfl fun a F=>?_
 refine wE (ev_int rfl rfl (bo_eql _ _ _ _)) F S rfl fun a F=>?_
 refine wpList_nil ?_
 refine then_n ?_
 obtain ⟨hc1, hm⟩ | ⟨hc1, hm⟩ := ite_or hm
 ·refine wp_condT F rfl hc1 ?_
  refine wp_seq ?_
  refine wp_region_lit ?_
  refine wE (ev_fieldAddr' tu27 tf27_1 (z := 0) ts9 rfl ⟨_, rfl⟩ rfl) F S rfl fun a F=>?_
  refine wE (ev_load1 tu9 rfl rfl (box_ptr (cells := [.string c_.Path]) 0 rfl 1 rfl (lb rfl))) F S rfl fun a F=>?_
  refine wE (ev_fieldAddr' tu27 tf27_2 (z := 0) ts9 rfl ⟨_, rfl⟩ rfl) F S rfl fun a F=>?_
  refine wE (ev_load1 tu9 rfl rfl (box_ptr (cells := [.string c_.To]) 0 rfl 2 rfl (lb rfl))) F S rfl fun a F=>?_
  refine wl_lit (l := ([c_.Path, c_.To] : List ByteArray)) (vs := [.string c_.Path, .string c_.To]) (parts := [(0, .tmp 7), (1, .tmp 9)]) (wn rfl) rfl rfl rfl tu22 te9 (sz_cons rfl (sz_cons rfl sz_nil)) rfl (Cat.cons (show Rep.rep _ c_.Path _ from rfl) (Cat.cons (show Rep.rep _ c_.To _ from rfl) (Cat.nil _))) (coa_cons rfl (coa_cons rfl coa_nil)) rfl F S rfl rfl ?_; clear F a S
  rintro v1 c1 a w h1 F S
  refine wE (ev_assign rfl) F S rfl fun a F=>?_
  refine wpList_nil ?_
  refine then_n ?_
  refine wp_ret ?_
  refine then_r ?_
  obtain rfl := sinj hm
  refine post_r _ F rfl (ar_cons (resT rfl) ar_nil) ?_
  replace S : St g [c1] fr w := St.tail [c1] _ (S.frontC 0 rfl)
  exact ⟨_, rfl, g, v1, c1, (Le.refl _), S, h1, rfl⟩
 ·refine wp_condF F rfl hc1 ?_
  refine wp_skip ?_
  refine then_n ?_
  refine wp_seq ?_
  refine wp_region_lit ?_
  refine wE (ev_fieldAddr' tu27 tf27_1 (z := 0) ts9 rfl ⟨_, rfl⟩ rfl) F S rfl fun a F=>?_
  refine wE (ev_load1 tu9 rfl rfl (box_ptr (cells := [.string c_.Path]) 0 rfl 1 rfl (lb rfl))) F S rfl fun a F=>?_
  refine wl_lit (l := ([c_.Path] : List ByteArray)) (vs := [.string c_.Path]) (parts := [(0, .tmp 12)]) (wn rfl) rfl rfl rfl tu22 te9 (sz_cons rfl sz_nil) rfl (Cat.cons (show Rep.rep _ c_.Path _ from rfl) (Cat.nil _)) (coa_cons rfl coa_nil) rfl F S rfl rfl ?_; clear F a S
  rintro v2 c2 a w h2 F S
  refine wE (ev_assign rfl) F S rfl fun a F=>?_
  refine wpList_nil ?_
  refine then_n ?_
  refine wp_ret ?_
  obtain rfl := sinj hm
  refine post_r _ F rfl (ar_cons (resT rfl) ar_nil) ?_
  replace S : St g [c2] fr w := St.tail [c2] _ (S.frontC 0 rfl)
  exact ⟨_, rfl, g, v2, c2, (Le.refl _), S, h2, rfl⟩

theorem treecommute_touches_ok {g : Gh} {fr : Hl} {w : World} {r : Bool} (path : ByteArray) (changes : (List TreeChange)) (vchanges1 : Value) (hchanges1 : RepSl g changes vchanges1) (S : St g [] fr w) (hm : treecommute_touches path changes = some r) :
  Calls Tryd.prog 70 [.string path, vchanges1].toArray w (fun en w' => ∃ v, en = .returned v ∧ ∃ (g' : Gh), Le g g' ∧ St g' [] fr w' ∧ .bool r = v) := by
 unfold treecommute_touches at hm
 refine calls_enter (fn := Tryd.f70) Tryd.func70 rfl Tryd.ntmps70 (lb rfl) ?_
 intro a F
 replace F : Fr 18 a [(0, .string path), (1, vchanges1)] := F
 refine wp_seq ?_
 refine wp_region_lit ?_
 refine wl_boxC (wn rfl) rfl rfl rfl F S rfl rfl ?_; clear F a S; rintro b1 a w F S
 refine wE (ev_assign rfl) F S rfl fun a F=>?_
 refine wpList_nil ?_
 refine then_n ?_
 refine wp_cut (fun a w => ∃ (g1 : Gh), Fr 18 a [] ∧ Le g g1 ∧ St g1 [] fr w ∧ treecommute_touches.j1 = some r) ?_ ?_
 ·refine wp_seq ?_
  refine wp_region_lit ?_
  refine wE (ev_move rfl) F S rfl fun a F=>?_
  refine wE (ev_lenSh hchanges1 rfl tu39) F S rfl fun a F=>?_
  refine wE (ev_move rfl) F S rfl fun a F=>?_
  refine wpList_nil ?_
  refine then_n ?_
  refine wp_block ?_
  obtain ⟨r1, hr1, hm⟩ := bind_some hm
  have hmo1 := hm; clear hm
  refine wp_iter (σ := Int) (ρ := Bool ⊕ Unit) (m := fun s => treecommute_touches.l1 path changes s) (I := fun x1 a w => ∃ (g2 : Gh), Fr 18 a [(9, .i6 x1), (8, .i6 (changes.length : Int)), (7, vchanges1), (2, bp b1 0)] ∧ Le g g2 ∧ St g2 [[bx b1 #[.string path] 9]] fr w) hr1 ?_ ?_
  ·exact ⟨g, F.sub ⟨rfl, rfl, rfl, rfl, trivial⟩, (Le.refl _), S⟩
  ·clear F S; rintro x1 a w x2 ⟨g2, F, l2, S⟩ hx1 hfin1
   have hm : treecommute_touches.l1 path changes x1 = some x2 := hx1; clear hx1
   unfold treecommute_touches.l1 at hm
   refine wp_seq ?_
   refine wp_region_lit ?_
   refine wE (ev_int rfl rfl (bo_lss _ _ _ _)) F S rfl fun a F=>?_
   refine wpList_nil ?_
   refine then_n ?_
   refine wp_seq ?_
   obtain ⟨hc1, hm⟩ | ⟨hc1, hm⟩ := ite_or hm
   ·refine wp_condT F rfl hc1 ?_
    refine wp_skip ?_
    refine then_n ?_
    refine wp_seq ?_
    refine wp_block ?_
    refine wp_seq ?_
    refine wp_region_lit ?_
    obtain ⟨y1, hy1, hm⟩ := bind_some hm
    obtain ⟨cs1, hr2, hp1⟩ := elemS (hchanges1.mono l2) hy1
    obtain ⟨v1, v2, rfl, h1, h2⟩ := rep_TreeChange hr2
    refine wE (ev_idxS (hchanges1.mono l2) hy1 tu39 ts27 rfl rfl) F S rfl fun a F=>?_
    refine wE (ev_loadA tu27 rfl (cs := [.i6 y1.Kind, .string y1.Path, .string y1.To, v1, v2]) ts27 rfl (ptr_mono (cks := [[bx b1 #[.string path] 9]]) (fr := fr) hp1 (Le.refl _))) F S rfl fun a F=>?_
    refine wl_alloc (wn rfl) rfl tz27 (cs := [.i6 0, .string ByteArray.empty, .string ByteArray.empty, nilS, nilS]) rfl F S rfl rfl ?_; clear F a S; rintro b2 a w F S
    refine wl_storeC (wn rfl) rfl F S rfl rfl (vs := [.i6 y1.Kind, .string y1.Path, .string y1.To, v1, v2]) rfl ts27 (one_cons rfl (one_cons rfl (one_cons rfl (one_cons h1.one (one_cons h2.one one_nil))))) (k := 0) rfl (lb rfl) (c' := #[.i6 y1.Kind, .string y1.Path, .string y1.To, v1, v2]) rfl rfl ?_; clear S; intro w S
    refine wpList_nil ?_
    refine then_n ?_
    refine wp_seq ?_
    refine wp_region_lit ?_
    refine wE (ev_loadA tu27 rfl (cs := [.i6 y1.Kind, .string y1.Path, .string y1.To, v1, v2]) ts27 rfl (box_ptr (cells := [.i6 y1.Kind, .string y1.Path, .string y1.To, v1, v2]) 0 rfl 0 rfl (lb rfl))) F S rfl fun a F=>?_
    obtain ⟨y2, hy2, hm⟩ := bind_some hm
    refine wl_call0 (wn rfl) rfl F rfl (treecommute_paths_ok (fr := (fl [[bx b2 #[.i6 y1.Kind, .string y1.Path, .string y1.To, v1, v2] 27], [bx b1 #[.string path] 9]] fr)) y1 v1 h1 v2 h2 S hy2) rfl tc68 rfl rfl ?_; clear F a S
    rintro _ a w ⟨g3, v3, c1, l3, S, h3, rfl⟩ F; replace S : St g3 [c1, [bx b2 #[.i6 y1.Kind, .string y1.Path, .string y1.To, v1, v2] 27], [bx b1 #[.string path] 9]] fr w := S
    refine wE (ev_makeFunc (xs := [.tmp 2]) (vs := [bp b1 0]) rfl) F S rfl fun a F=>?_
    replace F := F.sub (e' := [(15, .func (.func 110) #[] #[bp b1 0]), (14, v3), (9, .i6 x1), (8, .i6 (changes.length : Int)), (7, vchanges1), (2, bp b1 0)]) ⟨rfl, rfl, rfl, rfl, rfl, rfl, trivial⟩
    refine wl_callK (wn rfl) rfl (xs := [.tmp 14, .tmp 15]) (vs := [v3, .func (.func 110) #[] #[bp b1 0]]) (cap := []) (e' := [(9, .i6 x1), (8, .i6 (changes.length : Int)), (7, vchanges1), (2, bp b1 0)]) ⟨rfl, rfl, rfl, rfl, trivial⟩ F rfl rfl tc67 rfl rfl (calls_enter (fn := Tryd.f67) Tryd.func67 rfl Tryd.ntmps67 (lb rfl) ?_); clear F a; intro a F
    replace F : Fr 9 a [(0, v3), (1, .func (.func 110) #[] #[bp b1 0])] := F
    refine wp_seq ?_
    refine wp_region_lit ?_
    refine wE (ev_assign rfl) F S rfl fun a F=>?_
    refine wpList_nil ?_
    refine then_n ?_
    refine wp_seq ?_
    refine wp_region_lit ?_
    refine wE (ev_move rfl) F S rfl fun a F=>?_
    refine wE (ev_move rfl) F S rfl fun a F=>?_
    refine wl_call (wn rfl) rfl (xs := [.tmp 5, .tmp 6]) (vs := [v3, .func (.func 110) #[] #[bp b1 0]]) (cap := []) (R := fun u1 w => ∃ (x3 : Int) (g4 : Gh), u1 = .i6 x3 ∧ Le g3 g4 ∧ St g4 [[bx b1 #[.string path] 9]] fr w ∧ treecommute_touches.j2 x1 x3 = some x2) F rfl rfl tc109 (calls_enter (fn := Tryd.f109) Tryd.func109 rfl Tryd.ntmps109 (lb rfl) ?_) rfl rfl ?_
    ·clear F a; intro a F
     replace F : Fr 19 a [(0, v3), (1, .func (.func 110) #[] #[bp b1 0])] := F
     refine wp_seq ?_
     refine wp_region_lit ?_
     refine wE (ev_assign rfl) F S rfl fun a F=>?_
     refine wpList_nil ?_
     refine then_n ?_
     refine wp_cut (fun a w => ∃ (g5 : Gh), Fr 19 a [] ∧ Le g3 g5 ∧ St g5 [[bx b1 #[.string path] 9]] fr w ∧ treecommute_touches.j3 x1 = some x2) ?_ ?_
     ·refine wp_seq ?_
      refine wp_region_lit ?_
      refine wE (ev_move rfl) F S rfl fun a F=>?_
      refine wE (ev_lenOw h3 rfl tu22) F S rfl fun a F=>?_
      refine wE (ev_move rfl) F S rfl fun a F=>?_
      refine wpList_nil ?_
      refine then_n ?_
      refine wp_block ?_
      obtain ⟨r2, hr3, hm⟩ := bind_some hm
      have hmo2 := hm; clear hm
      refine wp_iter (σ := Int) (ρ := Int ⊕ Unit) (m := fun s => treecommute_touches.l2 path y2 s) (I := fun x4 a w => ∃ (g6 : Gh), Fr 19 a [(8, .i6 x4), (7, .i6 (y2.length : Int)), (0, v3), (1, .func (.func 110) #[] #[bp b1 0])] ∧ Le g3 g6 ∧ St g6 [c1, [bx b1 #[.string path] 9]] fr w) hr3 ?_ ?_
      ·replace S : St g3 [c1, [bx b1 #[.string path] 9]] fr w := St.tail [c1, [bx b1 #[.string path] 9]] _ ((S.frontC 2 rfl).frontC 1 rfl)
       exact ⟨g3, F.sub ⟨rfl, rfl, rfl, rfl, trivial⟩, (Le.refl _), S⟩
      ·clear F S; rintro x4 a w x5 ⟨g6, F, l6, S⟩ hx2 hfin2
       have hm : treecommute_touches.l2 path y2 x4 = some x5 := hx2; clear hx2
       unfold treecommute_touches.l2 at hm
       refine wp_seq ?_
       refine wp_region_lit ?_
       refine wE (ev_int rfl rfl (bo_lss _ _ _ _)) F S rfl fun a F=>?_
       refine wpList_nil ?_
       refine then_n ?_
       refine wp_seq ?_
       obtain ⟨hc3, hm⟩ | ⟨hc3, hm⟩ := ite_or hm
       ·refine wp_condT F rfl hc3 ?_
        refine wp_skip ?_
        refine then_n ?_
        refine wp_seq ?_
        refine wp_block ?_
        refine wp_seq ?_
        refine wp_region_lit ?_
        refine wE (ev_move rfl) F S rfl fun a F=>?_
        refine wE (ev_assign rfl) F S rfl fun a F=>?_
        refine wpList_nil ?_
        refine then_n ?_
        refine wp_seq ?_
        refine wp_region_lit ?_
        refine wE (ev_move rfl) F S rfl fun a F=>?_
        refine wE (ev_move rfl) F S rfl fun a F=>?_
        refine wE (ev_move rfl) F S rfl fun a F=>?_
        obtain ⟨y3, hy3, hm⟩ := bind_some hm
        refine wE (ev_idxO (h3.mono l6) hy3 tu22 ts9 rfl rfl) F S rfl fun a F=>?_
        obtain ⟨cs2, hr4, hq1⟩ := elemO (h3.mono l6) hy3
        obtain rfl := rep_str hr4
        refine wE (ev_load1 tu9 rfl rfl (hq1 _ _ 0 rfl)) F S rfl fun a F=>?_
        replace F := F.sub (e' := [(15, .string y3), (11, .func (.func 110) #[] #[bp b1 0]), (5, .i6 x4), (8, .i6 x4), (7, .i6 (y2.length : Int)), (0, v3), (1, .func (.func 110) #[] #[bp b1 0])]) ⟨rfl, rfl, rfl, rfl, rfl, rfl, rfl, trivial⟩
        refine wl_callK (wn rfl) rfl (xs := [.tmp 15]) (vs := [.string y3]) (cap := [bp b1 0]) (e' := [(5, .i6 x4), (8, .i6 x4), (7, .i6 (y2.length : Int)), (0, v3), (1, .func (.func 110) #[] #[bp b1 0])]) ⟨rfl, rfl, rfl, rfl, rfl, trivial⟩ F rfl rfl tc110 rfl rfl (calls_enter (fn := Tryd.f110) Tryd.func110 rfl Tryd.ntmps110 (lb rfl) ?_); clear F a; intro a F
        replace F : Fr 7 a [(0, .string y3), (1, bp b1 0)] := F
        refine wp_seq ?_
        refine wp_region_lit ?_
        refine wE (ev_assign rfl) F S rfl fun a F=>?_
        refine wpList_nil ?_
        refine then_n ?_
        refine wp_seq ?_
        refine wp_region_lit ?_
        refine wE (ev_move rfl) F S rfl fun a F=>?_
        refine wE (ev_load1 tu9 rfl rfl (box_ptr (cells := [.string path]) 1 rfl 0 rfl (lb rfl))) F S rfl fun a F=>?_
        obtain ⟨y4, hy4, hm⟩ := bind_some hm
        refine wl_call0 (wn rfl) rfl F rfl (treepatch_Related_ok (fr := (fl [c1, [bx b1 #[.string path] 9]] fr)) y3 path S hy4) rfl tc96 rfl rfl ?_; clear F a S
        rintro _ a w ⟨g7, l7, S, rfl⟩ F; replace S : St g7 [c1, [bx b1 #[.string path] 9]] fr w := S
        refine wE (ev_assign rfl) F S rfl fun a F=>?_
        refine wpList_nil ?_
        refine then_n ?_
        refine wp_ret ?_
        refine post_r _ F rfl (ar_cons (resT rfl) ar_nil) ?_
        refine ⟨_, rfl, ?_⟩; clear F a; intro a F
        replace F : Fr 19 a [(16, .bool y4), (5, .i6 x4), (8, .i6 x4), (7, .i6 (y2.length : Int)), (0, v3), (1, .func (.func 110) #[] #[bp b1 0])] := F
        refine wpList_nil ?_
        refine then_n ?_
        obtain ⟨hc4, hm⟩ | ⟨hc4, hm⟩ := ite_or hm
        ·refine wp_condT F rfl hc4 ?_
         refine wp_seq ?_
         refine wp_region_lit ?_
         refine wE (ev_move rfl) F S rfl fun a F=>?_
         refine wE (ev_assign rfl) F S rfl fun a F=>?_
         refine wpList_nil ?_
         refine then_n ?_
         refine wp_ret ?_
         refine inb_r ?_
         refine then_r ?_
         refine then_r ?_
         refine inb_r ?_
         refine then_r ?_
         obtain rfl := sinj hm
         obtain rfl := hfin2 _ rfl
         clear hm
         have hm : (treecommute_touches.j2 x1 x4 : Option (Step Int (Bool ⊕ Unit))) = some _ := hmo2
         refine post_r _ F rfl (ar_cons (resT rfl) ar_nil) ?_
         replace S : St g7 [[bx b1 #[.string path] 9]] fr w := St.tail [[bx b1 #[.string path] 9]] _ (S.frontC 1 rfl)
         exact ⟨_, rfl, ⟨x4, g7, rfl, (l6.trans l7), S, hm⟩⟩
        ·refine wp_condF F rfl hc4 ?_
         refine wp_skip ?_
         refine inb_n ?_
         refine then_n ?_
         refine wp_region_lit ?_
         obtain ⟨z2, hz2, hm⟩ := bind_some hm
         refine wE (ev_int rfl rfl (bo_add hz2)) F S rfl fun a F=>?_
         refine wE (ev_move rfl) F S rfl fun a F=>?_
         refine wpList_nil ?_
         refine then_n ?_
         obtain rfl := sinj hm
         refine ⟨_, rfl, ?_⟩
         exact ⟨g7, F.sub ⟨rfl, rfl, rfl, rfl, trivial⟩, (l6.trans l7), S⟩
       ·refine wp_condF F rfl hc3 ?_
        refine wp_exit ?_
        refine then_e ?_
        refine then_e ?_
        refine inb_x ?_
        refine then_n ?_
        obtain rfl := sinj hm
        obtain rfl := hfin2 _ rfl
        clear hm
        have hm : (treecommute_touches.j3 x1 : Option (Step Int (Bool ⊕ Unit))) = some _ := hmo2
        replace S : St g6 [[bx b1 #[.string path] 9]] fr w := St.tail [[bx b1 #[.string path] 9]] _ (S.frontC 1 rfl)
        exact ⟨g6, F.sub trivial, l6, S, hm⟩
     ·clear F S hm; rintro a w ⟨g5, F, l5, S, hm⟩
      refine wp_seq ?_
      refine wp_region_lit ?_
      refine wE (ev_assign rfl) F S rfl fun a F=>?_
      refine wpList_nil ?_
      refine then_n ?_
      refine wp_ret ?_
      refine post_r _ F rfl (ar_cons (resT rfl) ar_nil) ?_
      exact ⟨_, rfl, ⟨(-1), g5, rfl, l5, S, hm⟩⟩
    ·clear F S hm; rintro _ a w ⟨x3, g4, rfl, l4, S, hm⟩ F
     replace F := F.sub (e' := [(7, .i6 x3), (4, .bool false)]) ⟨rfl, rfl, trivial⟩
     refine wE (ev_int rfl rfl (bo_geq _ _ _ _)) F S rfl fun a F=>?_
     refine wE (ev_assign rfl) F S rfl fun a F=>?_
     refine wpList_nil ?_
     refine then_n ?_
     refine wp_ret ?_
     refine post_r _ F rfl (ar_cons (resT rfl) ar_nil) ?_
     refine ⟨_, rfl, ?_⟩; clear F a; intro a F
     replace F : Fr 18 a [(16, .bool (decide (x3 ≥ 0))), (9, .i6 x1), (8, .i6 (changes.length : Int)), (7, vchanges1), (2, bp b1 0)] := F
     refine wpList_nil ?_
     refine then_n ?_
     obtain ⟨hc2, hm⟩ | ⟨hc2, hm⟩ := ite_or hm
     ·refine wp_condT F rfl hc2 ?_
      refine wp_seq ?_
      refine wp_region_lit ?_
      refine wE (ev_assign rfl) F S rfl fun a F=>?_
      refine wpList_nil ?_
      refine then_n ?_
      refine wp_ret ?_
      refine inb_r ?_
      refine then_r ?_
      refine then_r ?_
      refine inb_r ?_
      refine then_r ?_
      obtain rfl := sinj hm
      obtain rfl := hfin1 _ rfl
      clear hm
      have hm : (some true : Option Bool) = some _ := hmo1
      obtain rfl := sinj hm
      refine post_r _ F rfl (ar_cons (resT rfl) ar_nil) ?_
      replace S : St g4 [] fr w := St.tail [] _ S
      exact ⟨_, rfl, g4, ((l2.trans l3).trans l4), S, rfl⟩
     ·refine wp_condF F rfl hc2 ?_
      refine wp_skip ?_
      refine inb_n ?_
      refine then_n ?_
      refine wp_region_lit ?_
      obtain ⟨z1, hz1, hm⟩ := bind_some hm
      refine wE (ev_int rfl rfl (bo_add hz1)) F S rfl fun a F=>?_
      refine wE (ev_move rfl) F S rfl fun a F=>?_
      refine wpList_nil ?_
      refine then_n ?_
      obtain rfl := sinj hm
      refine ⟨_, rfl, ?_⟩
      exact ⟨g4, F.sub ⟨rfl, rfl, rfl, rfl, trivial⟩, ((l2.trans l3).trans l4), S⟩
   ·refine wp_condF F rfl hc1 ?_
    refine wp_exit ?_
    refine then_e ?_
    refine then_e ?_
    refine inb_x ?_
    refine then_n ?_
    obtain rfl := sinj hm
    obtain rfl := hfin1 _ rfl
    clear hm
    have hm : (treecommute_touches.j1 : Option Bool) = some _ := hmo1
    replace S : St g2 [] fr w := St.tail [] _ S
    exact ⟨g2, F.sub trivial, l2, S, hm⟩
 ·clear F S hm; rintro a w ⟨g1, F, l1, S, hm⟩
  refine wp_seq ?_
  refine wp_region_lit ?_
  refine wE (ev_assign rfl) F S rfl fun a F=>?_
  refine wpList_nil ?_
  refine then_n ?_
  refine wp_ret ?_
  obtain rfl := sinj hm
  refine post_r _ F rfl (ar_cons (resT rfl) ar_nil) ?_
  exact ⟨_, rfl, g1, l1, S, rfl⟩

theorem treecommute_independent_ok {g : Gh} {fr : Hl} {w : World} {r : Bool} (a_ : TreeChange) (va_1 : Value) (ha_1 : RepSl g a_.Lines va_1) (va_2 : Value) (ha_2 : RepSl g a_.Patch.Hunks va_2) (b_ : TreeChange) (vb_1 : Value) (hb_1 : RepSl g b_.Lines vb_1) (vb_2 : Value) (hb_2 : RepSl g b_.Patch.Hunks vb_2) (S : St g [] fr w) (hm : treecommute_independent a_ b_ = some r) :
  Calls Tryd.prog 32 [.agg #[.i6 a_.Kind, .string a_.Path, .string a_.To, va_1, va_2], .agg #[.i6 b_.Kind, .string b_.Path, .string b_.To, vb_1, vb_2]].toArray w (fun en w' => ∃ v, en = .returned v ∧ ∃ (g' : Gh), Le g g' ∧ St g' [] fr w' ∧ .bool r = v) := by
 unfold treecommute_independent at hm
 refine calls_enter (fn := Tryd.f32) Tryd.func32 rfl Tryd.ntmps32 (lb rfl) ?_
 intro a F
 replace F : Fr 10 a [(0, .agg #[.i6 a_.Kind, .string a_.Path, .string a_.To, va_1, va_2]), (1, .agg #[.i6 b_.Kind, .string b_.Path, .string b_.To, vb_1, vb_2])] := F
 refine wp_seq ?_
 refine wp_region_lit ?_
 refine wl_boxC (wn rfl) rfl rfl rfl F S rfl rfl ?_; clear F a S; rintro b1 a w F S
 refine wl_boxC (wn rfl) rfl rfl rfl F S rfl rfl ?_; clear F a S; rintro b2 a w F S
 refine wE (ev_assign rfl) F S rfl fun a F=>?_
 refine wpList_nil ?_
 refine then_n ?_
 refine wp_seq ?_
 refine wp_region_lit ?_
 refine wE (ev_loadA tu27 rfl (cs := [.i6 a_.Kind, .string a_.Path, .string a_.To, va_1, va_2]) ts27 rfl (box_ptr (cells := [.i6 a_.Kind, .string a_.Path, .string a_.To, va_1, va_2]) 1 rfl 0 rfl (lb rfl))) F S rfl fun a F=>?_
 obtain ⟨y1, hy1, hm⟩ := bind_some hm
 refine wl_call0 (wn rfl) rfl F rfl (treecommute_paths_ok (fr := (fl [[bx b2 #[.i6 b_.Kind, .string b_.Path, .string b_.To, vb_1, vb_2] 27], [bx b1 #[.i6 a_.Kind, .string a_.Path, .string a_.To, va_1, va_2] 27]] fr)) a_ va_1 ha_1 va_2 ha_2 S hy1) rfl tc68 rfl rfl ?_; clear F a S
 rintro _ a w ⟨g1, v1, c1, l1, S, h1, rfl⟩ F; replace S : St g1 [c1, [bx b2 #[.i6 b_.Kind, .string b_.Path, .string b_.To, vb_1, vb_2] 27], [bx b1 #[.i6 a_.Kind, .string a_.Path, .string a_.To, va_1, va_2] 27]] fr w := S
 refine wE (ev_makeFunc (xs := [.tmp 3]) (vs := [bp b2 0]) rfl) F S rfl fun a F=>?_
 replace F := F.sub (e' := [(7, .func (.func 69) #[] #[bp b2 0]), (6, v1), (4, .bool false)]) ⟨rfl, rfl, rfl, trivial⟩
 refine wl_callK (wn rfl) rfl (xs := [.tmp 6, .tmp 7]) (vs := [v1, .func (.func 69) #[] #[bp b2 0]]) (cap := []) (e' := [(4, .bool false)]) ⟨rfl, trivial⟩ F rfl rfl tc67 rfl rfl (calls_enter (fn := Tryd.f67) Tryd.func67 rfl Tryd.ntmps67 (lb rfl) ?_); clear F a; intro a F
 replace F : Fr 9 a [(0, v1), (1, .func (.func 69) #[] #[bp b2 0])] := F
 refine wp_seq ?_
 refine wp_region_lit ?_
 refine wE (ev_assign rfl) F S rfl fun a F=>?_
 refine wpList_nil ?_
 refine then_n ?_
 refine wp_seq ?_
 refine wp_region_lit ?_
 refine wE (ev_move rfl) F S rfl fun a F=>?_
 refine wE (ev_move rfl) F S rfl fun a F=>?_
 refine wl_call (wn rfl) rfl (xs := [.tmp 5, .tmp 6]) (vs := [v1, .func (.func 69) #[] #[bp b2 0]]) (cap := []) (R := fun u1 w => ∃ (x1 : Int) (g2 : Gh), u1 = .i6 x1 ∧ Le g1 g2 ∧ St g2 [] fr w ∧ treecommute_independent.j1 x1 = some r) F rfl rfl tc109 (calls_enter (fn := Tryd.f109) Tryd.func109 rfl Tryd.ntmps109 (lb rfl) ?_) rfl rfl ?_
 ·clear F a; intro a F
  replace F : Fr 19 a [(0, v1), (1, .func (.func 69) #[] #[bp b2 0])] := F
  refine wp_seq ?_
  refine wp_region_lit ?_
  refine wE (ev_assign rfl) F S rfl fun a F=>?_
  refine wpList_nil ?_
  refine then_n ?_
  refine wp_cut (fun a w => ∃ (g3 : Gh), Fr 19 a [] ∧ Le g1 g3 ∧ St g3 [] fr w ∧ treecommute_independent.j2 = some r) ?_ ?_
  ·refine wp_seq ?_
   refine wp_region_lit ?_
   refine wE (ev_move rfl) F S rfl fun a F=>?_
   refine wE (ev_lenOw h1 rfl tu22) F S rfl fun a F=>?_
   refine wE (ev_move rfl) F S rfl fun a F=>?_
   refine wpList_nil ?_
   refine then_n ?_
   refine wp_block ?_
   obtain ⟨r1, hr1, hm⟩ := bind_some hm
   have hmo1 := hm; clear hm
   refine wp_iter (σ := Int) (ρ := Int ⊕ Unit) (m := fun s => treecommute_independent.l1 b_ y1 s) (I := fun x2 a w => ∃ (g4 : Gh), Fr 19 a [(8, .i6 x2), (7, .i6 (y1.length : Int)), (0, v1), (1, .func (.func 69) #[] #[bp b2 0])] ∧ Le g1 g4 ∧ St g4 [c1, [bx b2 #[.i6 b_.Kind, .string b_.Path, .string b_.To, vb_1, vb_2] 27]] fr w) hr1 ?_ ?_
   ·replace S : St g1 [c1, [bx b2 #[.i6 b_.Kind, .string b_.Path, .string b_.To, vb_1, vb_2] 27]] fr w := St.tail [c1, [bx b2 #[.i6 b_.Kind, .string b_.Path, .string b_.To, vb_1, vb_2] 27]] _ ((S.frontC 1 rfl).frontC 1 rfl)
    exact ⟨g1, F.sub ⟨rfl, rfl, rfl, rfl, trivial⟩, (Le.refl _), S⟩
   ·clear F S; rintro x2 a w x3 ⟨g4, F, l4, S⟩ hx1 hfin1
    have hm : treecommute_independent.l1 b_ y1 x2 = some x3 := hx1; clear hx1
    unfold treecommute_independent.l1 at hm
    refine wp_seq ?_
    refine wp_region_lit ?_
    refine wE (ev_int rfl rfl (bo_lss _ _ _ _)) F S rfl fun a F=>?_
    refine wpList_nil ?_
    refine then_n ?_
    refine wp_seq ?_
    obtain ⟨hc1, hm⟩ | ⟨hc1, hm⟩ := ite_or hm
    ·refine wp_condT F rfl hc1 ?_
     refine wp_skip ?_
     refine then_n ?_
     refine wp_seq ?_
     refine wp_block ?_
     refine wp_seq ?_
     refine wp_region_lit ?_
     refine wE (ev_move rfl) F S rfl fun a F=>?_
     refine wE (ev_assign rfl) F S rfl fun a F=>?_
     refine wpList_nil ?_
     refine then_n ?_
     refine wp_seq ?_
     refine wp_region_lit ?_
     refine wE (ev_move rfl) F S rfl fun a F=>?_
     refine wE (ev_move rfl) F S rfl fun a F=>?_
     refine wE (ev_move rfl) F S rfl fun a F=>?_
     obtain ⟨y2, hy2, hm⟩ := bind_some hm
     refine wE (ev_idxO (h1.mono l4) hy2 tu22 ts9 rfl rfl) F S rfl fun a F=>?_
     obtain ⟨cs1, hr2, hq1⟩ := elemO (h1.mono l4) hy2
     obtain rfl := rep_str hr2
     refine wE (ev_load1 tu9 rfl rfl (hq1 _ _ 0 rfl)) F S rfl fun a F=>?_
     replace F := F.sub (e' := [(15, .string y2), (11, .func (.func 69) #[] #[bp b2 0]), (5, .i6 x2), (8, .i6 x2), (7, .i6 (y1.length : Int)), (0, v1), (1, .func (.func 69) #[] #[bp b2 0])]) ⟨rfl, rfl, rfl, rfl, rfl, rfl, rfl, trivial⟩
     refine wl_callK (wn rfl) rfl (xs := [.tmp 15]) (vs := [.string y2]) (cap := [bp b2 0]) (e' := [(5, .i6 x2), (8, .i6 x2), (7, .i6 (y1.length : Int)), (0, v1), (1, .func (.func 69) #[] #[bp b2 0])]) ⟨rfl, rfl, rfl, rfl, rfl, trivial⟩ F rfl rfl tc69 rfl rfl (calls_enter (fn := Tryd.f69) Tryd.func69 rfl Tryd.ntmps69 (lb rfl) ?_); clear F a; intro a F
     replace F : Fr 8 a [(0, .string y2), (1, bp b2 0)] := F
     refine wp_seq ?_
     refine wp_region_lit ?_
     refine wE (ev_assign rfl) F S rfl fun a F=>?_
     refine wpList_nil ?_
     refine then_n ?_
     refine wp_seq ?_
     refine wp_region_lit ?_
     refine wE (ev_move rfl) F S rfl fun a F=>?_
     refine wE (ev_loadA tu27 rfl (cs := [.i6 b_.Kind, .string b_.Path, .string b_.To, vb_1, vb_2]) ts27 rfl (box_ptr (cells := [.i6 b_.Kind, .string b_.Path, .string b_.To, vb_1, vb_2]) 1 rfl 0 rfl (lb rfl))) F S rfl fun a F=>?_
     refine wl_lit (l := ([b_] : List TreeChange)) (vs := [.agg #[.i6 b_.Kind, .string b_.Path, .string b_.To, vb_1, vb_2]]) (parts := [(0, .tmp 5)]) (wn rfl) rfl rfl rfl tu39 te27 (sz_cons rfl sz_nil) rfl (Cat.cons (rep_TreeChange_mk (x := b_) (hb_1.mono (l1.trans l4)) (hb_2.mono (l1.trans l4))) (Cat.nil _)) (coa_cons rfl coa_nil) rfl F S rfl rfl ?_; clear F a S
     rintro v2 c2 a w h2 F S
     obtain ⟨g5, l5, S, h3⟩ : ∃ gz, Le g4 gz ∧ St gz [c1, [bx b2 #[.i6 b_.Kind, .string b_.Path, .string b_.To, vb_1, vb_2] 27]] fr w ∧ RepSl gz ([b_] : List TreeChange) v2 := ⟨_, Le.add _ _, S.freeze 0 rfl, OwnS.freeze (S.front 0 rfl) h2⟩
     obtain ⟨y3, hy3, hm⟩ := bind_some hm
     refine wl_call0 (wn rfl) rfl F rfl (treecommute_touches_ok (fr := (fl [c1, [bx b2 #[.i6 b_.Kind, .string b_.Path, .string b_.To, vb_1, vb_2] 27]] fr)) y2 ([b_] : List TreeChange) v2 h3 S hy3) rfl tc70 rfl rfl ?_; clear F a S
     rintro _ a w ⟨g6, l6, S, rfl⟩ F; replace S : St g6 [c1, [bx b2 #[.i6 b_.Kind, .string b_.Path, .string b_.To, vb_1, vb_2] 27]] fr w := S
     refine wE (ev_assign rfl) F S rfl fun a F=>?_
     refine wpList_nil ?_
     refine then_n ?_
     refine wp_ret ?_
     refine post_r _ F rfl (ar_cons (resT rfl) ar_nil) ?_
     refine ⟨_, rfl, ?_⟩; clear F a; intro a F
     replace F : Fr 19 a [(16, .bool y3), (5, .i6 x2), (8, .i6 x2), (7, .i6 (y1.length : Int)), (0, v1), (1, .func (.func 69) #[] #[bp b2 0])] := F
     refine wpList_nil ?_
     refine then_n ?_
     obtain ⟨hc2, hm⟩ | ⟨hc2, hm⟩ := ite_or hm
     ·refine wp_condT F rfl hc2 ?_
      refine wp_seq ?_
      refine wp_region_lit ?_
      refine wE (ev_move rfl) F S rfl fun a F=>?_
      refine wE (ev_assign rfl) F S rfl fun a F=>?_
      refine wpList_nil ?_
      refine then_n ?_
      refine wp_ret ?_
      refine inb_r ?_
      refine then_r ?_
      refine then_r ?_
      refine inb_r ?_
      refine then_r ?_
      obtain rfl := sinj hm
      obtain rfl := hfin1 _ rfl
      clear hm
      have hm : (treecommute_independent.j1 x2 : Option Bool) = some _ := hmo1
      refine post_r _ F rfl (ar_cons (resT rfl) ar_nil) ?_
      replace S : St g6 [] fr w := St.tail [] _ S
      exact ⟨_, rfl, ⟨x2, g6, rfl, ((l4.trans l5).trans l6), S, hm⟩⟩
     ·refine wp_condF F rfl hc2 ?_
      refine wp_skip ?_
      refine inb_n ?_
      refine then_n ?_
      refine wp_region_lit ?_
      obtain ⟨z1, hz1, hm⟩ := bind_some hm
      refine wE (ev_int rfl rfl (bo_add hz1)) F S rfl fun a F=>?_
      refine wE (ev_move rfl) F S rfl fun a F=>?_
      refine wpList_nil ?_
      refine then_n ?_
      obtain rfl := sinj hm
      refine ⟨_, rfl, ?_⟩
      exact ⟨g6, F.sub ⟨rfl, rfl, rfl, rfl, trivial⟩, ((l4.trans l5).trans l6), S⟩
    ·refine wp_condF F rfl hc1 ?_
     refine wp_exit ?_
     refine then_e ?_
     refine then_e ?_
     refine inb_x ?_
     refine then_n ?_
     obtain rfl := sinj hm
     obtain rfl := hfin1 _ rfl
     clear hm
     have hm : (treecommute_independent.j2 : Option Bool) = some _ := hmo1
     replace S : St g4 [] fr w := St.tail [] _ S
     exact ⟨g4, F.sub trivial, l4, S, hm⟩
  ·clear F S hm; rintro a w ⟨g3, F, l3, S, hm⟩
   refine wp_seq ?_
   refine wp_region_lit ?_
   refine wE (ev_assign rfl) F S rfl fun a F=>?_
   refine wpList_nil ?_
   refine then_n ?_
   refine wp_ret ?_
   refine post_r _ F rfl (ar_cons (resT rfl) ar_nil) ?_
   exact ⟨_, rfl, ⟨(-1), g3, rfl, l3, S, hm⟩⟩
 ·clear F S hm; rintro _ a w ⟨x1, g2, rfl, l2, S, hm⟩ F
  replace F := F.sub (e' := [(7, .i6 x1), (4, .bool false)]) ⟨rfl, rfl, trivial⟩
  refine wE (ev_int rfl rfl (bo_geq _ _ _ _)) F S rfl fun a F=>?_
  refine wE (ev_assign rfl) F S rfl fun a F=>?_
  refine wpList_nil ?_
  refine then_n ?_
  refine wp_ret ?_
  refine post_r _ F rfl (ar_cons (resT rfl) ar_nil) ?_
  refine ⟨_, rfl, ?_⟩; clear F a; intro a F
  replace F : Fr 10 a [(8, .bool (decide (x1 ≥ 0))), (4, .bool false)] := F
  refine wE (ev_not rfl) F S rfl fun a F=>?_
  refine wE (ev_assign rfl) F S rfl fun a F=>?_
  refine wpList_nil ?_
  refine then_n ?_
  refine wp_ret ?_
  obtain rfl := sinj hm
  refine post_r _ F rfl (ar_cons (resT rfl) ar_nil) ?_
  exact ⟨_, rfl, g2, (l1.trans l2), S, rfl⟩

theorem textpatch_Second_ok {g : Gh} {fr : Hl} {w : World} {r : Fault} (p_ : Patch) (vp_1 : Value) (hp_1 : RepSl g p_.Hunks vp_1) (index : Int) (S : St g [] fr w) (hm : textpatch_Second p_ index = some r) :
  Calls Tryd.prog 111 [.agg #[vp_1], .i6 index].toArray w (fun en w' => ∃ v, en = .returned v ∧ ∃ (g' : Gh), Le g g' ∧ St g' [] fr w' ∧ .agg #[.i6 r.Code, .i6 r.Index] = v) := by
 unfold textpatch_Second at hm
 refine calls_enter (fn := Tryd.f111) Tryd.func111 rfl Tryd.ntmps111 (lb rfl) ?_
 intro a F
 replace F : Fr 16 a [(0, .agg #[vp_1]), (1, .i6 index)] := F
 refine wp_seq ?_
 refine wp_region_lit ?_
 refine wl_boxC (wn rfl) rfl rfl rfl F S rfl rfl ?_; clear F a S; rintro b1 a w F S
 refine wl_alloc (wn rfl) rfl tz29 (cs := [.i6 0, .i6 0]) rfl F S rfl rfl ?_; clear F a S; rintro b2 a w F S
 refine wpList_nil ?_
 refine then_n ?_
 refine wp_seq ?_
 refine wp_seq ?_
 refine wp_region_lit ?_
 refine wE (ev_loadA tu25 rfl (cs := [vp_1]) ts25 rfl (box_ptr (cells := [vp_1]) 1 rfl 0 rfl (lb rfl))) F S rfl fun a F=>?_
 obtain ⟨y1, hy1, hm⟩ := bind_some hm
 refine wl_call0 (wn rfl) rfl F rfl (textpatch_Validate_ok (fr := (fl [[bx b2 #[.i6 0, .i6 0] 29], [bx b1 #[vp_1] 25]] fr)) p_ vp_1 hp_1 S hy1) rfl tc41 rfl rfl ?_; clear F a S
 rintro _ a w ⟨g1, l1, S, rfl⟩ F; replace S : St g1 [[bx b2 #[.i6 0, .i6 0] 29], [bx b1 #[vp_1] 25]] fr w := S
 refine wl_alloc (wn rfl) rfl tz29 (cs := [.i6 0, .i6 0]) rfl F S rfl rfl ?_; clear F a S; rintro b3 a w F S
 refine wl_storeC (wn rfl) rfl F S rfl rfl (vs := [.i6 y1.Code, .i6 y1.Index]) rfl ts29 (one_cons rfl (one_cons rfl one_nil)) (k := 0) rfl (lb rfl) (c' := #[.i6 y1.Code, .i6 y1.Index]) rfl rfl ?_; clear S; intro w S
 refine wpList_nil ?_
 refine then_n ?_
 refine wp_seq ?_
 refine wp_region_lit ?_
 refine wE (ev_loadA tu29 rfl (cs := [.i6 y1.Code, .i6 y1.Index]) ts29 rfl (box_ptr (cells := [.i6 y1.Code, .i6 y1.Index]) 0 rfl 0 rfl (lb rfl))) F S rfl fun a F=>?_
 refine wE (ev_build (parts := []) (vs := []) rfl (fun w => tb29_  w)) F S rfl fun a F=>?_
 refine wE (ev_neS tu29 tqa29 tqb29 tqc29 (xs := [.i6 y1.Code, .i6 y1.Index]) (ys := [.i6 0, .i6 0]) rfl rfl ⟨_, _, rfl, by decide, ⟨_, _, rfl, rfl, leaf_int tu3⟩, ⟨_, _, rfl, by decide, ⟨_, _, rfl, rfl, leaf_int tu3⟩, rfl⟩⟩) F S rfl fun a F=>?_
 refine wpList_nil ?_
 refine then_n ?_
 obtain ⟨hc1, hm⟩ | ⟨hc1, hm⟩ := ite_or hm
 ·refine wp_condT F rfl hc1 ?_
  refine wp_seq ?_
  refine wp_region_lit ?_
  refine wE (ev_fieldAddr' tu29 tf29_0 (z := 0) ts3 rfl ⟨_, rfl⟩ rfl) F S rfl fun a F=>?_
  refine wE (ev_load1 tu3 rfl rfl (box_ptr (cells := [.i6 y1.Code]) 0 rfl 0 rfl (lb rfl))) F S rfl fun a F=>?_
  refine wE (ev_move rfl) F S rfl fun a F=>?_
  refine wE (ev_build (parts := [(0, .tmp 12), (1, .tmp 13)]) (vs := [(0, .i6 y1.Code), (1, .i6 index)]) rfl (fun w => tb29_0_1 y1.Code index w)) F S rfl fun a F=>?_
  refine wl_storeC (wn rfl) rfl F S rfl rfl (vs := [.i6 y1.Code, .i6 index]) rfl ts29 (one_cons rfl (one_cons rfl one_nil)) (k := 1) rfl (lb rfl) (c' := #[.i6 y1.Code, .i6 index]) rfl rfl ?_; clear S; intro w S
  refine wpList_nil ?_
  refine then_n ?_
  refine wp_ret ?_
  refine then_r ?_
  obtain rfl := sinj hm
  refine post_r _ F rfl (ar_cons (resA rfl tu29 rfl (box_ptr (cells := [.i6 y1.Code, .i6 index]) 1 rfl 0 rfl (lb rfl) w S) ts29) ar_nil) ?_
  replace S : St g1 [] fr w := St.tail [] _ S
  exact ⟨_, rfl, g1, l1, S, rfl⟩
 ·refine wp_condF F rfl hc1 ?_
  refine wp_skip ?_
  refine then_n ?_
  refine wp_seq ?_
  refine wp_region_lit ?_
  refine wE (ev_build (parts := []) (vs := []) rfl (fun w => tb29_  w)) F S rfl fun a F=>?_
  refine wl_storeC (wn rfl) rfl F S rfl rfl (vs := [.i6 0, .i6 0]) rfl ts29 (one_cons rfl (one_cons rfl one_nil)) (k := 1) rfl (lb rfl) (c' := #[.i6 0, .i6 0]) rfl rfl ?_; clear S; intro w S
  refine wpList_nil ?_
  refine then_n ?_
  refine wp_ret ?_
  obtain rfl := sinj hm
  refine post_r _ F rfl (ar_cons (resA rfl tu29 rfl (box_ptr (cells := [.i6 0, .i6 0]) 1 rfl 0 rfl (lb rfl) w S) ts29) ar_nil) ?_
  replace S : St g1 [] fr w := St.tail [] _ S
  exact ⟨_, rfl, g1, l1, S, rfl⟩

theorem commute_both_ok {g : Gh} {fr : Hl} {w : World} {r : Fault} (p_ : Patch) (vp_1 : Value) (hp_1 : RepSl g p_.Hunks vp_1) (q_ : Patch) (vq_1 : Value) (hq_1 : RepSl g q_.Hunks vq_1) (S : St g [] fr w) (hm : commute_both p_ q_ = some r) :
  Calls Tryd.prog 71 [.agg #[vp_1], .agg #[vq_1]].toArray w (fun en w' => ∃ v, en = .returned v ∧ ∃ (g' : Gh), Le g g' ∧ St g' [] fr w' ∧ .agg #[.i6 r.Code, .i6 r.Index] = v) := by
 unfold commute_both at hm
 refine calls_enter (fn := Tryd.f71) Tryd.func71 rfl Tryd.ntmps71 (lb rfl) ?_
 intro a F
 replace F : Fr 14 a [(0, .agg #[vp_1]), (1, .agg #[vq_1])] := F
 refine wp_seq ?_
 refine wp_region_lit ?_
 refine wl_boxC (wn rfl) rfl rfl rfl F S rfl rfl ?_; clear F a S; rintro b1 a w F S
 refine wl_boxC (wn rfl) rfl rfl rfl F S rfl rfl ?_; clear F a S; rintro b2 a w F S
 refine wl_alloc (wn rfl) rfl tz29 (cs := [.i6 0, .i6 0]) rfl F S rfl rfl ?_; clear F a S; rintro b3 a w F S
 refine wpList_nil ?_
 refine then_n ?_
 refine wp_seq ?_
 refine wp_seq ?_
 refine wp_region_lit ?_
 refine wE (ev_loadA tu25 rfl (cs := [vp_1]) ts25 rfl (box_ptr (cells := [vp_1]) 2 rfl 0 rfl (lb rfl))) F S rfl fun a F=>?_
 obtain ⟨y1, hy1, hm⟩ := bind_some hm
 refine wl_call0 (wn rfl) rfl F rfl (textpatch_Validate_ok (fr := (fl [[bx b3 #[.i6 0, .i6 0] 29], [bx b2 #[vq_1] 25], [bx b1 #[vp_1] 25]] fr)) p_ vp_1 hp_1 S hy1) rfl tc41 rfl rfl ?_; clear F a S
 rintro _ a w ⟨g1, l1, S, rfl⟩ F; replace S : St g1 [[bx b3 #[.i6 0, .i6 0] 29], [bx b2 #[vq_1] 25], [bx b1 #[vp_1] 25]] fr w := S
 refine wl_alloc (wn rfl) rfl tz29 (cs := [.i6 0, .i6 0]) rfl F S rfl rfl ?_; clear F a S; rintro b4 a w F S
 refine wl_storeC (wn rfl) rfl F S rfl rfl (vs := [.i6 y1.Code, .i6 y1.Index]) rfl ts29 (one_cons rfl (one_cons rfl one_nil)) (k := 0) rfl (lb rfl) (c' := #[.i6 y1.Code, .i6 y1.Index]) rfl rfl ?_; clear S; intro w S
 refine wpList_nil ?_
 refine then_n ?_
 refine wp_seq ?_
 refine wp_region_lit ?_
 refine wE (ev_loadA tu29 rfl (cs := [.i6 y1.Code, .i6 y1.Index]) ts29 rfl (box_ptr (cells := [.i6 y1.Code, .i6 y1.Index]) 0 rfl 0 rfl (lb rfl))) F S rfl fun a F=>?_
 refine wE (ev_build (parts := []) (vs := []) rfl (fun w => tb29_  w)) F S rfl fun a F=>?_
 refine wE (ev_neS tu29 tqa29 tqb29 tqc29 (xs := [.i6 y1.Code, .i6 y1.Index]) (ys := [.i6 0, .i6 0]) rfl rfl ⟨_, _, rfl, by decide, ⟨_, _, rfl, rfl, leaf_int tu3⟩, ⟨_, _, rfl, by decide, ⟨_, _, rfl, rfl, leaf_int tu3⟩, rfl⟩⟩) F S rfl fun a F=>?_
 refine wpList_nil ?_
 refine then_n ?_
 obtain ⟨hc1, hm⟩ | ⟨hc1, hm⟩ := ite_or hm
 ·refine wp_condT F rfl hc1 ?_
  refine wp_seq ?_
  refine wp_region_lit ?_
  refine wE (ev_loadA tu29 rfl (cs := [.i6 y1.Code, .i6 y1.Index]) ts29 rfl (box_ptr (cells := [.i6 y1.Code, .i6 y1.Index]) 0 rfl 0 rfl (lb rfl))) F S rfl fun a F=>?_
  refine wl_storeC (wn rfl) rfl F S rfl rfl (vs := [.i6 y1.Code, .i6 y1.Index]) rfl ts29 (one_cons rfl (one_cons rfl one_nil)) (k := 1) rfl (lb rfl) (c' := #[.i6 y1.Code, .i6 y1.Index]) rfl rfl ?_; clear S; intro w S
  refine wpList_nil ?_
  refine then_n ?_
  refine wp_ret ?_
  refine then_r ?_
  obtain rfl := sinj hm
  refine post_r _ F rfl (ar_cons (resA rfl tu29 rfl (box_ptr (cells := [.i6 y1.Code, .i6 y1.Index]) 1 rfl 0 rfl (lb rfl) w S) ts29) ar_nil) ?_
  replace S : St g1 [] fr w := St.tail [] _ S
  exact ⟨_, rfl, g1, l1, S, rfl⟩
 ·refine wp_condF F rfl hc1 ?_
  refine wp_skip ?_
  refine then_n ?_
  refine wp_seq ?_
  refine wp_region_lit ?_
  refine wE (ev_loadA tu25 rfl (cs := [vq_1]) ts25 rfl (box_ptr (cells := [vq_1]) 2 rfl 0 rfl (lb rfl))) F S rfl fun a F=>?_
  obtain ⟨y2, hy2, hm⟩ := bind_some hm
  refine wl_call0 (wn rfl) rfl F rfl (textpatch_Second_ok (fr := (fl [[bx b4 #[.i6 y1.Code, .i6 y1.Index] 29], [bx b3 #[.i6 0, .i6 0] 29], [bx b2 #[vq_1] 25], [bx b1 #[vp_1] 25]] fr)) q_ vq_1 (hq_1.mono l1) (-2) S hy2) rfl tc111 rfl rfl ?_; clear F a S
  rintro _ a w ⟨g2, l2, S, rfl⟩ F; replace S : St g2 [[bx b4 #[.i6 y1.Code, .i6 y1.Index] 29], [bx b3 #[.i6 0, .i6 0] 29], [bx b2 #[vq_1] 25], [bx b1 #[vp_1] 25]] fr w := S
  refine wl_storeC (wn rfl) rfl F S rfl rfl (vs := [.i6 y2.Code, .i6 y2.Index]) rfl ts29 (one_cons rfl (one_cons rfl one_nil)) (k := 1) rfl (lb rfl) (c' := #[.i6 y2.Code, .i6 y2.Index]) rfl rfl ?_; clear S; intro w S
  refine wpList_nil ?_
  refine then_n ?_
  refine wp_ret ?_
  obtain rfl := sinj hm
  refine post_r _ F rfl (ar_cons (resA rfl tu29 rfl (box_ptr (cells := [.i6 y2.Code, .i6 y2.Index]) 1 rfl 0 rfl (lb rfl) w S) ts29) ar_nil) ?_
  replace S : St g2 [] fr w := St.tail [] _ S
  exact ⟨_, rfl, g2, (l1.trans l2), S, rfl⟩

theorem commute_newRanges_ok {g : Gh} {fr : Hl} {w : World} {r : (List Range_commute)} (p_ : Patch) (vp_1 : Value) (hp_1 : RepSl g p_.Hunks vp_1) (S : St g [] fr w) (hm : commute_newRanges p_ = some r) :
  Calls Tryd.prog 72 [.agg #[vp_1]].toArray w (fun en w' => ∃ v, en = .returned v ∧ ∃ (g' : Gh) (v1 : Value) (c1 : Hl), Le g g' ∧ St g' [c1] fr w' ∧ OwnS g' r v1 c1 ∧ v1 = v) := by
 unfold commute_newRanges at hm
 refine calls_enter (fn := Tryd.f72) Tryd.func72 rfl Tryd.ntmps72 (lb rfl) ?_
 intro a F
 replace F : Fr 37 a [(0, .agg #[vp_1])] := F
 refine wp_seq ?_
 refine wp_region_lit ?_
 refine wl_boxC (wn rfl) rfl rfl rfl F S rfl rfl ?_; clear F a S; rintro b1 a w F S
 refine wE (ev_assign rfl) F S rfl fun a F=>?_
 refine wpList_nil ?_
 refine then_n ?_
 refine wp_seq ?_
 refine wp_region_lit ?_
 refine wE (ev_assign rfl) F S rfl fun a F=>?_
 refine wpList_nil ?_
 refine then_n ?_
 refine wp_seq ?_
 refine wp_region_lit ?_
 refine wE (ev_assign rfl) F S rfl fun a F=>?_
 refine wpList_nil ?_
 refine then_n ?_
 refine wp_cut (fun a w => ∃ (x1 : List Range_commute) (v1 : Value) (c1 : Hl) (g1 : Gh), Fr 37 a [(3, v1)] ∧ Le g g1 ∧ St g1 [c1] fr w ∧ OwnS g1 x1 v1 c1 ∧ commute_newRanges.j1 x1 = some r) ?_ ?_
 ·refine wp_seq ?_
  refine wp_region_lit ?_
  refine wE (ev_fieldAddr' tu25 tf25_0 (z := 0) ts23 rfl ⟨_, rfl⟩ rfl) F S rfl fun a F=>?_
  refine wE (ev_load1 tu23 rfl rfl (box_ptr (cells := [vp_1]) 0 rfl 0 rfl (lb rfl))) F S rfl fun a F=>?_
  refine wE (ev_lenSh hp_1 rfl tu23) F S rfl fun a F=>?_
  refine wE (ev_move rfl) F S rfl fun a F=>?_
  refine wpList_nil ?_
  refine then_n ?_
  refine wp_block ?_
  obtain ⟨r1, hr1, hm⟩ := bind_some hm
  have hmo1 := hm; clear hm
  refine wp_iter (σ := Int × Int × (List Range_commute)) (ρ := (List Range_commute)) (m := fun s => commute_newRanges.l1 p_ s.1 s.2.1 s.2.2) (I := fun s a w => match s with | (x2, x3, x4) => ∃ (v2 : Value) (c2 : Hl) (g2 : Gh), Fr 37 a [(11, .i6 x2), (10, .i6 (p_.Hunks.length : Int)), (9, vp_1), (4, .i6 x3), (3, v2)] ∧ Le g g2 ∧ St g2 [c2] fr w ∧ OwnS g2 x4 v2 c2) hr1 ?_ ?_
  ·dsimp only
   replace S : St g [[], [bx b1 #[vp_1] 25]] fr w := S
   replace S : St g [[]] fr w := St.tail [[]] _ (S.frontC 0 rfl)
   exact ⟨(nilS), [], g, F.sub ⟨rfl, rfl, rfl, rfl, rfl, trivial⟩, (Le.refl _), S, (OwnS.nil _)⟩
  ·clear F S; rintro ⟨x2, x3, x4⟩ a w x5 ⟨v2, c2, g2, F, l2, S, h2⟩ hx1 hfin1
   have hm : commute_newRanges.l1 p_ x2 x3 x4 = some x5 := hx1; clear hx1
   unfold commute_newRanges.l1 at hm
   refine wp_seq ?_
   refine wp_region_lit ?_
   refine wE (ev_int rfl rfl (bo_lss _ _ _ _)) F S rfl fun a F=>?_
   refine wpList_nil ?_
   refine then_n ?_
   refine wp_seq ?_
   obtain ⟨hc1, hm⟩ | ⟨hc1, hm⟩ := ite_or hm
   ·refine wp_condT F rfl hc1 ?_
    refine wp_skip ?_
    refine then_n ?_
    refine wp_seq ?_
    refine wp_block ?_
    refine wp_seq ?_
    refine wp_region_lit ?_
    obtain ⟨y1, hy1, hm⟩ := bind_some hm
    obtain ⟨cs1, hr2, hp1⟩ := elemS (hp_1.mono l2) hy1
    obtain ⟨v3, v4, rfl, h3, h4⟩ := rep_Hunk hr2
    refine wE (ev_idxS (hp_1.mono l2) hy1 tu23 ts69 rfl rfl) F S rfl fun a F=>?_
    refine wE (ev_loadA tu69 rfl (cs := [.i6 y1.At, v3, v4]) ts69 rfl (ptr_mono (cks := [c2]) (fr := fr) hp1 (Le.refl _))) F S rfl fun a F=>?_
    refine wl_alloc (wn rfl) rfl tz69 (cs := [.i6 0, nilS, nilS]) rfl F S rfl rfl ?_; clear F a S; rintro b2 a w F S
    refine wl_storeC (wn rfl) rfl F S rfl rfl (vs := [.i6 y1.At, v3, v4]) rfl ts69 (one_cons rfl (one_cons h3.one (one_cons h4.one one_nil))) (k := 0) rfl (lb rfl) (c' := #[.i6 y1.At, v3, v4]) rfl rfl ?_; clear S; intro w S
    refine wpList_nil ?_
    refine then_n ?_
    refine wp_seq ?_
    refine wp_region_lit ?_
    refine wE (ev_fieldAddr' tu69 tf69_0 (z := 0) ts3 rfl ⟨_, rfl⟩ rfl) F S rfl fun a F=>?_
    refine wE (ev_load1 tu3 rfl rfl (box_ptr (cells := [.i6 y1.At]) 0 rfl 0 rfl (lb rfl))) F S rfl fun a F=>?_
    refine wE (ev_move rfl) F S rfl fun a F=>?_
    obtain ⟨z1, hz1, hm⟩ := bind_some hm
    refine wE (ev_int rfl rfl (bo_add hz1)) F S rfl fun a F=>?_
    refine wE (ev_assign rfl) F S rfl fun a F=>?_
    refine wpList_nil ?_
    refine then_n ?_
    refine wp_seq ?_
    refine wp_dv [12] mo S ?_; clear S; intro ok1 w S
    refine dv_et ok1 0 rfl (ev_move rfl) F rfl fun a F=>?_
    refine dv_et ok1 1 rfl (ev_move rfl) F rfl fun a F=>?_
    refine dv_et ok1 2 rfl (ev_move rfl) F rfl fun a F=>?_
    refine dv_et ok1 3 rfl (ev_fieldAddr' tu69 tf69_2 (z := 0) ts22 rfl ⟨_, rfl⟩ rfl) F rfl fun a F=>?_
    refine dv_ev ok1 4 rfl (ev_load1 tu22 rfl rfl (box_ptr (cells := [v4]) 0 rfl 2 rfl (lb rfl))) F S rfl fun a F=>?_
    refine dv_et ok1 5 rfl (ev_lenSh h4 rfl tu22) F rfl fun a F=>?_
    obtain ⟨z2, hz2, hm⟩ := bind_some hm
    refine dv_et ok1 6 rfl (ev_int rfl rfl (bo_add hz2)) F rfl fun a F=>?_
    refine dv_ev ok1 7 rfl (ev_loadA tu69 rfl (cs := [.i6 y1.At, v3, v4]) ts69 rfl (box_ptr (cells := [.i6 y1.At, v3, v4]) 0 rfl 0 rfl (lb rfl))) F S rfl fun a F=>?_
    refine dv_op ok1 8 rfl [(4, v4)] ?_
    obtain ⟨y2, hy2, hm⟩ := bind_some hm
    refine wl_call0 (wn rfl) rfl F rfl (textpatch_Growth_ok (fr := (fl [[bx b2 #[.i6 y1.At, v3, v4] 69], c2] fr)) y1 v3 h3 v4 h4 S hy2) rfl tc100 rfl rfl ?_; clear F a S
    rintro _ a w ⟨g3, l3, S, rfl⟩ F; replace S : St g3 [[bx b2 #[.i6 y1.At, v3, v4] 69], c2] fr w := S
    refine dv_nx ⟨yl_ev rfl rfl (ev_load1 tu22 rfl rfl (box_ptr (cells := [v4]) 0 rfl 2 rfl (lb rfl))) F S, trivial⟩ ?_
    refine dv_et ok1 9 rfl (ev_build (parts := [(0, .tmp 20), (1, .tmp 25), (2, .tmp 27)]) (vs := [(0, .i6 z1), (1, .i6 z2), (2, .i6 y2)]) rfl (fun w => tb142_0_1_2 z1 z2 y2 w)) F rfl fun a F=>?_
    refine dv_op ok1 10 rfl [] ?_
    refine wl_lit (l := ([({ Low := z1, High := z2, Growth := y2 } : Range_commute)] : List Range_commute)) (vs := [.agg #[.i6 z1, .i6 z2, .i6 y2]]) (parts := [(0, .tmp 28)]) (wn rfl) rfl rfl rfl tu109 te142 (sz_cons rfl sz_nil) rfl (Cat.cons (rep_Range_commute_mk (x := ({ Low := z1, High := z2, Growth := y2 } : Range_commute)) ) (Cat.nil _)) (coa_cons rfl coa_nil) rfl F S rfl rfl ?_; clear F a S
    rintro v5 c3 a w h5 F S
    refine dv_nx trivial ?_
    refine dv_op ok1 11 rfl [] ?_
    obtain ⟨cs2, hk1, hr3⟩ := OwnS.reads h5
    obtain ⟨y3, hy3, hm⟩ := bind_some hm
    refine wl_append (wn rfl) rfl tu109 tu109 te142 (by decide) (by decide) F S rfl rfl (k := 2) rfl (h2.mono l3) hk1 rfl (hr3 _ _ _ 0 rfl S) hy3 rfl rfl ?_; clear F a S
    rintro v6 c4 a w h6 S F; replace S : St g3 [c3, [bx b2 #[.i6 y1.At, v3, v4] 69], c4] fr w := S
    refine dv_nx trivial ?_
    refine dv_op ok1 12 rfl [] ?_
    refine wE (ev_assign rfl) F S rfl fun a F=>?_
    refine dv_nx trivial ?_
    refine dv_fin ok1 ?_
    refine then_n ?_
    refine wp_region_lit ?_
    refine wE (ev_move rfl) F S rfl fun a F=>?_
    refine wE (ev_loadA tu69 rfl (cs := [.i6 y1.At, v3, v4]) ts69 rfl (box_ptr (cells := [.i6 y1.At, v3, v4]) 1 rfl 0 rfl (lb rfl))) F S rfl fun a F=>?_
    obtain ⟨y4, hy4, hm⟩ := bind_some hm
    refine wl_call0 (wn rfl) rfl F rfl (textpatch_Growth_ok (fr := (fl [c3, [bx b2 #[.i6 y1.At, v3, v4] 69], c4] fr)) y1 v3 (h3.mono l3) v4 (h4.mono l3) S hy4) rfl tc100 rfl rfl ?_; clear F a S
    rintro _ a w ⟨g4, l4, S, rfl⟩ F; replace S : St g4 [c3, [bx b2 #[.i6 y1.At, v3, v4] 69], c4] fr w := S
    obtain ⟨z3, hz3, hm⟩ := bind_some hm
    refine wE (ev_int rfl rfl (bo_add hz3)) F S rfl fun a F=>?_
    refine wE (ev_assign rfl) F S rfl fun a F=>?_
    refine wpList_nil ?_
    refine inb_n ?_
    refine then_n ?_
    refine wp_region_lit ?_
    obtain ⟨z4, hz4, hm⟩ := bind_some hm
    refine wE (ev_int rfl rfl (bo_add hz4)) F S rfl fun a F=>?_
    refine wE (ev_move rfl) F S rfl fun a F=>?_
    refine wpList_nil ?_
    refine then_n ?_
    obtain rfl := sinj hm
    refine ⟨_, rfl, ?_⟩
    dsimp only
    replace S : St g4 [c4] fr w := St.tail [c4] _ (S.frontC 2 rfl)
    exact ⟨v6, c4, g4, F.sub ⟨rfl, rfl, rfl, rfl, rfl, trivial⟩, ((l2.trans l3).trans l4), S, (h6.mono l4)⟩
   ·refine wp_condF F rfl hc1 ?_
    refine wp_exit ?_
    refine then_e ?_
    refine then_e ?_
    refine inb_x ?_
    refine then_n ?_
    obtain rfl := sinj hm
    obtain rfl := hfin1 _ rfl
    clear hm
    have hm : (commute_newRanges.j1 x4 : Option (List Range_commute)) = some _ := hmo1
    exact ⟨x4, v2, c2, g2, F.sub ⟨rfl, trivial⟩, l2, S, h2, hm⟩
 ·clear F S hm; rintro a w ⟨x1, v1, c1, g1, F, l1, S, h1, hm⟩
  refine wp_seq ?_
  refine wp_region_lit ?_
  refine wE (ev_move rfl) F S rfl fun a F=>?_
  refine wE (ev_assign rfl) F S rfl fun a F=>?_
  refine wpList_nil ?_
  refine then_n ?_
  refine wp_ret ?_
  obtain rfl := sinj hm
  refine post_r _ F rfl (ar_cons (resT rfl) ar_nil) ?_
  exact ⟨_, rfl, g1, v1, c1, l1, S, h1, rfl⟩

theorem commute_Touch_ok {g : Gh} {fr : Hl} {w : World} {r : Bool} (a_ : Range_commute) (b_ : Range_commute) (S : St g [] fr w) (hm : commute_Touch a_ b_ = some r) :
  Calls Tryd.prog 112 [.agg #[.i6 a_.Low, .i6 a_.High, .i6 a_.Growth], .agg #[.i6 b_.Low, .i6 b_.High, .i6 b_.Growth]].toArray w (fun en w' => ∃ v, en = .returned v ∧ ∃ (g' : Gh), Le g g' ∧ St g' [] fr w' ∧ .bool r = v) := by
 unfold commute_Touch at hm
 refine calls_enter (fn := Tryd.f112) Tryd.func112 rfl Tryd.ntmps112 (lb rfl) ?_
 intro a F
 replace F : Fr 17 a [(0, .agg #[.i6 a_.Low, .i6 a_.High, .i6 a_.Growth]), (1, .agg #[.i6 b_.Low, .i6 b_.High, .i6 b_.Growth])] := F
 refine wp_seq ?_
 refine wp_region_lit ?_
 refine wl_boxC (wn rfl) rfl rfl rfl F S rfl rfl ?_; clear F a S; rintro b1 a w F S
 refine wl_boxC (wn rfl) rfl rfl rfl F S rfl rfl ?_; clear F a S; rintro b2 a w F S
 refine wE (ev_assign rfl) F S rfl fun a F=>?_
 refine wpList_nil ?_
 refine then_n ?_
 refine wp_seq ?_
 refine wp_region_lit ?_
 refine wE (ev_fieldAddr' tu142 tf142_1 (z := 0) ts3 rfl ⟨_, rfl⟩ rfl) F S rfl fun a F=>?_
 refine wE (ev_load1 tu3 rfl rfl (box_ptr (cells := [.i6 a_.High]) 1 rfl 1 rfl (lb rfl))) F S rfl fun a F=>?_
 refine wE (ev_fieldAddr' tu142 tf142_0 (z := 0) ts3 rfl ⟨_, rfl⟩ rfl) F S rfl fun a F=>?_
 refine wE (ev_load1 tu3 rfl rfl (box_ptr (cells := [.i6 b_.Low]) 0 rfl 0 rfl (lb rfl))) F S rfl fun a F=>?_
 refine wE (ev_int rfl rfl (bo_geq _ _ _ _)) F S rfl fun a F=>?_
 refine wE (ev_move rfl) F S rfl fun a F=>?_
 obtain ⟨x1, hx1, hm⟩ := bind_some hm
 refine wl_cut 6 (fun a w' => w = w' ∧ Fr 17 a [(16, .bool x1), (4, .bool false)]) ?_ ?_
 ·clear hm; obtain ⟨hc1, hm⟩ | ⟨hc1, hm⟩ := ite_or hx1
  ·refine wl_ev (wg F rfl rfl rfl rfl hc1) (ev_fieldAddr' tu142 tf142_1 (z := 0) ts3 rfl ⟨_, rfl⟩ rfl) F S rfl rfl ?_; clear F a; intro a F
   refine wl_ev (wg F rfl rfl rfl rfl hc1) (ev_load1 tu3 rfl rfl (box_ptr (cells := [.i6 b_.High]) 0 rfl 1 rfl (lb rfl))) F S rfl rfl ?_; clear F a; intro a F
   refine wl_ev (wg F rfl rfl rfl rfl hc1) (ev_fieldAddr' tu142 tf142_0 (z := 0) ts3 rfl ⟨_, rfl⟩ rfl) F S rfl rfl ?_; clear F a; intro a F
   refine wl_ev (wg F rfl rfl rfl rfl hc1) (ev_load1 tu3 rfl rfl (box_ptr (cells := [.i6 a_.Low]) 1 rfl 0 rfl (lb rfl))) F S rfl rfl ?_; clear F a; intro a F
   refine wl_ev (wg F rfl rfl rfl rfl hc1) (ev_int rfl rfl (bo_geq _ _ _ _)) F S rfl rfl ?_; clear F a; intro a F
   refine wE (ev_pickT rfl hc1 rfl) F S rfl fun a F=>?_
   obtain rfl := sinj hm
   refine wpList_nil (then_n ?_); exact ⟨rfl, F.sub ⟨rfl, rfl, trivial⟩⟩
  ·refine wl_skip rfl rfl rfl rfl (ne_tf hc1) F rfl rfl ?_; clear F a; intro a F
   refine wl_skip rfl rfl rfl rfl (ne_tf hc1) F rfl rfl ?_; clear F a; intro a F
   refine wl_skip rfl rfl rfl rfl (ne_tf hc1) F rfl rfl ?_; clear F a; intro a F
   refine wl_skip rfl rfl rfl rfl (ne_tf hc1) F rfl rfl ?_; clear F a; intro a F
   refine wl_skip rfl rfl rfl rfl (ne_tf hc1) F rfl rfl ?_; clear F a; intro a F
   refine wE (ev_pickF rfl hc1 rfl) F S rfl fun a F=>?_
   obtain rfl := sinj hm
   refine wpList_nil (then_n ?_); exact ⟨rfl, F.sub ⟨rfl, rfl, trivial⟩⟩
 clear F; rintro a w' ⟨rfl, F⟩
 refine wE (ev_assign rfl) F S rfl fun a F=>?_
 refine wpList_nil ?_
 refine then_n ?_
 refine wp_ret ?_
 obtain rfl := sinj hm
 refine post_r _ F rfl (ar_cons (resT rfl) ar_nil) ?_
 replace S : St g [] fr w := St.tail [] _ S
 exact ⟨_, rfl, g, (Le.refl _), S, rfl⟩

theorem commute_meet_ok {g : Gh} {fr : Hl} {w : World} {r : Bool} (a_ : (List Range_commute)) (va_1 : Value) (ha_1 : RepSl g a_ va_1) (b_ : (List Range_commute)) (vb_1 : Value) (hb_1 : RepSl g b_ vb_1) (S : St g [] fr w) (hm : commute_meet a_ b_ = some r) :
  Calls Tryd.prog 73 [va_1, vb_1].toArray w (fun en w' => ∃ v, en = .returned v ∧ ∃ (g' : Gh), Le g g' ∧ St g' [] fr w' ∧ .bool r = v) := by
 unfold commute_meet at hm
 refine calls_enter (fn := Tryd.f73) Tryd.func73 rfl Tryd.ntmps73 (lb rfl) ?_
 intro a F
 replace F : Fr 26 a [(0, va_1), (1, vb_1)] := F
 refine wp_seq ?_
 refine wp_region_lit ?_
 refine wE (ev_assign rfl) F S rfl fun a F=>?_
 refine wpList_nil ?_
 refine then_n ?_
 refine wp_cut (fun a w => ∃ (g1 : Gh), Fr 26 a [] ∧ Le g g1 ∧ St g1 [] fr w ∧ commute_meet.j1 = some r) ?_ ?_
 ·refine wp_seq ?_
  refine wp_region_lit ?_
  refine wE (ev_move rfl) F S rfl fun a F=>?_
  refine wE (ev_lenSh ha_1 rfl tu109) F S rfl fun a F=>?_
  refine wE (ev_move rfl) F S rfl fun a F=>?_
  refine wpList_nil ?_
  refine then_n ?_
  refine wp_block ?_
  obtain ⟨r1, hr1, hm⟩ := bind_some hm
  have hmo1 := hm; clear hm
  refine wp_iter (σ := Int) (ρ := Bool ⊕ Unit) (m := fun s => commute_meet.l1 a_ b_ s) (I := fun x1 a w => ∃ (g2 : Gh), Fr 26 a [(11, .i6 x1), (10, .i6 (a_.length : Int)), (9, va_1), (1, vb_1)] ∧ Le g g2 ∧ St g2 [] fr w) hr1 ?_ ?_
  ·exact ⟨g, F.sub ⟨rfl, rfl, rfl, rfl, trivial⟩, (Le.refl _), S⟩
  ·clear F S; rintro x1 a w x2 ⟨g2, F, l2, S⟩ hx1 hfin1
   have hm : commute_meet.l1 a_ b_ x1 = some x2 := hx1; clear hx1
   unfold commute_meet.l1 at hm
   refine wp_seq ?_
   refine wp_region_lit ?_
   refine wE (ev_int rfl rfl (bo_lss _ _ _ _)) F S rfl fun a F=>?_
   refine wpList_nil ?_
   refine then_n ?_
   refine wp_seq ?_
   obtain ⟨hc1, hm⟩ | ⟨hc1, hm⟩ := ite_or hm
   ·refine wp_condT F rfl hc1 ?_
    refine wp_skip ?_
    refine then_n ?_
    refine wp_cut (fun a w => ∃ (g3 : Gh), Fr 26 a [(11, .i6 x1), (10, .i6 (a_.length : Int)), (9, va_1), (1, vb_1)] ∧ Le g2 g3 ∧ St g3 [] fr w ∧ commute_meet.j2 x1 = some x2) ?_ ?_
    ·refine wp_block ?_
     refine wp_seq ?_
     refine wp_region_lit ?_
     obtain ⟨y1, hy1, hm⟩ := bind_some hm
     obtain ⟨cs1, hr2, hp1⟩ := elemS (ha_1.mono l2) hy1
     obtain rfl := rep_Range_commute hr2
     refine wE (ev_idxS (ha_1.mono l2) hy1 tu109 ts142 rfl rfl) F S rfl fun a F=>?_
     refine wE (ev_loadA tu142 rfl (cs := [.i6 y1.Low, .i6 y1.High, .i6 y1.Growth]) ts142 rfl (ptr_mono (cks := []) (fr := fr) hp1 (Le.refl _))) F S rfl fun a F=>?_
     refine wl_alloc (wn rfl) rfl tz142 (cs := [.i6 0, .i6 0, .i6 0]) rfl F S rfl rfl ?_; clear F a S; rintro b1 a w F S
     refine wl_storeC (wn rfl) rfl F S rfl rfl (vs := [.i6 y1.Low, .i6 y1.High, .i6 y1.Growth]) rfl ts142 (one_cons rfl (one_cons rfl (one_cons rfl one_nil))) (k := 0) rfl (lb rfl) (c' := #[.i6 y1.Low, .i6 y1.High, .i6 y1.Growth]) rfl rfl ?_; clear S; intro w S
     refine wpList_nil ?_
     refine then_n ?_
     refine wp_seq ?_
     refine wp_region_lit ?_
     refine wE (ev_move rfl) F S rfl fun a F=>?_
     refine wE (ev_lenSh hb_1 rfl tu109) F S rfl fun a F=>?_
     refine wE (ev_move rfl) F S rfl fun a F=>?_
     refine wpList_nil ?_
     refine then_n ?_
     refine wp_cut1 (fun a w => ∃ (g4 : Gh), Fr 26 a [(11, .i6 x1), (10, .i6 (a_.length : Int)), (9, va_1), (1, vb_1)] ∧ Le g2 g4 ∧ St g4 [] fr w ∧ commute_meet.j3 x1 = some x2) ?_ ?_
     ·refine wp_block ?_
      obtain ⟨r2, hr3, hm⟩ := bind_some hm
      have hmo2 := hm; clear hm
      refine wp_iter (σ := Int) (ρ := Bool ⊕ Unit) (m := fun s => commute_meet.l2 b_ y1 s) (I := fun x3 a w => ∃ (g5 : Gh), Fr 26 a [(17, .i6 x3), (16, .i6 (b_.length : Int)), (15, vb_1), (6, bp b1 0), (11, .i6 x1), (10, .i6 (a_.length : Int)), (9, va_1), (1, vb_1)] ∧ Le g2 g5 ∧ St g5 [[bx b1 #[.i6 y1.Low, .i6 y1.High, .i6 y1.Growth] 142]] fr w) hr3 ?_ ?_
      ·exact ⟨g2, F.sub ⟨rfl, rfl, rfl, rfl, rfl, rfl, rfl, rfl, trivial⟩, (Le.refl _), S⟩
      ·clear F S; rintro x3 a w x4 ⟨g5, F, l5, S⟩ hx2 hfin2
       have hm : commute_meet.l2 b_ y1 x3 = some x4 := hx2; clear hx2
       unfold commute_meet.l2 at hm
       refine wp_seq ?_
       refine wp_region_lit ?_
       refine wE (ev_int rfl rfl (bo_lss _ _ _ _)) F S rfl fun a F=>?_
       refine wpList_nil ?_
       refine then_n ?_
       refine wp_seq ?_
       obtain ⟨hc2, hm⟩ | ⟨hc2, hm⟩ := ite_or hm
       ·refine wp_condT F rfl hc2 ?_
        refine wp_skip ?_
        refine then_n ?_
        refine wp_seq ?_
        refine wp_block ?_
        refine wp_seq ?_
        refine wp_region_lit ?_
        obtain ⟨y2, hy2, hm⟩ := bind_some hm
        obtain ⟨cs2, hr4, hp2⟩ := elemS (hb_1.mono (l2.trans l5)) hy2
        obtain rfl := rep_Range_commute hr4
        refine wE (ev_idxS (hb_1.mono (l2.trans l5)) hy2 tu109 ts142 rfl rfl) F S rfl fun a F=>?_
        refine wE (ev_loadA tu142 rfl (cs := [.i6 y2.Low, .i6 y2.High, .i6 y2.Growth]) ts142 rfl (ptr_mono (cks := [[bx b1 #[.i6 y1.Low, .i6 y1.High, .i6 y1.Growth] 142]]) (fr := fr) hp2 (Le.refl _))) F S rfl fun a F=>?_
        refine wl_alloc (wn rfl) rfl tz142 (cs := [.i6 0, .i6 0, .i6 0]) rfl F S rfl rfl ?_; clear F a S; rintro b2 a w F S
        refine wl_storeC (wn rfl) rfl F S rfl rfl (vs := [.i6 y2.Low, .i6 y2.High, .i6 y2.Growth]) rfl ts142 (one_cons rfl (one_cons rfl (one_cons rfl one_nil))) (k := 0) rfl (lb rfl) (c' := #[.i6 y2.Low, .i6 y2.High, .i6 y2.Growth]) rfl rfl ?_; clear S; intro w S
        refine wpList_nil ?_
        refine then_n ?_
        refine wp_seq ?_
        refine wp_region_lit ?_
        refine wE (ev_loadA tu142 rfl (cs := [.i6 y1.Low, .i6 y1.High, .i6 y1.Growth]) ts142 rfl (box_ptr (cells := [.i6 y1.Low, .i6 y1.High, .i6 y1.Growth]) 1 rfl 0 rfl (lb rfl))) F S rfl fun a F=>?_
        refine wE (ev_loadA tu142 rfl (cs := [.i6 y2.Low, .i6 y2.High, .i6 y2.Growth]) ts142 rfl (box_ptr (cells := [.i6 y2.Low, .i6 y2.High, .i6 y2.Growth]) 0 rfl 0 rfl (lb rfl))) F S rfl fun a F=>?_
        obtain ⟨y3, hy3, hm⟩ := bind_some hm
        refine wl_call0 (wn rfl) rfl F rfl (commute_Touch_ok (fr := (fl [[bx b2 #[.i6 y2.Low, .i6 y2.High, .i6 y2.Growth] 142], [bx b1 #[.i6 y1.Low, .i6 y1.High, .i6 y1.Growth] 142]] fr)) y1 y2 S hy3) rfl tc112 rfl rfl ?_; clear F a S
        rintro _ a w ⟨g6, l6, S, rfl⟩ F; replace S : St g6 [[bx b2 #[.i6 y2.Low, .i6 y2.High, .i6 y2.Growth] 142], [bx b1 #[.i6 y1.Low, .i6 y1.High, .i6 y1.Growth] 142]] fr w := S
        refine wpList_nil ?_
        refine then_n ?_
        obtain ⟨hc3, hm⟩ | ⟨hc3, hm⟩ := ite_or hm
        ·refine wp_condT F rfl hc3 ?_
         refine wp_seq ?_
         refine wp_region_lit ?_
         refine wE (ev_assign rfl) F S rfl fun a F=>?_
         refine wpList_nil ?_
         refine then_n ?_
         refine wp_ret ?_
         refine inb_r ?_
         refine then_r ?_
         refine then_r ?_
         refine inb_r ?_
         refine then_r ?_
         refine inb_r ?_
         refine then_r ?_
         refine then_r ?_
         refine inb_r ?_
         refine then_r ?_
         obtain rfl := sinj hm
         obtain rfl := hfin2 _ rfl
         clear hm
         have hm : (some (Step.done (Sum.inl true)) : Option (Step Int (Bool ⊕ Unit))) = some _ := hmo2
         obtain rfl := sinj hm
         obtain rfl := hfin1 _ rfl
         clear hm
         have hm : (some true : Option Bool) = some _ := hmo1
         obtain rfl := sinj hm
         refine post_r _ F rfl (ar_cons (resT rfl) ar_nil) ?_
         replace S : St g6 [] fr w := St.tail [] _ S
         exact ⟨_, rfl, g6, ((l2.trans l5).trans l6), S, rfl⟩
        ·refine wp_condF F rfl hc3 ?_
         refine wp_skip ?_
         refine inb_n ?_
         refine then_n ?_
         refine wp_region_lit ?_
         obtain ⟨z2, hz2, hm⟩ := bind_some hm
         refine wE (ev_int rfl rfl (bo_add hz2)) F S rfl fun a F=>?_
         refine wE (ev_move rfl) F S rfl fun a F=>?_
         refine wpList_nil ?_
         refine then_n ?_
         obtain rfl := sinj hm
         refine ⟨_, rfl, ?_⟩
         replace S : St g6 [[bx b1 #[.i6 y1.Low, .i6 y1.High, .i6 y1.Growth] 142]] fr w := St.tail [[bx b1 #[.i6 y1.Low, .i6 y1.High, .i6 y1.Growth] 142]] _ (S.frontC 1 rfl)
         exact ⟨g6, F.sub ⟨rfl, rfl, rfl, rfl, rfl, rfl, rfl, rfl, trivial⟩, (l5.trans l6), S⟩
       ·refine wp_condF F rfl hc2 ?_
        refine wp_exit ?_
        refine then_e ?_
        refine then_e ?_
        refine inb_x ?_
        refine then_n ?_
        obtain rfl := sinj hm
        obtain rfl := hfin2 _ rfl
        clear hm
        have hm : (commute_meet.j3 x1 : Option (Step Int (Bool ⊕ Unit))) = some _ := hmo2
        replace S : St g5 [] fr w := St.tail [] _ S
        exact ⟨g5, F.sub ⟨rfl, rfl, rfl, rfl, trivial⟩, l5, S, hm⟩
     ·clear F S hm; rintro a w ⟨g4, F, l4, S, hm⟩
      refine inb_n ?_
      refine then_n ?_
      exact ⟨g4, F.sub ⟨rfl, rfl, rfl, rfl, trivial⟩, l4, S, hm⟩
    ·clear F S hm; rintro a w ⟨g3, F, l3, S, hm⟩
     refine wp_region_lit ?_
     obtain ⟨z1, hz1, hm⟩ := bind_some hm
     refine wE (ev_int rfl rfl (bo_add hz1)) F S rfl fun a F=>?_
     refine wE (ev_move rfl) F S rfl fun a F=>?_
     refine wpList_nil ?_
     refine then_n ?_
     obtain rfl := sinj hm
     refine ⟨_, rfl, ?_⟩
     exact ⟨g3, F.sub ⟨rfl, rfl, rfl, rfl, trivial⟩, (l2.trans l3), S⟩
   ·refine wp_condF F rfl hc1 ?_
    refine wp_exit ?_
    refine then_e ?_
    refine then_e ?_
    refine inb_x ?_
    refine then_n ?_
    obtain rfl := sinj hm
    obtain rfl := hfin1 _ rfl
    clear hm
    have hm : (commute_meet.j1 : Option Bool) = some _ := hmo1
    exact ⟨g2, F.sub trivial, l2, S, hm⟩
 ·clear F S hm; rintro a w ⟨g1, F, l1, S, hm⟩
  refine wp_seq ?_
  refine wp_region_lit ?_
  refine wE (ev_assign rfl) F S rfl fun a F=>?_
  refine wpList_nil ?_
  refine then_n ?_
  refine wp_ret ?_
  obtain rfl := sinj hm
  refine post_r _ F rfl (ar_cons (resT rfl) ar_nil) ?_
  exact ⟨_, rfl, g1, l1, S, rfl⟩

theorem commute_OldRanges_ok {g : Gh} {fr : Hl} {w : World} {r : (List Range_commute)} (p_ : Patch) (vp_1 : Value) (hp_1 : RepSl g p_.Hunks vp_1) (S : St g [] fr w) (hm : commute_OldRanges p_ = some r) :
  Calls Tryd.prog 74 [.agg #[vp_1]].toArray w (fun en w' => ∃ v, en = .returned v ∧ ∃ (g' : Gh) (v1 : Value) (c1 : Hl), Le g g' ∧ St g' [c1] fr w' ∧ OwnS g' r v1 c1 ∧ v1 = v) := by
 unfold commute_OldRanges at hm
 refine calls_enter (fn := Tryd.f74) Tryd.func74 rfl Tryd.ntmps74 (lb rfl) ?_
 intro a F
 replace F : Fr 25 a [(0, .agg #[vp_1])] := F
 refine wp_seq ?_
 refine wp_region_lit ?_
 refine wl_boxC (wn rfl) rfl rfl rfl F S rfl rfl ?_; clear F a S; rintro b1 a w F S
 refine wE (ev_assign rfl) F S rfl fun a F=>?_
 refine wpList_nil ?_
 refine then_n ?_
 refine wp_seq ?_
 refine wp_region_lit ?_
 refine wE (ev_assign rfl) F S rfl fun a F=>?_
 refine wpList_nil ?_
 refine then_n ?_
 refine wp_cut (fun a w => ∃ (x1 : List Range_commute) (v1 : Value) (c1 : Hl) (g1 : Gh), Fr 25 a [(3, v1)] ∧ Le g g1 ∧ St g1 [c1] fr w ∧ OwnS g1 x1 v1 c1 ∧ commute_OldRanges.j1 x1 = some r) ?_ ?_
 ·refine wp_seq ?_
  refine wp_region_lit ?_
  refine wE (ev_fieldAddr' tu25 tf25_0 (z := 0) ts23 rfl ⟨_, rfl⟩ rfl) F S rfl fun a F=>?_
  refine wE (ev_load1 tu23 rfl rfl (box_ptr (cells := [vp_1]) 0 rfl 0 rfl (lb rfl))) F S rfl fun a F=>?_
  refine wE (ev_lenSh hp_1 rfl tu23) F S rfl fun a F=>?_
  refine wE (ev_move rfl) F S rfl fun a F=>?_
  refine wpList_nil ?_
  refine then_n ?_
  refine wp_block ?_
  obtain ⟨r1, hr1, hm⟩ := bind_some hm
  have hmo1 := hm; clear hm
  refine wp_iter (σ := Int × (List Range_commute)) (ρ := (List Range_commute)) (m := fun s => commute_OldRanges.l1 p_ s.1 s.2) (I := fun s a w => match s with | (x2, x3) => ∃ (v2 : Value) (c2 : Hl) (g2 : Gh), Fr 25 a [(9, .i6 x2), (8, .i6 (p_.Hunks.length : Int)), (7, vp_1), (3, v2)] ∧ Le g g2 ∧ St g2 [c2] fr w ∧ OwnS g2 x3 v2 c2) hr1 ?_ ?_
  ·dsimp only
   replace S : St g [[], [bx b1 #[vp_1] 25]] fr w := S
   replace S : St g [[]] fr w := St.tail [[]] _ (S.frontC 0 rfl)
   exact ⟨(nilS), [], g, F.sub ⟨rfl, rfl, rfl, rfl, trivial⟩, (Le.refl _), S, (OwnS.nil _)⟩
  ·clear F S; rintro ⟨x2, x3⟩ a w x4 ⟨v2, c2, g2, F, l2, S, h2⟩ hx1 hfin1
   have hm : commute_OldRanges.l1 p_ x2 x3 = some x4 := hx1; clear hx1
   unfold commute_OldRanges.l1 at hm
   refine wp_seq ?_
   refine wp_region_lit ?_
   refine wE (ev_int rfl rfl (bo_lss _ _ _ _)) F S rfl fun a F=>?_
   refine wpList_nil ?_
   refine then_n ?_
   refine wp_seq ?_
   obtain ⟨hc1, hm⟩ | ⟨hc1, hm⟩ := ite_or hm
   ·refine wp_condT F rfl hc1 ?_
    refine wp_skip ?_
    refine then_n ?_
    refine wp_seq ?_
    refine wp_block ?_
    refine wp_seq ?_
    refine wp_region_lit ?_
    obtain ⟨y1, hy1, hm⟩ := bind_some hm
    obtain ⟨cs1, hr2, hp1⟩ := elemS (hp_1.mono l2) hy1
    obtain ⟨v3, v4, rfl, h3, h4⟩ := rep_Hunk hr2
    refine wE (ev_idxS (hp_1.mono l2) hy1 tu23 ts69 rfl rfl) F S rfl fun a F=>?_
    refine wE (ev_loadA tu69 rfl (cs := [.i6 y1.At, v3, v4]) ts69 rfl (ptr_mono (cks := [c2]) (fr := fr) hp1 (Le.refl _))) F S rfl fun a F=>?_
    refine wl_alloc (wn rfl) rfl tz69 (cs := [.i6 0, nilS, nilS]) rfl F S rfl rfl ?_; clear F a S; rintro b2 a w F S
    refine wl_storeC (wn rfl) rfl F S rfl rfl (vs := [.i6 y1.At, v3, v4]) rfl ts69 (one_cons rfl (one_cons h3.one (one_cons h4.one one_nil))) (k := 0) rfl (lb rfl) (c' := #[.i6 y1.At, v3, v4]) rfl rfl ?_; clear S; intro w S
    refine wpList_nil ?_
    refine then_n ?_
    refine wp_dv [10] mo S ?_; clear S; intro ok1 w S
    refine dv_et ok1 0 rfl (ev_move rfl) F rfl fun a F=>?_
    refine dv_et ok1 1 rfl (ev_fieldAddr' tu69 tf69_0 (z := 0) ts3 rfl ⟨_, rfl⟩ rfl) F rfl fun a F=>?_
    refine dv_ev ok1 2 rfl (ev_load1 tu3 rfl rfl (box_ptr (cells := [.i6 y1.At]) 0 rfl 0 rfl (lb rfl))) F S rfl fun a F=>?_
    refine dv_ev ok1 3 rfl (ev_loadA tu69 rfl (cs := [.i6 y1.At, v3, v4]) ts69 rfl (box_ptr (cells := [.i6 y1.At, v3, v4]) 0 rfl 0 rfl (lb rfl))) F S rfl fun a F=>?_
    refine dv_ev ok1 5 rfl (ev_loadA tu69 rfl (cs := [.i6 y1.At, v3, v4]) ts69 rfl (box_ptr (cells := [.i6 y1.At, v3, v4]) 0 rfl 0 rfl (lb rfl))) F S rfl fun a F=>?_
    refine dv_op ok1 4 rfl [(5, .agg #[.i6 y1.At, v3, v4]), (2, .i6 y1.At)] ?_
    obtain ⟨y2, hy2, hm⟩ := bind_some hm
    refine wl_call0 (wn rfl) rfl F rfl (textpatch_End_ok (fr := (fl [[bx b2 #[.i6 y1.At, v3, v4] 69], c2] fr)) y1 v3 h3 v4 h4 S hy2) rfl tc84 rfl rfl ?_; clear F a S
    rintro _ a w ⟨g3, l3, S, rfl⟩ F; replace S : St g3 [[bx b2 #[.i6 y1.At, v3, v4] 69], c2] fr w := S
    refine dv_nx ⟨yl_ev rfl rfl (ev_loadA tu69 rfl (cs := [.i6 y1.At, v3, v4]) ts69 rfl (box_ptr (cells := [.i6 y1.At, v3, v4]) 0 rfl 0 rfl (lb rfl))) F S, yl_ev rfl rfl (ev_load1 tu3 rfl rfl (box_ptr (cells := [.i6 y1.At]) 0 rfl 0 rfl (lb rfl))) F S, trivial⟩ ?_
    refine dv_op ok1 6 rfl [(2, .i6 y1.At)] ?_
    obtain ⟨y3, hy3, hm⟩ := bind_some hm
    refine wl_call0 (wn rfl) rfl F rfl (textpatch_Growth_ok (fr := (fl [[bx b2 #[.i6 y1.At, v3, v4] 69], c2] fr)) y1 v3 (h3.mono l3) v4 (h4.mono l3) S hy3) rfl tc100 rfl rfl ?_; clear F a S
    rintro _ a w ⟨g4, l4, S, rfl⟩ F; replace S : St g4 [[bx b2 #[.i6 y1.At, v3, v4] 69], c2] fr w := S
    refine dv_nx ⟨yl_ev rfl rfl (ev_load1 tu3 rfl rfl (box_ptr (cells := [.i6 y1.At]) 0 rfl 0 rfl (lb rfl))) F S, trivial⟩ ?_
    refine dv_et ok1 7 rfl (ev_build (parts := [(0, .tmp 15), (1, .tmp 17), (2, .tmp 19)]) (vs := [(0, .i6 y1.At), (1, .i6 y2), (2, .i6 y3)]) rfl (fun w => tb142_0_1_2 y1.At y2 y3 w)) F rfl fun a F=>?_
    refine dv_op ok1 8 rfl [] ?_
    refine wl_lit (l := ([({ Low := y1.At, High := y2, Growth := y3 } : Range_commute)] : List Range_commute)) (vs := [.agg #[.i6 y1.At, .i6 y2, .i6 y3]]) (parts := [(0, .tmp 20)]) (wn rfl) rfl rfl rfl tu109 te142 (sz_cons rfl sz_nil) rfl (Cat.cons (rep_Range_commute_mk (x := ({ Low := y1.At, High := y2, Growth := y3 } : Range_commute)) ) (Cat.nil _)) (coa_cons rfl coa_nil) rfl F S rfl rfl ?_; clear F a S
    rintro v5 c3 a w h5 F S
    refine dv_nx trivial ?_
    refine dv_op ok1 9 rfl [] ?_
    obtain ⟨cs2, hk1, hr3⟩ := OwnS.reads h5
    obtain ⟨y4, hy4, hm⟩ := bind_some hm
    refine wl_append (wn rfl) rfl tu109 tu109 te142 (by decide) (by decide) F S rfl rfl (k := 2) rfl (h2.mono (l3.trans l4)) hk1 rfl (hr3 _ _ _ 0 rfl S) hy4 rfl rfl ?_; clear F a S
    rintro v6 c4 a w h6 S F; replace S : St g4 [c3, [bx b2 #[.i6 y1.At, v3, v4] 69], c4] fr w := S
    refine dv_nx trivial ?_
    refine dv_op ok1 10 rfl [] ?_
    refine wE (ev_assign rfl) F S rfl fun a F=>?_
    refine dv_nx trivial ?_
    refine dv_fin ok1 ?_
    refine inb_n ?_
    refine then_n ?_
    refine wp_region_lit ?_
    obtain ⟨z1, hz1, hm⟩ := bind_some hm
    refine wE (ev_int rfl rfl (bo_add hz1)) F S rfl fun a F=>?_
    refine wE (ev_move rfl) F S rfl fun a F=>?_
    refine wpList_nil ?_
    refine then_n ?_
    obtain rfl := sinj hm
    refine ⟨_, rfl, ?_⟩
    dsimp only
    replace S : St g4 [c4] fr w := St.tail [c4] _ (S.frontC 2 rfl)
    exact ⟨v6, c4, g4, F.sub ⟨rfl, rfl, rfl, rfl, trivial⟩, ((l2.trans l3).trans l4), S, h6⟩
   ·refine wp_condF F rfl hc1 ?_
    refine wp_exit ?_
    refine then_e ?_
    refine then_e ?_
    refine inb_x ?_
    refine then_n ?_
    obtain rfl := sinj hm
    obtain rfl := hfin1 _ rfl
    clear hm
    have hm : (commute_OldRanges.j1 x3 : Option (List Range_commute)) = some _ := hmo1
    exact ⟨x3, v2, c2, g2, F.sub ⟨rfl, trivial⟩, l2, S, h2, hm⟩
 ·clear F S hm; rintro a w ⟨x1, v1, c1, g1, F, l1, S, h1, hm⟩
  refine wp_seq ?_
  refine wp_region_lit ?_
  refine wE (ev_move rfl) F S rfl fun a F=>?_
  refine wE (ev_assign rfl) F S rfl fun a F=>?_
  refine wpList_nil ?_
  refine then_n ?_
  refine wp_ret ?_
  obtain rfl := sinj hm
  refine post_r _ F rfl (ar_cons (resT rfl) ar_nil) ?_
  exact ⟨_, rfl, g1, v1, c1, l1, S, h1, rfl⟩

theorem commute_shift_ok {g : Gh} {fr : Hl} {w : World} {r : Patch} (p_ : Patch) (vp_1 : Value) (hp_1 : RepSl g p_.Hunks vp_1) (l_ : (List Range_commute)) (vl_1 : Value) (hl_1 : RepSl g l_ vl_1) (sign : Int) (S : St g [] fr w) (hm : commute_shift p_ l_ sign = some r) :
  Calls Tryd.prog 76 [.agg #[vp_1], vl_1, .i6 sign].toArray w (fun en w' => ∃ v, en = .returned v ∧ ∃ (g' : Gh) (v1 : Value) (c1 : Hl), Le g g' ∧ St g' [c1] fr w' ∧ OwnS g' r.Hunks v1 c1 ∧ .agg #[v1] = v) := by
 unfold commute_shift at hm
 refine calls_enter (fn := Tryd.f76) Tryd.func76 rfl Tryd.ntmps76 (lb rfl) ?_
 intro a F
 replace F : Fr 49 a [(0, .agg #[vp_1]), (1, vl_1), (2, .i6 sign)] := F
 refine wp_seq ?_
 refine wp_region_lit ?_
 refine wl_boxC (wn rfl) rfl rfl rfl F S rfl rfl ?_; clear F a S; rintro b1 a w F S
 refine wl_alloc (wn rfl) rfl tz25 (cs := [nilS]) rfl F S rfl rfl ?_; clear F a S; rintro b2 a w F S
 refine wpList_nil ?_
 refine then_n ?_
 refine wp_seq ?_
 refine wp_region_lit ?_
 refine wE (ev_loadA tu25 rfl (cs := [vp_1]) ts25 rfl (box_ptr (cells := [vp_1]) 1 rfl 0 rfl (lb rfl))) F S rfl fun a F=>?_
 obtain ⟨y1, hy1, hm⟩ := bind_some hm
 refine wl_call0 (wn rfl) rfl F rfl (textpatch_Copy_ok (fr := (fl [[bx b2 #[nilS] 25], [bx b1 #[vp_1] 25]] fr)) p_ vp_1 hp_1 S hy1) rfl tc66 rfl rfl ?_; clear F a S
 rintro _ a w ⟨g1, v1, c1, l1, S, h1, rfl⟩ F; replace S : St g1 [c1, [bx b2 #[nilS] 25], [bx b1 #[vp_1] 25]] fr w := S
 refine wl_alloc (wn rfl) rfl tz25 (cs := [nilS]) rfl F S rfl rfl ?_; clear F a S; rintro b3 a w F S
 refine wl_storeC (wn rfl) rfl F S rfl rfl (vs := [v1]) rfl ts25 (one_cons (OwnS.one h1) one_nil) (k := 0) rfl (lb rfl) (c' := #[v1]) rfl rfl ?_; clear S; intro w S
 refine wpList_nil ?_
 refine then_n ?_
 refine wp_cut (fun a w => ∃ (x1 : List Hunk) (v2 : Value) (c2 : Hl) (g2 : Gh), Fr 49 a [(7, bp b3 0), (6, bp b2 0)] ∧ Le g1 g2 ∧ St g2 [[bx b3 #[v2] 25], [bx b2 #[nilS] 25], c2] fr w ∧ OwnS g2 x1 v2 c2 ∧ commute_shift.j1 x1 = some r) ?_ ?_
 ·refine wp_seq ?_
  refine wp_region_lit ?_
  refine wE (ev_fieldAddr' tu25 tf25_0 (z := 0) ts23 rfl ⟨_, rfl⟩ rfl) F S rfl fun a F=>?_
  refine wE (ev_load1 tu23 rfl rfl (box_ptr (cells := [vp_1]) 3 rfl 0 rfl (lb rfl))) F S rfl fun a F=>?_
  refine wE (ev_lenSh hp_1 rfl tu23) F S rfl fun a F=>?_
  refine wE (ev_move rfl) F S rfl fun a F=>?_
  refine wpList_nil ?_
  refine then_n ?_
  refine wp_block ?_
  obtain ⟨r1, hr1, hm⟩ := bind_some hm
  have hmo1 := hm; clear hm
  refine wp_iter (σ := Int × (List Hunk)) (ρ := (List Hunk)) (m := fun s => commute_shift.l1 p_ l_ sign s.1 s.2) (I := fun s a w => match s with | (x2, x3) => ∃ (v3 : Value) (c3 : Hl) (g3 : Gh), Fr 49 a [(17, .i6 x2), (16, .i6 (p_.Hunks.length : Int)), (15, vp_1), (7, bp b3 0), (6, bp b2 0), (1, vl_1), (2, .i6 sign)] ∧ Le g1 g3 ∧ St g3 [[bx b3 #[v3] 25], [bx b2 #[nilS] 25], c3] fr w ∧ OwnS g3 x3 v3 c3) hr1 ?_ ?_
  ·dsimp only
   replace S : St g1 [[bx b3 #[v1] 25], [bx b2 #[nilS] 25], c1] fr w := St.tail [[bx b3 #[v1] 25], [bx b2 #[nilS] 25], c1] _ (((S.frontC 1 rfl).frontC 3 rfl).frontC 2 rfl)
   exact ⟨v1, c1, g1, F.sub ⟨rfl, rfl, rfl, rfl, rfl, rfl, rfl, trivial⟩, (Le.refl _), S, h1⟩
  ·clear F S; rintro ⟨x2, x3⟩ a w x4 ⟨v3, c3, g3, F, l3, S, h3⟩ hx1 hfin1
   have hm : commute_shift.l1 p_ l_ sign x2 x3 = some x4 := hx1; clear hx1
   unfold commute_shift.l1 at hm
   refine wp_seq ?_
   refine wp_region_lit ?_
   refine wE (ev_int rfl rfl (bo_lss _ _ _ _)) F S rfl fun a F=>?_
   refine wpList_nil ?_
   refine then_n ?_
   refine wp_seq ?_
   obtain ⟨hc1, hm⟩ | ⟨hc1, hm⟩ := ite_or hm
   ·refine wp_condT F rfl hc1 ?_
    refine wp_skip ?_
    refine then_n ?_
    refine wp_cut (fun a w => ∃ (x5 : List Hunk) (v4 : Value) (c4 : Hl) (g4 : Gh), Fr 49 a [(17, .i6 x2), (16, .i6 (p_.Hunks.length : Int)), (15, vp_1), (7, bp b3 0), (6, bp b2 0), (1, vl_1), (2, .i6 sign)] ∧ Le g3 g4 ∧ St g4 [[bx b3 #[v4] 25], [bx b2 #[nilS] 25], c4] fr w ∧ OwnS g4 x5 v4 c4 ∧ commute_shift.j2 x2 x5 = some x4) ?_ ?_
    ·refine wp_block ?_
     refine wp_seq ?_
     refine wp_region_lit ?_
     refine wE (ev_move rfl) F S rfl fun a F=>?_
     obtain ⟨y2, hy2, hm⟩ := bind_some hm
     obtain ⟨cs1, hr2, hp1⟩ := elemS (hp_1.mono (l1.trans l3)) hy2
     obtain ⟨v5, v6, rfl, h5, h6⟩ := rep_Hunk hr2
     refine wE (ev_idxS (hp_1.mono (l1.trans l3)) hy2 tu23 ts69 rfl rfl) F S rfl fun a F=>?_
     refine wE (ev_loadA tu69 rfl (cs := [.i6 y2.At, v5, v6]) ts69 rfl (ptr_mono (cks := [[bx b3 #[v3] 25], [bx b2 #[nilS] 25], c3]) (fr := fr) hp1 (Le.refl _))) F S rfl fun a F=>?_
     refine wl_alloc (wn rfl) rfl tz69 (cs := [.i6 0, nilS, nilS]) rfl F S rfl rfl ?_; clear F a S; rintro b4 a w F S
     refine wE (ev_assign rfl) F S rfl fun a F=>?_
     refine wl_storeC (wn rfl) rfl F S rfl rfl (vs := [.i6 y2.At, v5, v6]) rfl ts69 (one_cons rfl (one_cons h5.one (one_cons h6.one one_nil))) (k := 0) rfl (lb rfl) (c' := #[.i6 y2.At, v5, v6]) rfl rfl ?_; clear S; intro w S
     refine wpList_nil ?_
     refine then_n ?_
     refine wp_seq ?_
     refine wp_region_lit ?_
     refine wE (ev_move rfl) F S rfl fun a F=>?_
     refine wE (ev_lenSh hl_1 rfl tu109) F S rfl fun a F=>?_
     refine wE (ev_move rfl) F S rfl fun a F=>?_
     refine wpList_nil ?_
     refine then_n ?_
     refine wp_cut1 (fun a w => ∃ (x6 : List Hunk) (v7 : Value) (c5 : Hl) (g5 : Gh), Fr 49 a [(17, .i6 x2), (16, .i6 (p_.Hunks.length : Int)), (15, vp_1), (7, bp b3 0), (6, bp b2 0), (1, vl_1), (2, .i6 sign)] ∧ Le g3 g5 ∧ St g5 [[bx b3 #[v7] 25], [bx b2 #[nilS] 25], c5] fr w ∧ OwnS g5 x6 v7 c5 ∧ commute_shift.j3 x2 x6 = some x4) ?_ ?_
     ·refine wp_block ?_
      obtain ⟨r2, hr3, hm⟩ := bind_some hm
      have hmo2 := hm; clear hm
      refine wp_iter (σ := Int × (List Hunk)) (ρ := (List Hunk)) (m := fun s => commute_shift.l2 l_ sign x2 y2 s.1 s.2) (I := fun s a w => match s with | (x7, x8) => ∃ (v8 : Value) (c6 : Hl) (g6 : Gh), Fr 49 a [(24, .i6 x7), (23, .i6 (l_.length : Int)), (22, vl_1), (8, .i6 x2), (9, bp b4 0), (17, .i6 x2), (16, .i6 (p_.Hunks.length : Int)), (15, vp_1), (7, bp b3 0), (6, bp b2 0), (1, vl_1), (2, .i6 sign)] ∧ Le g3 g6 ∧ St g6 [[bx b4 #[.i6 y2.At, v5, v6] 69], [bx b3 #[v8] 25], [bx b2 #[nilS] 25], c6] fr w ∧ OwnS g6 x8 v8 c6) hr3 ?_ ?_
      ·dsimp only
       exact ⟨v3, c3, g3, F.sub ⟨rfl, rfl, rfl, rfl, rfl, rfl, rfl, rfl, rfl, rfl, rfl, rfl, trivial⟩, (Le.refl _), S, h3⟩
      ·clear F S; rintro ⟨x7, x8⟩ a w x9 ⟨v8, c6, g6, F, l6, S, h8⟩ hx2 hfin2
       have hm : commute_shift.l2 l_ sign x2 y2 x7 x8 = some x9 := hx2; clear hx2
       unfold commute_shift.l2 at hm
       refine wp_seq ?_
       refine wp_region_lit ?_
       refine wE (ev_int rfl rfl (bo_lss _ _ _ _)) F S rfl fun a F=>?_
       refine wpList_nil ?_
       refine then_n ?_
       refine wp_seq ?_
       obtain ⟨hc2, hm⟩ | ⟨hc2, hm⟩ := ite_or hm
       ·refine wp_condT F rfl hc2 ?_
        refine wp_skip ?_
        refine then_n ?_
        refine wp_cut (fun a w => ∃ (x10 : List Hunk) (v9 : Value) (c7 : Hl) (g7 : Gh), Fr 49 a [(24, .i6 x7), (23, .i6 (l_.length : Int)), (22, vl_1), (8, .i6 x2), (9, bp b4 0), (17, .i6 x2), (16, .i6 (p_.Hunks.length : Int)), (15, vp_1), (7, bp b3 0), (6, bp b2 0), (1, vl_1), (2, .i6 sign)] ∧ Le g6 g7 ∧ St g7 [[bx b4 #[.i6 y2.At, v5, v6] 69], [bx b3 #[v9] 25], [bx b2 #[nilS] 25], c7] fr w ∧ OwnS g7 x10 v9 c7 ∧ commute_shift.j4 x7 x10 = some x9) ?_ ?_
        ·refine wp_block ?_
         refine wp_seq ?_
         refine wp_region_lit ?_
         obtain ⟨y3, hy3, hm⟩ := bind_some hm
         obtain ⟨cs2, hr4, hp2⟩ := elemS (hl_1.mono ((l1.trans l3).trans l6)) hy3
         obtain rfl := rep_Range_commute hr4
         refine wE (ev_idxS (hl_1.mono ((l1.trans l3).trans l6)) hy3 tu109 ts142 rfl rfl) F S rfl fun a F=>?_
         refine wE (ev_loadA tu142 rfl (cs := [.i6 y3.Low, .i6 y3.High, .i6 y3.Growth]) ts142 rfl (ptr_mono (cks := [[bx b4 #[.i6 y2.At, v5, v6] 69], [bx b3 #[v8] 25], [bx b2 #[nilS] 25], c6]) (fr := fr) hp2 (Le.refl _))) F S rfl fun a F=>?_
         refine wl_alloc (wn rfl) rfl tz142 (cs := [.i6 0, .i6 0, .i6 0]) rfl F S rfl rfl ?_; clear F a S; rintro b5 a w F S
         refine wl_storeC (wn rfl) rfl F S rfl rfl (vs := [.i6 y3.Low, .i6 y3.High, .i6 y3.Growth]) rfl ts142 (one_cons rfl (one_cons rfl (one_cons rfl one_nil))) (k := 0) rfl (lb rfl) (c' := #[.i6 y3.Low, .i6 y3.High, .i6 y3.Growth]) rfl rfl ?_; clear S; intro w S
         refine wpList_nil ?_
         refine then_n ?_
         refine wp_seq ?_
         refine wp_region_lit ?_
         refine wE (ev_fieldAddr' tu142 tf142_1 (z := 0) ts3 rfl ⟨_, rfl⟩ rfl) F S rfl fun a F=>?_
         refine wE (ev_load1 tu3 rfl rfl (box_ptr (cells := [.i6 y3.High]) 0 rfl 1 rfl (lb rfl))) F S rfl fun a F=>?_
         refine wE (ev_fieldAddr' tu69 tf69_0 (z := 0) ts3 rfl ⟨_, rfl⟩ rfl) F S rfl fun a F=>?_
         refine wE (ev_load1 tu3 rfl rfl (box_ptr (cells := [.i6 y2.At]) 1 rfl 0 rfl (lb rfl))) F S rfl fun a F=>?_
         refine wE (ev_int rfl rfl (bo_lss _ _ _ _)) F S rfl fun a F=>?_
         refine wpList_nil ?_
         refine then_n ?_
         obtain ⟨hc3, hm⟩ | ⟨hc3, hm⟩ := ite_or hm
         ·refine wp_condT F rfl hc3 ?_
          refine wp_dv [] mo S ?_; clear S; intro ok1 w S
          refine dv_et ok1 0 rfl (ev_fieldAddr' tu25 tf25_0 (z := 0) ts23 rfl ⟨_, rfl⟩ rfl) F rfl fun a F=>?_
          refine dv_ev ok1 1 rfl (ev_load1 tu23 rfl rfl (box_ptr (cells := [v8]) 2 rfl 0 rfl (lb rfl))) F S rfl fun a F=>?_
          refine dv_et ok1 2 rfl (ev_move rfl) F rfl fun a F=>?_
          obtain ⟨y4, hy4, hm⟩ := bind_some hm
          refine dv_et ok1 3 rfl (ev_idxO h8 hy4 tu23 ts69 rfl rfl) F rfl fun a F=>?_
          refine dv_et ok1 4 rfl (ev_fieldAddr' tu69 tf69_0 (z := 0) ts3 rfl (elemO_ptr h8 hy4) addP_zero) F rfl fun a F=>?_
          obtain ⟨cs3, hr5, hq1⟩ := elemO h8 hy4
          obtain ⟨v10, v11, rfl, h10, h11⟩ := rep_Hunk hr5
          refine dv_ev ok1 5 rfl (ev_load1 tu3 rfl rfl (fun w s => addP_zero ▸ fieldP (cells := [.i6 y4.At]) 0 (hq1 _ _ 4 rfl w s) rfl (lb rfl))) F S rfl fun a F=>?_
          refine dv_et ok1 6 rfl (ev_move rfl) F rfl fun a F=>?_
          refine dv_et ok1 7 rfl (ev_fieldAddr' tu142 tf142_2 (z := 0) ts3 rfl ⟨_, rfl⟩ rfl) F rfl fun a F=>?_
          refine dv_ev ok1 8 rfl (ev_load1 tu3 rfl rfl (box_ptr (cells := [.i6 y3.Growth]) 0 rfl 2 rfl (lb rfl))) F S rfl fun a F=>?_
          obtain ⟨z3, hz3, hm⟩ := bind_some hm
          refine dv_et ok1 9 rfl (ev_int rfl rfl (bo_mul hz3)) F rfl fun a F=>?_
          obtain ⟨z4, hz4, hm⟩ := bind_some hm
          refine dv_et ok1 10 rfl (ev_int rfl rfl (bo_add hz4)) F rfl fun a F=>?_
          obtain ⟨y5, hy5, hm⟩ := bind_some hm
          refine dv_et ok1 11 rfl (ev_idxO h8 hy5 tu23 ts69 rfl rfl) F rfl fun a F=>?_
          refine dv_et ok1 12 rfl (ev_fieldAddr' tu69 tf69_0 (z := 0) ts3 rfl (elemO_ptr h8 hy5) addP_zero) F rfl fun a F=>?_
          refine dv_op ok1 13 rfl [] ?_
          obtain ⟨y6, hy6, hm⟩ := bind_some hm
          refine wl_storeE (z' := ({ At := z4, Old := y5.Old, New := y5.New } : Hunk)) 0 (wn rfl) rfl F S h8 hy5 addP_zero rfl rfl (us := [.i6 z4]) rfl ts3 (one_cons rfl one_nil) (k := 4) rfl (lb rfl) (fun cs hcs => by obtain ⟨v12, v13, rfl, h13, h14⟩ := rep_Hunk hcs; exact (rep_Hunk_mk (x := ({ At := z4, Old := y5.Old, New := y5.New } : Hunk)) h13 h14)) rfl ?_; clear S
          rintro c8 w h12 S; replace S : St g6 [[bx b5 #[.i6 y3.Low, .i6 y3.High, .i6 y3.Growth] 142], [bx b4 #[.i6 y2.At, v5, v6] 69], [bx b3 #[v8] 25], [bx b2 #[nilS] 25], c8] fr w := S; replace h12 : OwnS g6 y6 v8 c8 := sinj hy6 ▸ h12
          refine dv_nx trivial ?_
          refine dv_fin ok1 ?_
          refine inb_n ?_
          refine then_n ?_
          replace S : St g6 [[bx b4 #[.i6 y2.At, v5, v6] 69], [bx b3 #[v8] 25], [bx b2 #[nilS] 25], c8] fr w := St.tail [[bx b4 #[.i6 y2.At, v5, v6] 69], [bx b3 #[v8] 25], [bx b2 #[nilS] 25], c8] _ ((((S.frontC 4 rfl).frontC 4 rfl).frontC 4 rfl).frontC 4 rfl)
          exact ⟨y6, v8, c8, g6, F.sub ⟨rfl, rfl, rfl, rfl, rfl, rfl, rfl, rfl, rfl, rfl, rfl, rfl, trivial⟩, (Le.refl _), S, h12, hm⟩
         ·refine wp_condF F rfl hc3 ?_
          refine wp_skip ?_
          refine inb_n ?_
          refine then_n ?_
          replace S : St g6 [[bx b4 #[.i6 y2.At, v5, v6] 69], [bx b3 #[v8] 25], [bx b2 #[nilS] 25], c6] fr w := St.tail [[bx b4 #[.i6 y2.At, v5, v6] 69], [bx b3 #[v8] 25], [bx b2 #[nilS] 25], c6] _ ((((S.frontC 4 rfl).frontC 4 rfl).frontC 4 rfl).frontC 4 rfl)
          exact ⟨x8, v8, c6, g6, F.sub ⟨rfl, rfl, rfl, rfl, rfl, rfl, rfl, rfl, rfl, rfl, rfl, rfl, trivial⟩, (Le.refl _), S, h8, hm⟩
        ·clear F S hm; rintro a w ⟨x10, v9, c7, g7, F, l7, S, h9, hm⟩
         refine wp_region_lit ?_
         obtain ⟨z2, hz2, hm⟩ := bind_some hm
         refine wE (ev_int rfl rfl (bo_add hz2)) F S rfl fun a F=>?_
         refine wE (ev_move rfl) F S rfl fun a F=>?_
         refine wpList_nil ?_
         refine then_n ?_
         obtain rfl := sinj hm
         refine ⟨_, rfl, ?_⟩
         dsimp only
         exact ⟨v9, c7, g7, F.sub ⟨rfl, rfl, rfl, rfl, rfl, rfl, rfl, rfl, rfl, rfl, rfl, rfl, trivial⟩, (l6.trans l7), S, h9⟩
       ·refine wp_condF F rfl hc2 ?_
        refine wp_exit ?_
        refine then_e ?_
        refine then_e ?_
        refine inb_x ?_
        refine then_n ?_
        obtain rfl := sinj hm
        obtain rfl := hfin2 _ rfl
        clear hm
        have hm : (commute_shift.j3 x2 x8 : Option (Step (Int × (List Hunk)) (List Hunk))) = some _ := hmo2
        replace S : St g6 [[bx b3 #[v8] 25], [bx b2 #[nilS] 25], c6] fr w := St.tail [[bx b3 #[v8] 25], [bx b2 #[nilS] 25], c6] _ (((S.frontC 3 rfl).frontC 3 rfl).frontC 3 rfl)
        exact ⟨x8, v8, c6, g6, F.sub ⟨rfl, rfl, rfl, rfl, rfl, rfl, rfl, trivial⟩, l6, S, h8, hm⟩
     ·clear F S hm; rintro a w ⟨x6, v7, c5, g5, F, l5, S, h7, hm⟩
      refine inb_n ?_
      refine then_n ?_
      exact ⟨x6, v7, c5, g5, F.sub ⟨rfl, rfl, rfl, rfl, rfl, rfl, rfl, trivial⟩, l5, S, h7, hm⟩
    ·clear F S hm; rintro a w ⟨x5, v4, c4, g4, F, l4, S, h4, hm⟩
     refine wp_region_lit ?_
     obtain ⟨z1, hz1, hm⟩ := bind_some hm
     refine wE (ev_int rfl rfl (bo_add hz1)) F S rfl fun a F=>?_
     refine wE (ev_move rfl) F S rfl fun a F=>?_
     refine wpList_nil ?_
     refine then_n ?_
     obtain rfl := sinj hm
     refine ⟨_, rfl, ?_⟩
     dsimp only
     exact ⟨v4, c4, g4, F.sub ⟨rfl, rfl, rfl, rfl, rfl, rfl, rfl, trivial⟩, (l3.trans l4), S, h4⟩
   ·refine wp_condF F rfl hc1 ?_
    refine wp_exit ?_
    refine then_e ?_
    refine then_e ?_
    refine inb_x ?_
    refine then_n ?_
    obtain rfl := sinj hm
    obtain rfl := hfin1 _ rfl
    clear hm
    have hm : (commute_shift.j1 x3 : Option Patch) = some _ := hmo1
    exact ⟨x3, v3, c3, g3, F.sub ⟨rfl, rfl, trivial⟩, l3, S, h3, hm⟩
 ·clear F S hm; rintro a w ⟨x1, v2, c2, g2, F, l2, S, h2, hm⟩
  refine wp_seq ?_
  refine wp_region_lit ?_
  refine wE (ev_loadA tu25 rfl (cs := [v2]) ts25 rfl (box_ptr (cells := [v2]) 0 rfl 0 rfl (lb rfl))) F S rfl fun a F=>?_
  refine wl_storeC (wn rfl) rfl F S rfl rfl (vs := [v2]) rfl ts25 (one_cons (OwnS.one h2) one_nil) (k := 1) rfl (lb rfl) (c' := #[v2]) rfl rfl ?_; clear S; intro w S
  refine wpList_nil ?_
  refine then_n ?_
  refine wp_ret ?_
  obtain rfl := sinj hm
  refine post_r _ F rfl (ar_cons (resA rfl tu25 rfl (box_ptr (cells := [v2]) 1 rfl 0 rfl (lb rfl) w S) ts25) ar_nil) ?_
  replace S : St g2 [c2] fr w := St.tail [c2] _ (S.frontC 2 rfl)
  exact ⟨_, rfl, g2, v2, c2, (l1.trans l2), S, h2, rfl⟩
end Go.Dc
