/- Walks: each function comes to what its model says. -/
import Derived.Test.YthpkobkngplbbaaGreatDoorDcTab
import Derived.Test.YthpkobkngplbbaaGreatDoorDcM
import Derived.Test.YthpkobkngplbbaaGreatDoorDcW1
import Derived.Test.YthpkobkngplbbaaGreatDoorDcW2
import Derived.Test.YthpkobkngplbbaaGreatDoorDcW4
namespace Go.Dc
open Go Go.Proofs
set_option maxRecDepth 100000
set_option maxHeartbeats 4000000
set_option linter.unusedVariables false
theorem changeforgeequal_Tree_ok {g : Gh} {fr : Hl} {w : World} {r : Bool} (a_ : FileTree) (va_1 : Value) (ha_1 : RepSl g a_.Files va_1) (b_ : FileTree) (vb_1 : Value) (hb_1 : RepSl g b_.Files vb_1) (S : St g [] fr w) (hm : changeforgeequal_Tree a_ b_ = some r) :
  Calls Tryz.prog 9 [.agg #[va_1], .agg #[vb_1]].toArray w (fun en w' => ∃ v, en = .returned v ∧ ∃ (g' : Gh), Le g g' ∧ St g' [] fr w' ∧ .bool r = v) := by
 unfold changeforgeequal_Tree at hm
 refine calls_enter (fn := Tryz.f9) Tryz.func9 rfl Tryz.ntmps9 (lb rfl) ?_
 intro a F
 replace F : Fr 49 a [(0, .agg #[va_1]), (1, .agg #[vb_1])] := F
 refine wp_seq ?_
 refine wp_region_lit ?_
 refine wl_boxC (wn rfl) rfl rfl rfl F S rfl rfl ?_; clear F a S; rintro b1 a w F S
 refine wl_boxC (wn rfl) rfl rfl rfl F S rfl rfl ?_; clear F a S; rintro b2 a w F S
 refine wE (ev_assign rfl) F S rfl fun a F=>?_
 refine wpList_nil ?_
 refine then_n ?_
 refine wp_seq ?_
 refine wp_seq ?_
 refine wp_region_lit ?_
 refine wE (ev_fieldAddr' tu24 tf24_0 (z := 0) ts22 rfl ⟨_, rfl⟩ rfl) F S rfl fun a F=>?_
 refine wE (ev_load1 tu22 rfl rfl (box_ptr (cells := [va_1]) 1 rfl 0 rfl (lb rfl))) F S rfl fun a F=>?_
 refine wE (ev_lenSh ha_1 rfl tu22) F S rfl fun a F=>?_
 refine wE (ev_fieldAddr' tu24 tf24_0 (z := 0) ts22 rfl ⟨_, rfl⟩ rfl) F S rfl fun a F=>?_
 refine wE (ev_load1 tu22 rfl rfl (box_ptr (cells := [vb_1]) 0 rfl 0 rfl (lb rfl))) F S rfl fun a F=>?_
 refine wE (ev_lenSh hb_1 rfl tu22) F S rfl fun a F=>?_
 refine wE (ev_int rfl rfl (bo_neq _ _ _ _)) F S rfl fun a F=>?_
 refine wpList_nil ?_
 refine then_n ?_
 obtain ⟨hc1, hm⟩ | ⟨hc1, hm⟩ := ite_or hm
 ·refine wp_condT F rfl hc1 ?_
  refine wp_seq ?_
  refine wp_region_lit ?_
  refine wE (ev_assign rfl) F S rfl fun a F=>?_
  refine wpList_nil ?_
  refine then_n ?_
  refine wp_ret ?_
  refine then_r ?_
  obtain rfl := sinj hm
  refine post_r _ F rfl (ar_cons (resT rfl) ar_nil) ?_
  replace S : St g [] fr w := St.tail [] _ S
  exact ⟨_, rfl, g, (Le.refl _), S, rfl⟩
 ·refine wp_condF F rfl hc1 ?_
  refine wp_skip ?_
  refine then_n ?_
  refine wp_cut (fun a w => ∃ (g1 : Gh), Fr 49 a [] ∧ Le g g1 ∧ St g1 [] fr w ∧ changeforgeequal_Tree.j1 = some r) ?_ ?_
  ·refine wp_seq ?_
   refine wp_region_lit ?_
   refine wE (ev_assign rfl) F S rfl fun a F=>?_
   refine wpList_nil ?_
   refine then_n ?_
   refine wp_block ?_
   obtain ⟨r1, hr1, hm⟩ := bind_some hm
   have hmo1 := hm; clear hm
   refine wp_iter (σ := Int) (ρ := Bool ⊕ Unit) (m := fun s => changeforgeequal_Tree.l1 a_ b_ s) (I := fun x1 a w => ∃ (g2 : Gh), Fr 49 a [(5, .i6 x1), (3, bp b2 0), (2, bp b1 0)] ∧ Le g g2 ∧ St g2 [[bx b2 #[vb_1] 24], [bx b1 #[va_1] 24]] fr w) hr1 ?_ ?_
   ·exact ⟨g, F.sub ⟨rfl, rfl, rfl, trivial⟩, (Le.refl _), S⟩
   ·clear F S; rintro x1 a w x2 ⟨g2, F, l2, S⟩ hx1 hfin1
    have hm : changeforgeequal_Tree.l1 a_ b_ x1 = some x2 := hx1; clear hx1
    unfold changeforgeequal_Tree.l1 at hm
    refine wp_seq ?_
    refine wp_seq ?_
    refine wp_region_lit ?_
    refine wE (ev_move rfl) F S rfl fun a F=>?_
    refine wE (ev_fieldAddr' tu24 tf24_0 (z := 0) ts22 rfl ⟨_, rfl⟩ rfl) F S rfl fun a F=>?_
    refine wE (ev_load1 tu22 rfl rfl (box_ptr (cells := [va_1]) 1 rfl 0 rfl (lb rfl))) F S rfl fun a F=>?_
    refine wE (ev_lenSh ha_1 rfl tu22) F S rfl fun a F=>?_
    refine wE (ev_int rfl rfl (bo_lss _ _ _ _)) F S rfl fun a F=>?_
    refine wpList_nil ?_
    refine then_n ?_
    obtain ⟨hc2, hm⟩ | ⟨hc2, hm⟩ := ite_or hm
    ·refine wp_condT F rfl hc2 ?_
     refine wp_skip ?_
     refine then_n ?_
     refine wp_seq ?_
     refine wp_block ?_
     refine wp_seq ?_
     refine wp_quiet mo (by kernel_rfl) S ?_
     refine wq_ev (wn rfl) (ev_fieldAddr' tu24 tf24_0 (z := 0) ts22 rfl ⟨_, rfl⟩ rfl) F rfl rfl ?_; clear F a; intro a F
     refine wq_ev (wn rfl) (ev_load1 tu22 rfl rfl (box_ptr (cells := [va_1]) 1 rfl 0 rfl (lb rfl))) F rfl rfl ?_; clear F a; intro a F
     refine wq_ev (wn rfl) (ev_move rfl) F rfl rfl ?_; clear F a; intro a F
     obtain ⟨y1, hy1, hm⟩ := bind_some hm
     obtain ⟨cs1, hr2, hp1⟩ := elemS (ha_1.mono l2) hy1
     obtain ⟨v1, rfl, h1⟩ := rep_File hr2
     refine wq_ev (wn rfl) (ev_idxS (ha_1.mono l2) hy1 tu22 ts70 rfl rfl) F rfl rfl ?_; clear F a; intro a F
     have hp2 := PtrC.field hp1 0 1 (lb rfl)
     have hp2 : PtrC g2 (addP (elemP va_1 x1 2) 0) [.string y1.Path] := hp2
     refine wq_ev (wn rfl) (ev_fieldAddr' tu70 tf70_0 (z := 0) ts9 rfl hp1.ptr rfl) F rfl rfl ?_; clear F a; intro a F
     refine wq_ev (wn rfl) (ev_load1 tu9 rfl rfl (ptr_mono (cks := [[bx b2 #[vb_1] 24], [bx b1 #[va_1] 24]]) (fr := fr) hp2 (Le.refl _))) F rfl rfl ?_; clear F a; intro a F
     refine wq_ev (wn rfl) (ev_fieldAddr' tu24 tf24_0 (z := 0) ts22 rfl ⟨_, rfl⟩ rfl) F rfl rfl ?_; clear F a; intro a F
     refine wq_ev (wn rfl) (ev_load1 tu22 rfl rfl (box_ptr (cells := [vb_1]) 0 rfl 0 rfl (lb rfl))) F rfl rfl ?_; clear F a; intro a F
     refine wq_ev (wn rfl) (ev_move rfl) F rfl rfl ?_; clear F a; intro a F
     obtain ⟨y2, hy2, hm⟩ := bind_some hm
     obtain ⟨cs2, hr3, hp3⟩ := elemS (hb_1.mono l2) hy2
     obtain ⟨v2, rfl, h2⟩ := rep_File hr3
     refine wq_ev (wn rfl) (ev_idxS (hb_1.mono l2) hy2 tu22 ts70 rfl rfl) F rfl rfl ?_; clear F a; intro a F
     have hp4 := PtrC.field hp3 0 1 (lb rfl)
     have hp4 : PtrC g2 (addP (elemP vb_1 x1 2) 0) [.string y2.Path] := hp4
     refine wq_ev (wn rfl) (ev_fieldAddr' tu70 tf70_0 (z := 0) ts9 rfl hp3.ptr rfl) F rfl rfl ?_; clear F a; intro a F
     refine wq_ev (wn rfl) (ev_load1 tu9 rfl rfl (ptr_mono (cks := [[bx b2 #[vb_1] 24], [bx b1 #[va_1] 24]]) (fr := fr) hp4 (Le.refl _))) F rfl rfl ?_; clear F a; intro a F
     refine wq_ev (wn rfl) (ev_str rfl rfl (bs_neq _ _ _)) F rfl rfl ?_; clear F a; intro a F
     refine wq_ev (wn rfl) (ev_move rfl) F rfl rfl ?_; clear F a; intro a F
     obtain ⟨x3, hx2, hm⟩ := bind_some hm
     refine wq_cut 15 (fun a => Fr 49 a [(48, .bool x3), (5, .i6 x1), (3, bp b2 0), (2, bp b1 0)]) ?_ ?_
     ·clear hm; obtain ⟨hc3, hm⟩ | ⟨hc3, hm⟩ := ite_or hx2
      ·refine wq_skip rfl rfl rfl rfl (ne_ft hc3) F rfl rfl ?_; clear F a; intro a F
       refine wq_skip rfl rfl rfl rfl (ne_ft hc3) F rfl rfl ?_; clear F a; intro a F
       refine wq_skip rfl rfl rfl rfl (ne_ft hc3) F rfl rfl ?_; clear F a; intro a F
       refine wq_skip rfl rfl rfl rfl (ne_ft hc3) F rfl rfl ?_; clear F a; intro a F
       refine wq_skip rfl rfl rfl rfl (ne_ft hc3) F rfl rfl ?_; clear F a; intro a F
       refine wq_skip rfl rfl rfl rfl (ne_ft hc3) F rfl rfl ?_; clear F a; intro a F
       refine wq_skip rfl rfl rfl rfl (ne_ft hc3) F rfl rfl ?_; clear F a; intro a F
       refine wq_skip rfl rfl rfl rfl (ne_ft hc3) F rfl rfl ?_; clear F a; intro a F
       refine wq_skip rfl rfl rfl rfl (ne_ft hc3) F rfl rfl ?_; clear F a; intro a F
       refine wq_skip rfl rfl rfl rfl (ne_ft hc3) F rfl rfl ?_; clear F a; intro a F
       refine wq_skip rfl rfl rfl rfl (ne_ft hc3) F rfl rfl ?_; clear F a; intro a F
       refine wq_skip rfl rfl rfl rfl (ne_ft hc3) F rfl rfl ?_; clear F a; intro a F
       refine wq_skip rfl rfl rfl rfl (ne_ft hc3) F rfl rfl ?_; clear F a; intro a F
       refine wq_skip rfl rfl rfl rfl (ne_ft hc3) F rfl rfl ?_; clear F a; intro a F
       refine wq_ev (wn rfl) (ev_pickT rfl hc3 rfl) F rfl rfl ?_; clear F a; intro a F
       obtain rfl := sinj hm
       refine wq_nil ?_; exact F.sub ⟨rfl, rfl, rfl, rfl, trivial⟩
      ·refine wq_ev (wg F rfl rfl rfl rfl hc3) (ev_fieldAddr' tu24 tf24_0 (z := 0) ts22 rfl ⟨_, rfl⟩ rfl) F rfl rfl ?_; clear F a; intro a F
       refine wq_ev (wg F rfl rfl rfl rfl hc3) (ev_load1 tu22 rfl rfl (box_ptr (cells := [va_1]) 1 rfl 0 rfl (lb rfl))) F rfl rfl ?_; clear F a; intro a F
       refine wq_ev (wg F rfl rfl rfl rfl hc3) (ev_move rfl) F rfl rfl ?_; clear F a; intro a F
       obtain ⟨y3, hy3, hm⟩ := bind_some hm
       obtain ⟨cs3, hr4, hp5⟩ := elemS (ha_1.mono l2) hy3
       obtain ⟨v3, rfl, h3⟩ := rep_File hr4
       refine wq_ev (wg F rfl rfl rfl rfl hc3) (ev_idxS (ha_1.mono l2) hy3 tu22 ts70 rfl rfl) F rfl rfl ?_; clear F a; intro a F
       have hp6 := PtrC.field hp5 1 1 (lb rfl)
       have hp6 : PtrC g2 (addP (elemP va_1 x1 2) 1) [v3] := hp6
       refine wq_ev (wg F rfl rfl rfl rfl hc3) (ev_fieldAddr' tu70 tf70_1 (z := 0) ts28 rfl hp5.ptr rfl) F rfl rfl ?_; clear F a; intro a F
       refine wq_ev (wg F rfl rfl rfl rfl hc3) (ev_load1 tu28 rfl rfl (ptr_mono (cks := [[bx b2 #[vb_1] 24], [bx b1 #[va_1] 24]]) (fr := fr) hp6 (Le.refl _))) F rfl rfl ?_; clear F a; intro a F
       refine wq_ev (wg F rfl rfl rfl rfl hc3) (ev_fieldAddr' tu24 tf24_0 (z := 0) ts22 rfl ⟨_, rfl⟩ rfl) F rfl rfl ?_; clear F a; intro a F
       refine wq_ev (wg F rfl rfl rfl rfl hc3) (ev_load1 tu22 rfl rfl (box_ptr (cells := [vb_1]) 0 rfl 0 rfl (lb rfl))) F rfl rfl ?_; clear F a; intro a F
       refine wq_ev (wg F rfl rfl rfl rfl hc3) (ev_move rfl) F rfl rfl ?_; clear F a; intro a F
       obtain ⟨y4, hy4, hm⟩ := bind_some hm
       obtain ⟨cs4, hr5, hp7⟩ := elemS (hb_1.mono l2) hy4
       obtain ⟨v4, rfl, h4⟩ := rep_File hr5
       refine wq_ev (wg F rfl rfl rfl rfl hc3) (ev_idxS (hb_1.mono l2) hy4 tu22 ts70 rfl rfl) F rfl rfl ?_; clear F a; intro a F
       have hp8 := PtrC.field hp7 1 1 (lb rfl)
       have hp8 : PtrC g2 (addP (elemP vb_1 x1 2) 1) [v4] := hp8
       refine wq_ev (wg F rfl rfl rfl rfl hc3) (ev_fieldAddr' tu70 tf70_1 (z := 0) ts28 rfl hp7.ptr rfl) F rfl rfl ?_; clear F a; intro a F
       refine wq_ev (wg F rfl rfl rfl rfl hc3) (ev_load1 tu28 rfl rfl (ptr_mono (cks := [[bx b2 #[vb_1] 24], [bx b1 #[va_1] 24]]) (fr := fr) hp8 (Le.refl _))) F rfl rfl ?_; clear F a; intro a F
       obtain ⟨y5, hy5, hm⟩ := bind_some hm
       refine wq_call (wg F rfl rfl rfl rfl hc3) rfl (xs := [.tmp 39, .tmp 45]) (vs := [v3, v4]) (cap := []) F rfl rfl tc26 (v := .bool y5) (fun w S => (changeforgeequal_Strings_ok (g := g2) (fr := (fl [[bx b2 #[vb_1] 24], [bx b1 #[va_1] 24]] fr)) (w := w) y3.Lines v3 h3 y4.Lines v4 h4 S hy5).mono (by rintro en w' ⟨_, rfl, g2, l2, S2, rfl⟩; exact ⟨rfl, S2.weak l2⟩)) rfl rfl ?_; clear F a; intro a F
       refine wq_ev (wg F rfl rfl rfl rfl hc3) (ev_not rfl) F rfl rfl ?_; clear F a; intro a F
       refine wq_ev (wn rfl) (ev_pickF rfl hc3 rfl) F rfl rfl ?_; clear F a; intro a F
       obtain rfl := sinj hm
       refine wq_nil ?_; exact F.sub ⟨rfl, rfl, rfl, rfl, trivial⟩
     clear F; intro a F
     refine wq_nil ?_; clear S; intro w S
     refine then_n ?_
     obtain ⟨hc4, hm⟩ | ⟨hc4, hm⟩ := ite_or hm
     ·refine wp_condT F rfl hc4 ?_
      refine wp_seq ?_
      refine wp_region_lit ?_
      refine wE (ev_assign rfl) F S rfl fun a F=>?_
      refine wpList_nil ?_
      refine then_n ?_
      refine wp_ret ?_
      refine inb_r ?_
      refine then_r ?_
      refine then_r ?_
      refine inb_r ?_
      refine then_r ?_
      obtain rfl := sinj hm
      obtain rfl := hfin1 _ rfl
      clear hm
      have hm : (some false : Option Bool) = some _ := hmo1
      obtain rfl := sinj hm
      refine post_r _ F rfl (ar_cons (resT rfl) ar_nil) ?_
      replace S : St g2 [] fr w := St.tail [] _ S
      exact ⟨_, rfl, g2, l2, S, rfl⟩
     ·refine wp_condF F rfl hc4 ?_
      refine wp_skip ?_
      refine inb_n ?_
      refine then_n ?_
      refine wp_region_lit ?_
      refine wE (ev_move rfl) F S rfl fun a F=>?_
      obtain ⟨z1, hz1, hm⟩ := bind_some hm
      refine wE (ev_int rfl rfl (bo_add hz1)) F S rfl fun a F=>?_
      refine wE (ev_assign rfl) F S rfl fun a F=>?_
      refine wpList_nil ?_
      refine then_n ?_
      obtain rfl := sinj hm
      refine ⟨_, rfl, ?_⟩
      exact ⟨g2, F.sub ⟨rfl, rfl, rfl, trivial⟩, l2, S⟩
    ·refine wp_condF F rfl hc2 ?_
     refine wp_exit ?_
     refine then_e ?_
     refine then_e ?_
     refine inb_x ?_
     refine then_n ?_
     obtain rfl := sinj hm
     obtain rfl := hfin1 _ rfl
     clear hm
     have hm : (changeforgeequal_Tree.j1 : Option Bool) = some _ := hmo1
     replace S : St g2 [] fr w := St.tail [] _ S
     exact ⟨g2, F.sub trivial, l2, S, hm⟩
  ·clear F S hm; rintro a w ⟨g1, F, l1, S, hm⟩
   refine wp_seq ?_
   refine wp_region_lit ?_
   refine wE (ev_assign rfl) F S rfl fun a F=>?_
   refine wpList_nil ?_
   refine then_n ?_
   refine wp_ret ?_
   obtain rfl := sinj hm
   refine post_r _ F rfl (ar_cons (resT rfl) ar_nil) ?_
   exact ⟨_, rfl, g1, l1, S, rfl⟩

theorem changeforgetop_h11Edit_ok {g : Gh} {fr : Hl} {w : World} {r : TreePatch} (path : ByteArray) (p_ : Patch) (vp_1 : Value) (hp_1 : RepSl g p_.Hunks vp_1) (S : St g [] fr w) (hm : changeforgetop_h11Edit path p_ = some r) :
  Calls Tryz.prog 25 [.string path, .agg #[vp_1]].toArray w (fun en w' => ∃ v, en = .returned v ∧ ∃ (g' : Gh) (v1 : Value) (c1 : Hl), Le g g' ∧ St g' [c1] fr w' ∧ OwnS g' r.Changes v1 c1 ∧ .agg #[v1] = v) := by
 unfold changeforgetop_h11Edit at hm
 refine calls_enter (fn := Tryz.f25) Tryz.func25 rfl Tryz.ntmps25 (lb rfl) ?_
 intro a F
 replace F : Fr 10 a [(0, .string path), (1, .agg #[vp_1])] := F
 refine wp_seq ?_
 refine wp_region_lit ?_
 refine wl_boxC (wn rfl) rfl rfl rfl F S rfl rfl ?_; clear F a S; rintro b1 a w F S
 refine wl_alloc (wn rfl) rfl tz37 (cs := [nilS]) rfl F S rfl rfl ?_; clear F a S; rintro b2 a w F S
 refine wpList_nil ?_
 refine then_n ?_
 refine wp_seq ?_
 refine wp_region_lit ?_
 refine wE (ev_move rfl) F S rfl fun a F=>?_
 refine wE (ev_loadA tu27 rfl (cs := [vp_1]) ts27 rfl (box_ptr (cells := [vp_1]) 1 rfl 0 rfl (lb rfl))) F S rfl fun a F=>?_
 refine wE (ev_build (parts := [(0, .const (.i6 4)), (1, .tmp 5), (4, .tmp 6)]) (vs := [(0, .i6 4), (1, .string path), (4, .agg #[vp_1])]) rfl (fun w => tb30_0_1_4 4 path vp_1 (RepSl.isSl hp_1) w)) F S rfl fun a F=>?_
 refine wl_lit (l := ([({ Kind := 4, Path := path, To := ByteArray.empty, Lines := [], Patch := p_ } : TreeChange)] : List TreeChange)) (vs := [.agg #[.i6 4, .string path, .string ByteArray.empty, nilS, vp_1]]) (parts := [(0, .tmp 7)]) (wn rfl) rfl rfl rfl tu35 te30 (sz_cons rfl sz_nil) rfl (Cat.cons (rep_TreeChange_mk (x := ({ Kind := 4, Path := path, To := ByteArray.empty, Lines := [], Patch := p_ } : TreeChange)) (RepSl.nil _) hp_1) (Cat.nil _)) (coa_cons rfl coa_nil) rfl F S rfl rfl ?_; clear F a S
 rintro v1 c1 a w h1 F S
 refine wE (ev_build (parts := [(0, .tmp 8)]) (vs := [(0, v1)]) rfl (fun w => tb37_0 v1 (OwnS.isSl h1) w)) F S rfl fun a F=>?_
 refine wl_storeC (wn rfl) rfl F S rfl rfl (vs := [v1]) rfl ts37 (one_cons (OwnS.one h1) one_nil) (k := 1) rfl (lb rfl) (c' := #[v1]) rfl rfl ?_; clear S; intro w S
 refine wpList_nil ?_
 refine then_n ?_
 refine wp_ret ?_
 obtain rfl := sinj hm
 refine post_r _ F rfl (ar_cons (resA rfl tu37 rfl (box_ptr (cells := [v1]) 1 rfl 0 rfl (lb rfl) w S) ts37) ar_nil) ?_
 replace S : St g [c1] fr w := St.tail [c1] _ (S.frontC 0 rfl)
 exact ⟨_, rfl, g, v1, c1, (Le.refl _), S, h1, rfl⟩

theorem changeforgetop_h11Works_ok {g : Gh} {fr : Hl} {w : World} {r : Bool}  (S : St g [] fr w) (hm : changeforgetop_h11Works = some r) :
  Calls Tryz.prog 6 [].toArray w (fun en w' => ∃ v, en = .returned v ∧ ∃ (g' : Gh), Le g g' ∧ St g' [] fr w' ∧ .bool r = v) := by
 unfold changeforgetop_h11Works at hm
 refine calls_enter (fn := Tryz.f6) Tryz.func6 rfl Tryz.ntmps6 (lb rfl) ?_
 intro a F
 replace F : Fr 48 a [] := F
 refine wp_seq ?_
 refine wp_region_lit ?_
 refine wE (ev_assign rfl) F S rfl fun a F=>?_
 refine wpList_nil ?_
 refine then_n ?_
 refine wp_seq ?_
 refine wp_region_lit ?_
 refine wl_lit (l := ([(⟨#[97]⟩ : ByteArray)] : List ByteArray)) (vs := [.string (⟨#[97]⟩ : ByteArray)]) (parts := [(0, .const (.string (⟨#[97]⟩ : ByteArray)))]) (wn rfl) rfl rfl rfl tu28 te9 (sz_cons rfl sz_nil) rfl (Cat.cons (show Rep.rep _ (⟨#[97]⟩ : ByteArray) _ from rfl) (Cat.nil _)) (coa_cons rfl coa_nil) rfl F S rfl rfl ?_; clear F a S
 rintro v1 c1 a w h1 F S
 refine wl_lit (l := ([(⟨#[98]⟩ : ByteArray)] : List ByteArray)) (vs := [.string (⟨#[98]⟩ : ByteArray)]) (parts := [(0, .const (.string (⟨#[98]⟩ : ByteArray)))]) (wn rfl) rfl rfl rfl tu28 te9 (sz_cons rfl sz_nil) rfl (Cat.cons (show Rep.rep _ (⟨#[98]⟩ : ByteArray) _ from rfl) (Cat.nil _)) (coa_cons rfl coa_nil) rfl F S rfl rfl ?_; clear F a S
 rintro v2 c2 a w h2 F S
 refine wE (ev_build (parts := [(0, .const (.i6 0)), (1, .tmp 6), (2, .tmp 7)]) (vs := [(0, .i6 0), (1, v1), (2, v2)]) rfl (fun w => tb65_0_1_2 0 v1 (OwnS.isSl h1) v2 (OwnS.isSl h2) w)) F S rfl fun a F=>?_
 obtain ⟨g1, l1, S, h3⟩ : ∃ gz, Le g gz ∧ St gz [c2] fr w ∧ RepSl gz ([(⟨#[97]⟩ : ByteArray)] : List ByteArray) v1 := ⟨_, Le.add _ _, S.freeze 1 rfl, OwnS.freeze (S.front 1 rfl) h1⟩
 obtain ⟨g2, l2, S, h4⟩ : ∃ gz, Le g1 gz ∧ St gz [] fr w ∧ RepSl gz ([(⟨#[98]⟩ : ByteArray)] : List ByteArray) v2 := ⟨_, Le.add _ _, S.freeze 0 rfl, OwnS.freeze (S.front 0 rfl) (h2.mono l1)⟩
 refine wl_lit (l := ([({ At := 0, Old := ([(⟨#[97]⟩ : ByteArray)] : List ByteArray), New := ([(⟨#[98]⟩ : ByteArray)] : List ByteArray) } : Hunk)] : List Hunk)) (vs := [.agg #[.i6 0, v1, v2]]) (parts := [(0, .tmp 8)]) (wn rfl) rfl rfl rfl tu25 te65 (sz_cons rfl sz_nil) rfl (Cat.cons (rep_Hunk_mk (x := ({ At := 0, Old := ([(⟨#[97]⟩ : ByteArray)] : List ByteArray), New := ([(⟨#[98]⟩ : ByteArray)] : List ByteArray) } : Hunk)) (h3.mono l2) h4) (Cat.nil _)) (coa_cons rfl coa_nil) rfl F S rfl rfl ?_; clear F a S
 rintro v3 c3 a w h5 F S
 refine wE (ev_build (parts := [(0, .tmp 9)]) (vs := [(0, v3)]) rfl (fun w => tb27_0 v3 (OwnS.isSl h5) w)) F S rfl fun a F=>?_
 refine wl_alloc (wn rfl) rfl tz27 (cs := [nilS]) rfl F S rfl rfl ?_; clear F a S; rintro b1 a w F S
 refine wl_storeC (wn rfl) rfl F S rfl rfl (vs := [v3]) rfl ts27 (one_cons (OwnS.one h5) one_nil) (k := 0) rfl (lb rfl) (c' := #[v3]) rfl rfl ?_; clear S; intro w S
 refine wpList_nil ?_
 refine then_n ?_
 refine wp_seq ?_
 refine wp_region_lit ?_
 refine wE (ev_loadA tu27 rfl (cs := [v3]) ts27 rfl (box_ptr (cells := [v3]) 0 rfl 0 rfl (lb rfl))) F S rfl fun a F=>?_
 refine wl_lit (l := ([(⟨#[97]⟩ : ByteArray)] : List ByteArray)) (vs := [.string (⟨#[97]⟩ : ByteArray)]) (parts := [(0, .const (.string (⟨#[97]⟩ : ByteArray)))]) (wn rfl) rfl rfl rfl tu28 te9 (sz_cons rfl sz_nil) rfl (Cat.cons (show Rep.rep _ (⟨#[97]⟩ : ByteArray) _ from rfl) (Cat.nil _)) (coa_cons rfl coa_nil) rfl F S rfl rfl ?_; clear F a S
 rintro v4 c4 a w h6 F S
 obtain ⟨g3, l3, S, h7⟩ : ∃ gz, Le g2 gz ∧ St gz [c4, [bx b1 #[v3] 27]] fr w ∧ RepSl gz ([({ At := 0, Old := ([(⟨#[97]⟩ : ByteArray)] : List ByteArray), New := ([(⟨#[98]⟩ : ByteArray)] : List ByteArray) } : Hunk)] : List Hunk) v3 := ⟨_, Le.add _ _, S.freeze 2 rfl, OwnS.freeze (S.front 2 rfl) h5⟩
 obtain ⟨g4, l4, S, h8⟩ : ∃ gz, Le g3 gz ∧ St gz [[bx b1 #[v3] 27]] fr w ∧ RepSl gz ([(⟨#[97]⟩ : ByteArray)] : List ByteArray) v4 := ⟨_, Le.add _ _, S.freeze 0 rfl, OwnS.freeze (S.front 0 rfl) (h6.mono l3)⟩
 obtain ⟨y1, hy1, hm⟩ := bind_some hm
 refine wl_call0 (wn rfl) rfl F rfl (textpatch_Apply_ok (fr := (fl [[bx b1 #[v3] 27]] fr)) ({ Hunks := ([({ At := 0, Old := ([(⟨#[97]⟩ : ByteArray)] : List ByteArray), New := ([(⟨#[98]⟩ : ByteArray)] : List ByteArray) } : Hunk)] : List Hunk) } : Patch) v3 (h7.mono l4) ([(⟨#[97]⟩ : ByteArray)] : List ByteArray) v4 h8 S hy1) rfl tc24 rfl rfl ?_; clear F a S
 rintro _ a w ⟨g5, v5, c5, l5, S, h9, rfl⟩ F; replace S : St g5 [c5, [bx b1 #[v3] 27]] fr w := S
 refine wE (ev_move rfl) F S rfl fun a F=>?_
 refine wE (ev_extract rfl rfl) F S rfl fun a F=>?_
 refine wE (ev_extract rfl rfl) F S rfl fun a F=>?_
 refine wl_alloc (wn rfl) rfl tz32 (cs := [.i6 0, .i6 0]) rfl F S rfl rfl ?_; clear F a S; rintro b2 a w F S
 refine wE (ev_assign rfl) F S rfl fun a F=>?_
 refine wl_storeC (wn rfl) rfl F S rfl rfl (vs := [.i6 y1.2.Code, .i6 y1.2.Index]) rfl ts32 (one_cons rfl (one_cons rfl one_nil)) (k := 0) rfl (lb rfl) (c' := #[.i6 y1.2.Code, .i6 y1.2.Index]) rfl rfl ?_; clear S; intro w S
 refine wpList_nil ?_
 refine then_n ?_
 refine wp_seq ?_
 refine wp_region_lit ?_
 refine wE (ev_loadA tu27 rfl (cs := [v3]) ts27 rfl (box_ptr (cells := [v3]) 2 rfl 0 rfl (lb rfl))) F S rfl fun a F=>?_
 obtain ⟨y2, hy2, hm⟩ := bind_some hm
 refine wl_call0 (wn rfl) rfl F rfl (changeforgetop_h11Edit_ok (fr := (fl [[bx b2 #[.i6 y1.2.Code, .i6 y1.2.Index] 32], c5, [bx b1 #[v3] 27]] fr)) (⟨#[120]⟩ : ByteArray) ({ Hunks := ([({ At := 0, Old := ([(⟨#[97]⟩ : ByteArray)] : List ByteArray), New := ([(⟨#[98]⟩ : ByteArray)] : List ByteArray) } : Hunk)] : List Hunk) } : Patch) v3 (h7.mono (l4.trans l5)) S hy2) rfl tc25 rfl rfl ?_; clear F a S
 rintro _ a w ⟨g6, v6, c6, l6, S, h10, rfl⟩ F; replace S : St g6 [c6, [bx b2 #[.i6 y1.2.Code, .i6 y1.2.Index] 32], c5, [bx b1 #[v3] 27]] fr w := S
 refine wl_lit (l := ([(⟨#[97]⟩ : ByteArray)] : List ByteArray)) (vs := [.string (⟨#[97]⟩ : ByteArray)]) (parts := [(0, .const (.string (⟨#[97]⟩ : ByteArray)))]) (wn rfl) rfl rfl rfl tu28 te9 (sz_cons rfl sz_nil) rfl (Cat.cons (show Rep.rep _ (⟨#[97]⟩ : ByteArray) _ from rfl) (Cat.nil _)) (coa_cons rfl coa_nil) rfl F S rfl rfl ?_; clear F a S
 rintro v7 c7 a w h11 F S
 refine wE (ev_build (parts := [(0, .const (.string (⟨#[120]⟩ : ByteArray))), (1, .tmp 20)]) (vs := [(0, .string (⟨#[120]⟩ : ByteArray)), (1, v7)]) rfl (fun w => tb70_0_1 (⟨#[120]⟩ : ByteArray) v7 (OwnS.isSl h11) w)) F S rfl fun a F=>?_
 obtain ⟨g7, l7, S, h12⟩ : ∃ gz, Le g6 gz ∧ St gz [c6, [bx b2 #[.i6 y1.2.Code, .i6 y1.2.Index] 32], c5, [bx b1 #[v3] 27]] fr w ∧ RepSl gz ([(⟨#[97]⟩ : ByteArray)] : List ByteArray) v7 := ⟨_, Le.add _ _, S.freeze 0 rfl, OwnS.freeze (S.front 0 rfl) h11⟩
 refine wl_lit (l := ([({ Path := (⟨#[120]⟩ : ByteArray), Lines := ([(⟨#[97]⟩ : ByteArray)] : List ByteArray) } : File)] : List File)) (vs := [.agg #[.string (⟨#[120]⟩ : ByteArray), v7]]) (parts := [(0, .tmp 21)]) (wn rfl) rfl rfl rfl tu22 te70 (sz_cons rfl sz_nil) rfl (Cat.cons (rep_File_mk (x := ({ Path := (⟨#[120]⟩ : ByteArray), Lines := ([(⟨#[97]⟩ : ByteArray)] : List ByteArray) } : File)) h12) (Cat.nil _)) (coa_cons rfl coa_nil) rfl F S rfl rfl ?_; clear F a S
 rintro v8 c8 a w h13 F S
 refine wE (ev_build (parts := [(0, .tmp 22)]) (vs := [(0, v8)]) rfl (fun w => tb24_0 v8 (OwnS.isSl h13) w)) F S rfl fun a F=>?_
 obtain ⟨g8, l8, S, h14⟩ : ∃ gz, Le g7 gz ∧ St gz [c8, [bx b2 #[.i6 y1.2.Code, .i6 y1.2.Index] 32], c5, [bx b1 #[v3] 27]] fr w ∧ RepSl gz y2.Changes v6 := ⟨_, Le.add _ _, S.freeze 1 rfl, OwnS.freeze (S.front 1 rfl) (h10.mono l7)⟩
 obtain ⟨g9, l9, S, h15⟩ : ∃ gz, Le g8 gz ∧ St gz [[bx b2 #[.i6 y1.2.Code, .i6 y1.2.Index] 32], c5, [bx b1 #[v3] 27]] fr w ∧ RepSl gz ([({ Path := (⟨#[120]⟩ : ByteArray), Lines := ([(⟨#[97]⟩ : ByteArray)] : List ByteArray) } : File)] : List File) v8 := ⟨_, Le.add _ _, S.freeze 0 rfl, OwnS.freeze (S.front 0 rfl) (h13.mono l8)⟩
 obtain ⟨y3, hy3, hm⟩ := bind_some hm
 refine wl_call0 (wn rfl) rfl F rfl (treepatch_Apply_ok (fr := (fl [[bx b2 #[.i6 y1.2.Code, .i6 y1.2.Index] 32], c5, [bx b1 #[v3] 27]] fr)) y2 v6 (h14.mono l9) ({ Files := ([({ Path := (⟨#[120]⟩ : ByteArray), Lines := ([(⟨#[97]⟩ : ByteArray)] : List ByteArray) } : File)] : List File) } : FileTree) v8 h15 S hy3) rfl tc5 rfl rfl ?_; clear F a S
 rintro _ a w ⟨g10, v9, c9, l10, S, h16, rfl⟩ F; replace S : St g10 [c9, [bx b2 #[.i6 y1.2.Code, .i6 y1.2.Index] 32], c5, [bx b1 #[v3] 27]] fr w := S
 refine wE (ev_move rfl) F S rfl fun a F=>?_
 refine wE (ev_extract rfl rfl) F S rfl fun a F=>?_
 refine wE (ev_extract rfl rfl) F S rfl fun a F=>?_
 refine wl_alloc (wn rfl) rfl tz24 (cs := [nilS]) rfl F S rfl rfl ?_; clear F a S; rintro b3 a w F S
 refine wl_alloc (wn rfl) rfl tz32 (cs := [.i6 0, .i6 0]) rfl F S rfl rfl ?_; clear F a S; rintro b4 a w F S
 refine wl_storeC (wn rfl) rfl F S rfl rfl (vs := [v9]) rfl ts24 (one_cons (OwnS.one h16) one_nil) (k := 1) rfl (lb rfl) (c' := #[v9]) rfl rfl ?_; clear S; intro w S
 refine wl_storeC (wn rfl) rfl F S rfl rfl (vs := [.i6 y3.2.Code, .i6 y3.2.Index]) rfl ts32 (one_cons rfl (one_cons rfl one_nil)) (k := 0) rfl (lb rfl) (c' := #[.i6 y3.2.Code, .i6 y3.2.Index]) rfl rfl ?_; clear S; intro w S
 refine wpList_nil ?_
 refine then_n ?_
 refine wp_seq ?_
 refine wp_region_lit ?_
 refine wE (ev_fieldAddr' tu32 tf32_0 (z := 0) ts3 rfl ⟨_, rfl⟩ rfl) F S rfl fun a F=>?_
 refine wE (ev_load1 tu3 rfl rfl (box_ptr (cells := [.i6 y1.2.Code]) 3 rfl 0 rfl (lb rfl))) F S rfl fun a F=>?_
 refine wE (ev_int rfl rfl (bo_eql _ _ _ _)) F S rfl fun a F=>?_
 refine wE (ev_move rfl) F S rfl fun a F=>?_
 obtain ⟨x1, hx1, hm⟩ := bind_some hm
 refine wl_cut 4 (fun a w' => w = w' ∧ Fr 48 a [(34, .bool x1), (4, bp b3 0), (2, v5), (0, .bool false)]) ?_ ?_
 ·clear hm; obtain ⟨hc1, hm⟩ | ⟨hc1, hm⟩ := ite_or hx1
  ·refine wl_ev (wg F rfl rfl rfl rfl hc1) (ev_fieldAddr' tu32 tf32_0 (z := 0) ts3 rfl ⟨_, rfl⟩ rfl) F S rfl rfl ?_; clear F a; intro a F
   refine wl_ev (wg F rfl rfl rfl rfl hc1) (ev_load1 tu3 rfl rfl (box_ptr (cells := [.i6 y3.2.Code]) 0 rfl 0 rfl (lb rfl))) F S rfl rfl ?_; clear F a; intro a F
   refine wl_ev (wg F rfl rfl rfl rfl hc1) (ev_int rfl rfl (bo_eql _ _ _ _)) F S rfl rfl ?_; clear F a; intro a F
   refine wE (ev_pickT rfl hc1 rfl) F S rfl fun a F=>?_
   obtain rfl := sinj hm
   refine wpList_nil (then_n ?_); exact ⟨rfl, F.sub ⟨rfl, rfl, rfl, rfl, trivial⟩⟩
  ·refine wl_skip rfl rfl rfl rfl (ne_tf hc1) F rfl rfl ?_; clear F a; intro a F
   refine wl_skip rfl rfl rfl rfl (ne_tf hc1) F rfl rfl ?_; clear F a; intro a F
   refine wl_skip rfl rfl rfl rfl (ne_tf hc1) F rfl rfl ?_; clear F a; intro a F
   refine wE (ev_pickF rfl hc1 rfl) F S rfl fun a F=>?_
   obtain rfl := sinj hm
   refine wpList_nil (then_n ?_); exact ⟨rfl, F.sub ⟨rfl, rfl, rfl, rfl, trivial⟩⟩
 clear F; rintro a w' ⟨rfl, F⟩
 refine wE (ev_move rfl) F S rfl fun a F=>?_
 obtain ⟨g11, l11, S, h17⟩ : ∃ gz, Le g10 gz ∧ St gz [[bx b4 #[.i6 y3.2.Code, .i6 y3.2.Index] 32], [bx b3 #[v9] 24], c9, [bx b2 #[.i6 y1.2.Code, .i6 y1.2.Index] 32], [bx b1 #[v3] 27]] fr w ∧ RepSl gz y1.1 v5 := ⟨_, Le.add _ _, S.freeze 4 rfl, OwnS.freeze (S.front 4 rfl) (h9.mono ((((l6.trans l7).trans l8).trans l9).trans l10))⟩
 obtain ⟨x2, hx2, hm⟩ := bind_some hm
 refine wl_cut 4 (fun a w => ∃ g12, Fr 48 a [(39, .bool x2), (4, bp b3 0), (0, .bool false)] ∧ Le g11 g12 ∧ St g12 [[bx b4 #[.i6 y3.2.Code, .i6 y3.2.Index] 32], [bx b3 #[v9] 24], c9, [bx b2 #[.i6 y1.2.Code, .i6 y1.2.Index] 32], [bx b1 #[v3] 27]] fr w) ?_ ?_
 ·clear hm; obtain ⟨hc2, hm⟩ | ⟨hc2, hm⟩ := ite_or hx2
  ·refine wl_ev (wg F rfl rfl rfl rfl hc2) (ev_move rfl) F S rfl rfl ?_; clear F a; intro a F
   refine wl_lit (l := ([(⟨#[98]⟩ : ByteArray)] : List ByteArray)) (vs := [.string (⟨#[98]⟩ : ByteArray)]) (parts := [(0, .const (.string (⟨#[98]⟩ : ByteArray)))]) (wg F rfl rfl rfl rfl hc2) rfl rfl rfl tu28 te9 (sz_cons rfl sz_nil) rfl (Cat.cons (show Rep.rep _ (⟨#[98]⟩ : ByteArray) _ from rfl) (Cat.nil _)) (coa_cons rfl coa_nil) rfl F S rfl rfl ?_; clear F a S
   rintro v10 c10 a w h18 F S
   obtain ⟨g13, l13, S, h19⟩ : ∃ gz, Le g11 gz ∧ St gz [[bx b4 #[.i6 y3.2.Code, .i6 y3.2.Index] 32], [bx b3 #[v9] 24], c9, [bx b2 #[.i6 y1.2.Code, .i6 y1.2.Index] 32], [bx b1 #[v3] 27]] fr w ∧ RepSl gz ([(⟨#[98]⟩ : ByteArray)] : List ByteArray) v10 := ⟨_, Le.add _ _, S.freeze 0 rfl, OwnS.freeze (S.front 0 rfl) h18⟩
   obtain ⟨y4, hy4, hm⟩ := bind_some hm
   refine wl_call0 (wg F rfl rfl rfl rfl hc2) rfl F rfl (changeforgeequal_Strings_ok (fr := (fl [[bx b4 #[.i6 y3.2.Code, .i6 y3.2.Index] 32], [bx b3 #[v9] 24], c9, [bx b2 #[.i6 y1.2.Code, .i6 y1.2.Index] 32], [bx b1 #[v3] 27]] fr)) y1.1 v5 (h17.mono l13) ([(⟨#[98]⟩ : ByteArray)] : List ByteArray) v10 h19 S hy4) rfl tc26 rfl rfl ?_; clear F a S
   rintro _ a w ⟨g14, l14, S, rfl⟩ F; replace S : St g14 [[bx b4 #[.i6 y3.2.Code, .i6 y3.2.Index] 32], [bx b3 #[v9] 24], c9, [bx b2 #[.i6 y1.2.Code, .i6 y1.2.Index] 32], [bx b1 #[v3] 27]] fr w := S
   refine wE (ev_pickT rfl hc2 rfl) F S rfl fun a F=>?_
   obtain rfl := sinj hm
   refine wpList_nil (then_n ?_); exact ⟨g14, F.sub ⟨rfl, rfl, rfl, trivial⟩, (l13.trans l14), S⟩
  ·refine wl_skip rfl rfl rfl rfl (ne_tf hc2) F rfl rfl ?_; clear F a; intro a F
   refine wl_skip rfl rfl rfl rfl (ne_tf hc2) F rfl rfl ?_; clear F a; intro a F
   refine wl_skip rfl rfl rfl rfl (ne_tf hc2) F rfl rfl ?_; clear F a; intro a F
   refine wE (ev_pickF rfl hc2 rfl) F S rfl fun a F=>?_
   obtain rfl := sinj hm
   refine wpList_nil (then_n ?_); exact ⟨g11, F.sub ⟨rfl, rfl, rfl, trivial⟩, (Le.refl _), S⟩
 clear F S; rintro a w ⟨g12, F, l12, S⟩
 refine wE (ev_move rfl) F S rfl fun a F=>?_
 obtain ⟨g15, l15, S, h20⟩ : ∃ gz, Le g12 gz ∧ St gz [[bx b4 #[.i6 y3.2.Code, .i6 y3.2.Index] 32], [bx b3 #[v9] 24], [bx b2 #[.i6 y1.2.Code, .i6 y1.2.Index] 32], [bx b1 #[v3] 27]] fr w ∧ RepSl gz y3.1.Files v9 := ⟨_, Le.add _ _, S.freeze 2 rfl, OwnS.freeze (S.front 2 rfl) (h16.mono (l11.trans l12))⟩
 obtain ⟨x3, hx3, hm⟩ := bind_some hm
 refine wl_cut 7 (fun a w => ∃ g16, Fr 48 a [(47, .bool x3), (0, .bool false)] ∧ Le g15 g16 ∧ St g16 [[bx b4 #[.i6 y3.2.Code, .i6 y3.2.Index] 32], [bx b3 #[v9] 24], [bx b2 #[.i6 y1.2.Code, .i6 y1.2.Index] 32], [bx b1 #[v3] 27]] fr w) ?_ ?_
 ·clear hm; obtain ⟨hc3, hm⟩ | ⟨hc3, hm⟩ := ite_or hx3
  ·refine wl_ev (wg F rfl rfl rfl rfl hc3) (ev_loadA tu24 rfl (cs := [v9]) ts24 rfl (box_ptr (cells := [v9]) 1 rfl 0 rfl (lb rfl))) F S rfl rfl ?_; clear F a; intro a F
   refine wl_lit (l := ([(⟨#[98]⟩ : ByteArray)] : List ByteArray)) (vs := [.string (⟨#[98]⟩ : ByteArray)]) (parts := [(0, .const (.string (⟨#[98]⟩ : ByteArray)))]) (wg F rfl rfl rfl rfl hc3) rfl rfl rfl tu28 te9 (sz_cons rfl sz_nil) rfl (Cat.cons (show Rep.rep _ (⟨#[98]⟩ : ByteArray) _ from rfl) (Cat.nil _)) (coa_cons rfl coa_nil) rfl F S rfl rfl ?_; clear F a S
   rintro v11 c11 a w h21 F S
   refine wl_ev (wg F rfl rfl rfl rfl hc3) (ev_build (parts := [(0, .const (.string (⟨#[120]⟩ : ByteArray))), (1, .tmp 42)]) (vs := [(0, .string (⟨#[120]⟩ : ByteArray)), (1, v11)]) rfl (fun w => tb70_0_1 (⟨#[120]⟩ : ByteArray) v11 (OwnS.isSl h21) w)) F S rfl rfl ?_; clear F a; intro a F
   obtain ⟨g17, l17, S, h22⟩ : ∃ gz, Le g15 gz ∧ St gz [[bx b4 #[.i6 y3.2.Code, .i6 y3.2.Index] 32], [bx b3 #[v9] 24], [bx b2 #[.i6 y1.2.Code, .i6 y1.2.Index] 32], [bx b1 #[v3] 27]] fr w ∧ RepSl gz ([(⟨#[98]⟩ : ByteArray)] : List ByteArray) v11 := ⟨_, Le.add _ _, S.freeze 0 rfl, OwnS.freeze (S.front 0 rfl) h21⟩
   refine wl_lit (l := ([({ Path := (⟨#[120]⟩ : ByteArray), Lines := ([(⟨#[98]⟩ : ByteArray)] : List ByteArray) } : File)] : List File)) (vs := [.agg #[.string (⟨#[120]⟩ : ByteArray), v11]]) (parts := [(0, .tmp 43)]) (wg F rfl rfl rfl rfl hc3) rfl rfl rfl tu22 te70 (sz_cons rfl sz_nil) rfl (Cat.cons (rep_File_mk (x := ({ Path := (⟨#[120]⟩ : ByteArray), Lines := ([(⟨#[98]⟩ : ByteArray)] : List ByteArray) } : File)) h22) (Cat.nil _)) (coa_cons rfl coa_nil) rfl F S rfl rfl ?_; clear F a S
   rintro v12 c12 a w h23 F S
   refine wl_ev (wg F rfl rfl rfl rfl hc3) (ev_build (parts := [(0, .tmp 44)]) (vs := [(0, v12)]) rfl (fun w => tb24_0 v12 (OwnS.isSl h23) w)) F S rfl rfl ?_; clear F a; intro a F
   obtain ⟨g18, l18, S, h24⟩ : ∃ gz, Le g17 gz ∧ St gz [[bx b4 #[.i6 y3.2.Code, .i6 y3.2.Index] 32], [bx b3 #[v9] 24], [bx b2 #[.i6 y1.2.Code, .i6 y1.2.Index] 32], [bx b1 #[v3] 27]] fr w ∧ RepSl gz ([({ Path := (⟨#[120]⟩ : ByteArray), Lines := ([(⟨#[98]⟩ : ByteArray)] : List ByteArray) } : File)] : List File) v12 := ⟨_, Le.add _ _, S.freeze 0 rfl, OwnS.freeze (S.front 0 rfl) h23⟩
   obtain ⟨y5, hy5, hm⟩ := bind_some hm
   refine wl_call0 (wg F rfl rfl rfl rfl hc3) rfl F rfl (changeforgeequal_Tree_ok (fr := (fl [[bx b4 #[.i6 y3.2.Code, .i6 y3.2.Index] 32], [bx b3 #[v9] 24], [bx b2 #[.i6 y1.2.Code, .i6 y1.2.Index] 32], [bx b1 #[v3] 27]] fr)) y3.1 v9 (h20.mono (l17.trans l18)) ({ Files := ([({ Path := (⟨#[120]⟩ : ByteArray), Lines := ([(⟨#[98]⟩ : ByteArray)] : List ByteArray) } : File)] : List File) } : FileTree) v12 h24 S hy5) rfl tc9 rfl rfl ?_; clear F a S
   rintro _ a w ⟨g19, l19, S, rfl⟩ F; replace S : St g19 [[bx b4 #[.i6 y3.2.Code, .i6 y3.2.Index] 32], [bx b3 #[v9] 24], [bx b2 #[.i6 y1.2.Code, .i6 y1.2.Index] 32], [bx b1 #[v3] 27]] fr w := S
   refine wE (ev_pickT rfl hc3 rfl) F S rfl fun a F=>?_
   obtain rfl := sinj hm
   refine wpList_nil (then_n ?_); exact ⟨g19, F.sub ⟨rfl, rfl, trivial⟩, ((l17.trans l18).trans l19), S⟩
  ·refine wl_skip rfl rfl rfl rfl (ne_tf hc3) F rfl rfl ?_; clear F a; intro a F
   refine wl_skip rfl rfl rfl rfl (ne_tf hc3) F rfl rfl ?_; clear F a; intro a F
   refine wl_skip rfl rfl rfl rfl (ne_tf hc3) F rfl rfl ?_; clear F a; intro a F
   refine wl_skip rfl rfl rfl rfl (ne_tf hc3) F rfl rfl ?_; clear F a; intro a F
   refine wl_skip rfl rfl rfl rfl (ne_tf hc3) F rfl rfl ?_; clear F a; intro a F
   refine wl_skip rfl rfl rfl rfl (ne_tf hc3) F rfl rfl ?_; clear F a; intro a F
   refine wE (ev_pickF rfl hc3 rfl) F S rfl fun a F=>?_
   obtain rfl := sinj hm
   refine wpList_nil (then_n ?_); exact ⟨g15, F.sub ⟨rfl, rfl, trivial⟩, (Le.refl _), S⟩
 clear F S; rintro a w ⟨g16, F, l16, S⟩
 refine wE (ev_assign rfl) F S rfl fun a F=>?_
 refine wpList_nil ?_
 refine then_n ?_
 refine wp_ret ?_
 obtain rfl := sinj hm
 refine post_r _ F rfl (ar_cons (resT rfl) ar_nil) ?_
 replace S : St g16 [] fr w := St.tail [] _ S
 exact ⟨_, rfl, g16, (((((((((((((l1.trans l2).trans l3).trans l4).trans l5).trans l6).trans l7).trans l8).trans l9).trans l10).trans l11).trans l12).trans l15).trans l16), S, rfl⟩

theorem treepatch_SecondPatch_ok {g : Gh} {fr : Hl} {w : World} {r : Fault} (p_ : TreePatch) (vp_1 : Value) (hp_1 : RepSl g p_.Changes vp_1) (index : Int) (S : St g [] fr w) (hm : treepatch_SecondPatch p_ index = some r) :
  Calls Tryz.prog 37 [.agg #[vp_1], .i6 index].toArray w (fun en w' => ∃ v, en = .returned v ∧ ∃ (g' : Gh), Le g g' ∧ St g' [] fr w' ∧ .agg #[.i6 r.Code, .i6 r.Index] = v) := by
 unfold treepatch_SecondPatch at hm
 refine calls_enter (fn := Tryz.f37) Tryz.func37 rfl Tryz.ntmps37 (lb rfl) ?_
 intro a F
 replace F : Fr 16 a [(0, .agg #[vp_1]), (1, .i6 index)] := F
 refine wp_seq ?_
 refine wp_region_lit ?_
 refine wl_boxC (wn rfl) rfl rfl rfl F S rfl rfl ?_; clear F a S; rintro b1 a w F S
 refine wl_alloc (wn rfl) rfl tz32 (cs := [.i6 0, .i6 0]) rfl F S rfl rfl ?_; clear F a S; rintro b2 a w F S
 refine wpList_nil ?_
 refine then_n ?_
 refine wp_seq ?_
 refine wp_seq ?_
 refine wp_region_lit ?_
 refine wE (ev_loadA tu37 rfl (cs := [vp_1]) ts37 rfl (box_ptr (cells := [vp_1]) 1 rfl 0 rfl (lb rfl))) F S rfl fun a F=>?_
 obtain ⟨y1, hy1, hm⟩ := bind_some hm
 refine wl_call0 (wn rfl) rfl F rfl (treepatch_ValidatePatch_ok (fr := (fl [[bx b2 #[.i6 0, .i6 0] 32], [bx b1 #[vp_1] 37]] fr)) p_ vp_1 hp_1 S hy1) rfl tc20 rfl rfl ?_; clear F a S
 rintro _ a w ⟨g1, l1, S, rfl⟩ F; replace S : St g1 [[bx b2 #[.i6 0, .i6 0] 32], [bx b1 #[vp_1] 37]] fr w := S
 refine wl_alloc (wn rfl) rfl tz32 (cs := [.i6 0, .i6 0]) rfl F S rfl rfl ?_; clear F a S; rintro b3 a w F S
 refine wl_storeC (wn rfl) rfl F S rfl rfl (vs := [.i6 y1.Code, .i6 y1.Index]) rfl ts32 (one_cons rfl (one_cons rfl one_nil)) (k := 0) rfl (lb rfl) (c' := #[.i6 y1.Code, .i6 y1.Index]) rfl rfl ?_; clear S; intro w S
 refine wpList_nil ?_
 refine then_n ?_
 refine wp_seq ?_
 refine wp_region_lit ?_
 refine wE (ev_loadA tu32 rfl (cs := [.i6 y1.Code, .i6 y1.Index]) ts32 rfl (box_ptr (cells := [.i6 y1.Code, .i6 y1.Index]) 0 rfl 0 rfl (lb rfl))) F S rfl fun a F=>?_
 refine wE (ev_build (parts := []) (vs := []) rfl (fun w => tb32_  w)) F S rfl fun a F=>?_
 refine wE (ev_neS tu32 tqa32 tqb32 tqc32 (xs := [.i6 y1.Code, .i6 y1.Index]) (ys := [.i6 0, .i6 0]) rfl rfl ⟨_, _, rfl, by decide, ⟨_, _, rfl, rfl, leaf_int tu3⟩, ⟨_, _, rfl, by decide, ⟨_, _, rfl, rfl, leaf_int tu3⟩, rfl⟩⟩) F S rfl fun a F=>?_
 refine wpList_nil ?_
 refine then_n ?_
 obtain ⟨hc1, hm⟩ | ⟨hc1, hm⟩ := ite_or hm
 ·refine wp_condT F rfl hc1 ?_
  refine wp_seq ?_
  refine wp_region_lit ?_
  refine wE (ev_fieldAddr' tu32 tf32_0 (z := 0) ts3 rfl ⟨_, rfl⟩ rfl) F S rfl fun a F=>?_
  refine wE (ev_load1 tu3 rfl rfl (box_ptr (cells := [.i6 y1.Code]) 0 rfl 0 rfl (lb rfl))) F S rfl fun a F=>?_
  refine wE (ev_move rfl) F S rfl fun a F=>?_
  refine wE (ev_build (parts := [(0, .tmp 12), (1, .tmp 13)]) (vs := [(0, .i6 y1.Code), (1, .i6 index)]) rfl (fun w => tb32_0_1 y1.Code index w)) F S rfl fun a F=>?_
  refine wl_storeC (wn rfl) rfl F S rfl rfl (vs := [.i6 y1.Code, .i6 index]) rfl ts32 (one_cons rfl (one_cons rfl one_nil)) (k := 1) rfl (lb rfl) (c' := #[.i6 y1.Code, .i6 index]) rfl rfl ?_; clear S; intro w S
  refine wpList_nil ?_
  refine then_n ?_
  refine wp_ret ?_
  refine then_r ?_
  obtain rfl := sinj hm
  refine post_r _ F rfl (ar_cons (resA rfl tu32 rfl (box_ptr (cells := [.i6 y1.Code, .i6 index]) 1 rfl 0 rfl (lb rfl) w S) ts32) ar_nil) ?_
  replace S : St g1 [] fr w := St.tail [] _ S
  exact ⟨_, rfl, g1, l1, S, rfl⟩
 ·refine wp_condF F rfl hc1 ?_
  refine wp_skip ?_
  refine then_n ?_
  refine wp_seq ?_
  refine wp_region_lit ?_
  refine wE (ev_build (parts := []) (vs := []) rfl (fun w => tb32_  w)) F S rfl fun a F=>?_
  refine wl_storeC (wn rfl) rfl F S rfl rfl (vs := [.i6 0, .i6 0]) rfl ts32 (one_cons rfl (one_cons rfl one_nil)) (k := 1) rfl (lb rfl) (c' := #[.i6 0, .i6 0]) rfl rfl ?_; clear S; intro w S
  refine wpList_nil ?_
  refine then_n ?_
  refine wp_ret ?_
  obtain rfl := sinj hm
  refine post_r _ F rfl (ar_cons (resA rfl tu32 rfl (box_ptr (cells := [.i6 0, .i6 0]) 1 rfl 0 rfl (lb rfl) w S) ts32) ar_nil) ?_
  replace S : St g1 [] fr w := St.tail [] _ S
  exact ⟨_, rfl, g1, l1, S, rfl⟩

theorem textpatch_Copy_ok {g : Gh} {fr : Hl} {w : World} {r : Patch} (p_ : Patch) (vp_1 : Value) (hp_1 : RepSl g p_.Hunks vp_1) (S : St g [] fr w) (hm : textpatch_Copy p_ = some r) :
  Calls Tryz.prog 73 [.agg #[vp_1]].toArray w (fun en w' => ∃ v, en = .returned v ∧ ∃ (g' : Gh) (v1 : Value) (c1 : Hl), Le g g' ∧ St g' [c1] fr w' ∧ OwnS g' r.Hunks v1 c1 ∧ .agg #[v1] = v) := by
 unfold textpatch_Copy at hm
 refine calls_enter (fn := Tryz.f73) Tryz.func73 rfl Tryz.ntmps73 (lb rfl) ?_
 intro a F
 replace F : Fr 29 a [(0, .agg #[vp_1])] := F
 refine wp_seq ?_
 refine wp_region_lit ?_
 refine wl_boxC (wn rfl) rfl rfl rfl F S rfl rfl ?_; clear F a S; rintro b1 a w F S
 refine wl_alloc (wn rfl) rfl tz27 (cs := [nilS]) rfl F S rfl rfl ?_; clear F a S; rintro b2 a w F S
 refine wpList_nil ?_
 refine then_n ?_
 refine wp_seq ?_
 refine wp_region_lit ?_
 refine wl_alloc (wn rfl) rfl tz27 (cs := [nilS]) rfl F S rfl rfl ?_; clear F a S; rintro b3 a w F S
 refine wpList_nil ?_
 refine then_n ?_
 refine wp_cut (fun a w => ∃ (x1 : List Hunk) (v1 : Value) (c1 : Hl) (g1 : Gh), Fr 29 a [(3, bp b3 0), (2, bp b2 0)] ∧ Le g g1 ∧ St g1 [[bx b3 #[v1] 27], [bx b2 #[nilS] 27], c1] fr w ∧ OwnS g1 x1 v1 c1 ∧ textpatch_Copy.j1 x1 = some r) ?_ ?_
 ·refine wp_seq ?_
  refine wp_region_lit ?_
  refine wE (ev_fieldAddr' tu27 tf27_0 (z := 0) ts25 rfl ⟨_, rfl⟩ rfl) F S rfl fun a F=>?_
  refine wE (ev_load1 tu25 rfl rfl (box_ptr (cells := [vp_1]) 2 rfl 0 rfl (lb rfl))) F S rfl fun a F=>?_
  refine wE (ev_lenSh hp_1 rfl tu25) F S rfl fun a F=>?_
  refine wE (ev_move rfl) F S rfl fun a F=>?_
  refine wpList_nil ?_
  refine then_n ?_
  refine wp_block ?_
  obtain ⟨r1, hr1, hm⟩ := bind_some hm
  have hmo1 := hm; clear hm
  refine wp_iter (σ := Int × (List Hunk)) (ρ := (List Hunk)) (m := fun s => textpatch_Copy.l1 p_ s.1 s.2) (I := fun s a w => match s with | (x2, x3) => ∃ (v2 : Value) (c2 : Hl) (g2 : Gh), Fr 29 a [(9, .i6 x2), (8, .i6 (p_.Hunks.length : Int)), (7, vp_1), (3, bp b3 0), (2, bp b2 0)] ∧ Le g g2 ∧ St g2 [[bx b3 #[v2] 27], [bx b2 #[nilS] 27], c2] fr w ∧ OwnS g2 x3 v2 c2) hr1 ?_ ?_
  ·dsimp only
   replace S : St g [[], [bx b3 #[nilS] 27], [bx b2 #[nilS] 27], [bx b1 #[vp_1] 27]] fr w := S
   replace S : St g [[bx b3 #[nilS] 27], [bx b2 #[nilS] 27], []] fr w := St.tail [[bx b3 #[nilS] 27], [bx b2 #[nilS] 27], []] _ (((S.frontC 0 rfl).frontC 3 rfl).frontC 3 rfl)
   exact ⟨(nilS), [], g, F.sub ⟨rfl, rfl, rfl, rfl, rfl, trivial⟩, (Le.refl _), S, (OwnS.nil _)⟩
  ·clear F S; rintro ⟨x2, x3⟩ a w x4 ⟨v2, c2, g2, F, l2, S, h2⟩ hx1 hfin1
   have hm : textpatch_Copy.l1 p_ x2 x3 = some x4 := hx1; clear hx1
   unfold textpatch_Copy.l1 at hm
   refine wp_seq ?_
   refine wp_region_lit ?_
   refine wE (ev_int rfl rfl (bo_lss _ _ _ _)) F S rfl fun a F=>?_
   refine wpList_nil ?_
   refine then_n ?_
   refine wp_seq ?_
   obtain ⟨hc1, hm⟩ | ⟨hc1, hm⟩ := ite_or hm
   ·refine wp_condT F rfl hc1 ?_
    refine wp_skip ?_
    refine then_n ?_
    refine wp_seq ?_
    refine wp_block ?_
    refine wp_seq ?_
    refine wp_region_lit ?_
    obtain ⟨y1, hy1, hm⟩ := bind_some hm
    obtain ⟨cs1, hr2, hp1⟩ := elemS (hp_1.mono l2) hy1
    obtain ⟨v3, v4, rfl, h3, h4⟩ := rep_Hunk hr2
    refine wE (ev_idxS (hp_1.mono l2) hy1 tu25 ts65 rfl rfl) F S rfl fun a F=>?_
    refine wE (ev_loadA tu65 rfl (cs := [.i6 y1.At, v3, v4]) ts65 rfl (ptr_mono (cks := [[bx b3 #[v2] 27], [bx b2 #[nilS] 27], c2]) (fr := fr) hp1 (Le.refl _))) F S rfl fun a F=>?_
    refine wl_alloc (wn rfl) rfl tz65 (cs := [.i6 0, nilS, nilS]) rfl F S rfl rfl ?_; clear F a S; rintro b4 a w F S
    refine wl_storeC (wn rfl) rfl F S rfl rfl (vs := [.i6 y1.At, v3, v4]) rfl ts65 (one_cons rfl (one_cons h3.one (one_cons h4.one one_nil))) (k := 0) rfl (lb rfl) (c' := #[.i6 y1.At, v3, v4]) rfl rfl ?_; clear S; intro w S
    refine wpList_nil ?_
    refine then_n ?_
    refine wp_dv [] mo S ?_; clear S; intro ok1 w S
    refine dv_et ok1 0 rfl (ev_fieldAddr' tu27 tf27_0 (z := 0) ts25 rfl ⟨_, rfl⟩ rfl) F rfl fun a F=>?_
    refine dv_ev ok1 1 rfl (ev_load1 tu25 rfl rfl (box_ptr (cells := [v2]) 1 rfl 0 rfl (lb rfl))) F S rfl fun a F=>?_
    refine dv_et ok1 2 rfl (ev_fieldAddr' tu65 tf65_0 (z := 0) ts3 rfl ⟨_, rfl⟩ rfl) F rfl fun a F=>?_
    refine dv_ev ok1 3 rfl (ev_load1 tu3 rfl rfl (box_ptr (cells := [.i6 y1.At]) 0 rfl 0 rfl (lb rfl))) F S rfl fun a F=>?_
    refine dv_et ok1 4 rfl (ev_fieldAddr' tu65 tf65_1 (z := 0) ts28 rfl ⟨_, rfl⟩ rfl) F rfl fun a F=>?_
    refine dv_ev ok1 5 rfl (ev_load1 tu28 rfl rfl (box_ptr (cells := [v3]) 0 rfl 1 rfl (lb rfl))) F S rfl fun a F=>?_
    refine dv_et ok1 7 rfl (ev_fieldAddr' tu65 tf65_2 (z := 0) ts28 rfl ⟨_, rfl⟩ rfl) F rfl fun a F=>?_
    refine dv_ev ok1 8 rfl (ev_load1 tu28 rfl rfl (box_ptr (cells := [v4]) 0 rfl 2 rfl (lb rfl))) F S rfl fun a F=>?_
    refine dv_op ok1 6 rfl [(8, v4), (3, .i6 y1.At), (1, v2)] ?_
    obtain ⟨y2, hy2, hm⟩ := bind_some hm
    refine wl_call0 (wn rfl) rfl F rfl (slices_Clone_ok (fr := (fl [[bx b4 #[.i6 y1.At, v3, v4] 65], [bx b3 #[v2] 27], [bx b2 #[nilS] 27], c2] fr)) y1.Old v3 h3 S hy2) rfl tc54 rfl rfl ?_; clear F a S
    rintro _ a w ⟨g3, v5, c3, l3, S, h5, rfl⟩ F; replace S : St g3 [c3, [bx b4 #[.i6 y1.At, v3, v4] 65], [bx b3 #[v2] 27], [bx b2 #[nilS] 27], c2] fr w := S
    refine dv_nx ⟨yl_ev rfl rfl (ev_load1 tu28 rfl rfl (box_ptr (cells := [v4]) 1 rfl 2 rfl (lb rfl))) F S, yl_ev rfl rfl (ev_load1 tu3 rfl rfl (box_ptr (cells := [.i6 y1.At]) 1 rfl 0 rfl (lb rfl))) F S, yl_ev rfl rfl (ev_load1 tu25 rfl rfl (box_ptr (cells := [v2]) 2 rfl 0 rfl (lb rfl))) F S, trivial⟩ ?_
    refine dv_op ok1 9 rfl [(3, .i6 y1.At), (1, v2)] ?_
    obtain ⟨y3, hy3, hm⟩ := bind_some hm
    refine wl_call0 (wn rfl) rfl F rfl (slices_Clone_ok (fr := (fl [c3, [bx b4 #[.i6 y1.At, v3, v4] 65], [bx b3 #[v2] 27], [bx b2 #[nilS] 27], c2] fr)) y1.New v4 (h4.mono l3) S hy3) rfl tc54 rfl rfl ?_; clear F a S
    rintro _ a w ⟨g4, v6, c4, l4, S, h6, rfl⟩ F; replace S : St g4 [c4, c3, [bx b4 #[.i6 y1.At, v3, v4] 65], [bx b3 #[v2] 27], [bx b2 #[nilS] 27], c2] fr w := S
    refine dv_nx ⟨yl_ev rfl rfl (ev_load1 tu3 rfl rfl (box_ptr (cells := [.i6 y1.At]) 2 rfl 0 rfl (lb rfl))) F S, yl_ev rfl rfl (ev_load1 tu25 rfl rfl (box_ptr (cells := [v2]) 3 rfl 0 rfl (lb rfl))) F S, trivial⟩ ?_
    refine dv_et ok1 10 rfl (ev_build (parts := [(0, .tmp 16), (1, .tmp 19), (2, .tmp 22)]) (vs := [(0, .i6 y1.At), (1, v5), (2, v6)]) rfl (fun w => tb65_0_1_2 y1.At v5 (OwnS.isSl h5) v6 (OwnS.isSl h6) w)) F rfl fun a F=>?_
    refine dv_op ok1 11 rfl [(1, v2)] ?_
    obtain ⟨g5, l5, S, h7⟩ : ∃ gz, Le g4 gz ∧ St gz [c4, [bx b4 #[.i6 y1.At, v3, v4] 65], [bx b3 #[v2] 27], [bx b2 #[nilS] 27], c2] fr w ∧ RepSl gz y2 v5 := ⟨_, Le.add _ _, S.freeze 1 rfl, OwnS.freeze (S.front 1 rfl) (h5.mono l4)⟩
    obtain ⟨g6, l6, S, h8⟩ : ∃ gz, Le g5 gz ∧ St gz [[bx b4 #[.i6 y1.At, v3, v4] 65], [bx b3 #[v2] 27], [bx b2 #[nilS] 27], c2] fr w ∧ RepSl gz y3 v6 := ⟨_, Le.add _ _, S.freeze 0 rfl, OwnS.freeze (S.front 0 rfl) (h6.mono l5)⟩
    refine wl_lit (l := ([({ At := y1.At, Old := y2, New := y3 } : Hunk)] : List Hunk)) (vs := [.agg #[.i6 y1.At, v5, v6]]) (parts := [(0, .tmp 23)]) (wn rfl) rfl rfl rfl tu25 te65 (sz_cons rfl sz_nil) rfl (Cat.cons (rep_Hunk_mk (x := ({ At := y1.At, Old := y2, New := y3 } : Hunk)) (h7.mono l6) h8) (Cat.nil _)) (coa_cons rfl coa_nil) rfl F S rfl rfl ?_; clear F a S
    rintro v7 c5 a w h9 F S
    refine dv_nx ⟨yl_ev rfl rfl (ev_load1 tu25 rfl rfl (box_ptr (cells := [v2]) 2 rfl 0 rfl (lb rfl))) F S, trivial⟩ ?_
    refine dv_op ok1 12 rfl [] ?_
    obtain ⟨cs2, hk1, hr3⟩ := OwnS.reads h9
    obtain ⟨y4, hy4, hm⟩ := bind_some hm
    refine wl_append (wn rfl) rfl tu25 tu25 te65 (by decide) (by decide) F S rfl rfl (k := 4) rfl (h2.mono (((l3.trans l4).trans l5).trans l6)) hk1 rfl (hr3 _ _ _ 0 rfl S) hy4 rfl rfl ?_; clear F a S
    rintro v8 c6 a w h10 S F; replace S : St g6 [c5, [bx b4 #[.i6 y1.At, v3, v4] 65], [bx b3 #[v2] 27], [bx b2 #[nilS] 27], c6] fr w := S
    refine dv_nx trivial ?_
    refine dv_et ok1 13 rfl (ev_fieldAddr' tu27 tf27_0 (z := 0) ts25 rfl ⟨_, rfl⟩ rfl) F rfl fun a F=>?_
    refine dv_op ok1 14 rfl [] ?_
    refine wl_storeC (wn rfl) rfl F S rfl rfl (vs := [v8]) (OwnS.cl h10) ts25 (one_cons (OwnS.one h10) one_nil) (k := 2) rfl (lb rfl) (c' := #[v8]) rfl rfl ?_; clear S; intro w S
    refine dv_nx trivial ?_
    refine dv_fin ok1 ?_
    refine inb_n ?_
    refine then_n ?_
    refine wp_region_lit ?_
    obtain ⟨z1, hz1, hm⟩ := bind_some hm
    refine wE (ev_int rfl rfl (bo_add hz1)) F S rfl fun a F=>?_
    refine wE (ev_move rfl) F S rfl fun a F=>?_
    refine wpList_nil ?_
    refine then_n ?_
    obtain rfl := sinj hm
    refine ⟨_, rfl, ?_⟩
    dsimp only
    replace S : St g6 [[bx b3 #[v8] 27], [bx b2 #[nilS] 27], c6] fr w := St.tail [[bx b3 #[v8] 27], [bx b2 #[nilS] 27], c6] _ (((S.frontC 4 rfl).frontC 4 rfl).frontC 4 rfl)
    exact ⟨v8, c6, g6, F.sub ⟨rfl, rfl, rfl, rfl, rfl, trivial⟩, ((((l2.trans l3).trans l4).trans l5).trans l6), S, h10⟩
   ·refine wp_condF F rfl hc1 ?_
    refine wp_exit ?_
    refine then_e ?_
    refine then_e ?_
    refine inb_x ?_
    refine then_n ?_
    obtain rfl := sinj hm
    obtain rfl := hfin1 _ rfl
    clear hm
    have hm : (textpatch_Copy.j1 x3 : Option Patch) = some _ := hmo1
    exact ⟨x3, v2, c2, g2, F.sub ⟨rfl, rfl, trivial⟩, l2, S, h2, hm⟩
 ·clear F S hm; rintro a w ⟨x1, v1, c1, g1, F, l1, S, h1, hm⟩
  refine wp_seq ?_
  refine wp_region_lit ?_
  refine wE (ev_loadA tu27 rfl (cs := [v1]) ts27 rfl (box_ptr (cells := [v1]) 0 rfl 0 rfl (lb rfl))) F S rfl fun a F=>?_
  refine wl_storeC (wn rfl) rfl F S rfl rfl (vs := [v1]) rfl ts27 (one_cons (OwnS.one h1) one_nil) (k := 1) rfl (lb rfl) (c' := #[v1]) rfl rfl ?_; clear S; intro w S
  refine wpList_nil ?_
  refine then_n ?_
  refine wp_ret ?_
  obtain rfl := sinj hm
  refine post_r _ F rfl (ar_cons (resA rfl tu27 rfl (box_ptr (cells := [v1]) 1 rfl 0 rfl (lb rfl) w S) ts27) ar_nil) ?_
  replace S : St g1 [c1] fr w := St.tail [c1] _ (S.frontC 2 rfl)
  exact ⟨_, rfl, g1, v1, c1, l1, S, h1, rfl⟩

theorem treepatch_CopyChange_ok {g : Gh} {fr : Hl} {w : World} {r : TreeChange} (c_ : TreeChange) (vc_1 : Value) (hc_1 : RepSl g c_.Lines vc_1) (vc_2 : Value) (hc_2 : RepSl g c_.Patch.Hunks vc_2) (S : St g [] fr w) (hm : treepatch_CopyChange c_ = some r) :
  Calls Tryz.prog 38 [.agg #[.i6 c_.Kind, .string c_.Path, .string c_.To, vc_1, vc_2]].toArray w (fun en w' => ∃ v, en = .returned v ∧ ∃ (g' : Gh) (v1 v2 : Value) (c1 c2 : Hl), Le g g' ∧ St g' [c1, c2] fr w' ∧ OwnS g' r.Lines v1 c1 ∧ OwnS g' r.Patch.Hunks v2 c2 ∧ .agg #[.i6 r.Kind, .string r.Path, .string r.To, v1, v2] = v) := by
 unfold treepatch_CopyChange at hm
 refine calls_enter (fn := Tryz.f38) Tryz.func38 rfl Tryz.ntmps38 (lb rfl) ?_
 intro a F
 replace F : Fr 12 a [(0, .agg #[.i6 c_.Kind, .string c_.Path, .string c_.To, vc_1, vc_2])] := F
 refine wp_seq ?_
 refine wp_region_lit ?_
 refine wl_boxC (wn rfl) rfl rfl rfl F S rfl rfl ?_; clear F a S; rintro b1 a w F S
 refine wl_alloc (wn rfl) rfl tz30 (cs := [.i6 0, .string ByteArray.empty, .string ByteArray.empty, nilS, nilS]) rfl F S rfl rfl ?_; clear F a S; rintro b2 a w F S
 refine wpList_nil ?_
 refine then_n ?_
 refine wp_seq ?_
 refine wp_dv [] mo S ?_; clear S; intro ok1 w S
 refine dv_et ok1 0 rfl (ev_fieldAddr' tu30 tf30_3 (z := 0) ts28 rfl ⟨_, rfl⟩ rfl) F rfl fun a F=>?_
 refine dv_ev ok1 1 rfl (ev_load1 tu28 rfl rfl (box_ptr (cells := [vc_1]) 1 rfl 3 rfl (lb rfl))) F S rfl fun a F=>?_
 refine dv_et ok1 3 rfl (ev_fieldAddr' tu30 tf30_4 (z := 0) ts27 rfl ⟨_, rfl⟩ rfl) F rfl fun a F=>?_
 refine dv_ev ok1 4 rfl (ev_loadA tu27 rfl (cs := [vc_2]) ts27 rfl (box_ptr (cells := [vc_2]) 1 rfl 4 rfl (lb rfl))) F S rfl fun a F=>?_
 refine dv_op ok1 2 rfl [(4, .agg #[vc_2])] ?_
 obtain ⟨y1, hy1, hm⟩ := bind_some hm
 refine wl_call0 (wn rfl) rfl F rfl (slices_Clone_ok (fr := (fl [[bx b2 #[.i6 0, .string ByteArray.empty, .string ByteArray.empty, nilS, nilS] 30], [bx b1 #[.i6 c_.Kind, .string c_.Path, .string c_.To, vc_1, vc_2] 30]] fr)) c_.Lines vc_1 hc_1 S hy1) rfl tc54 rfl rfl ?_; clear F a S
 rintro _ a w ⟨g1, v1, c1, l1, S, h1, rfl⟩ F; replace S : St g1 [c1, [bx b2 #[.i6 0, .string ByteArray.empty, .string ByteArray.empty, nilS, nilS] 30], [bx b1 #[.i6 c_.Kind, .string c_.Path, .string c_.To, vc_1, vc_2] 30]] fr w := S
 refine dv_nx ⟨yl_ev rfl rfl (ev_loadA tu27 rfl (cs := [vc_2]) ts27 rfl (box_ptr (cells := [vc_2]) 2 rfl 4 rfl (lb rfl))) F S, trivial⟩ ?_
 refine dv_et ok1 6 rfl (ev_fieldAddr' tu30 tf30_3 (z := 0) ts28 rfl ⟨_, rfl⟩ rfl) F rfl fun a F=>?_
 refine dv_op ok1 5 rfl [] ?_
 obtain ⟨y2, hy2, hm⟩ := bind_some hm
 refine wl_call0 (wn rfl) rfl F rfl (textpatch_Copy_ok (fr := (fl [c1, [bx b2 #[.i6 0, .string ByteArray.empty, .string ByteArray.empty, nilS, nilS] 30], [bx b1 #[.i6 c_.Kind, .string c_.Path, .string c_.To, vc_1, vc_2] 30]] fr)) c_.Patch vc_2 (hc_2.mono l1) S hy2) rfl tc73 rfl rfl ?_; clear F a S
 rintro _ a w ⟨g2, v2, c2, l2, S, h2, rfl⟩ F; replace S : St g2 [c2, c1, [bx b2 #[.i6 0, .string ByteArray.empty, .string ByteArray.empty, nilS, nilS] 30], [bx b1 #[.i6 c_.Kind, .string c_.Path, .string c_.To, vc_1, vc_2] 30]] fr w := S
 refine dv_nx trivial ?_
 refine dv_op ok1 7 rfl [] ?_
 refine wl_storeC (wn rfl) rfl F S rfl rfl (vs := [v1]) (OwnS.cl h1) ts28 (one_cons (OwnS.one h1) one_nil) (k := 3) rfl (lb rfl) (c' := #[.i6 c_.Kind, .string c_.Path, .string c_.To, v1, vc_2]) rfl rfl ?_; clear S; intro w S
 refine dv_nx trivial ?_
 refine dv_et ok1 8 rfl (ev_fieldAddr' tu30 tf30_4 (z := 0) ts27 rfl ⟨_, rfl⟩ rfl) F rfl fun a F=>?_
 refine dv_op ok1 9 rfl [] ?_
 refine wl_storeC (wn rfl) rfl F S rfl rfl (vs := [v2]) rfl ts27 (one_cons (OwnS.one h2) one_nil) (k := 3) rfl (lb rfl) (c' := #[.i6 c_.Kind, .string c_.Path, .string c_.To, v1, v2]) rfl rfl ?_; clear S; intro w S
 refine dv_nx trivial ?_
 refine dv_fin ok1 ?_
 refine then_n ?_
 refine wp_seq ?_
 refine wp_region_lit ?_
 refine wE (ev_loadA tu30 rfl (cs := [.i6 c_.Kind, .string c_.Path, .string c_.To, v1, v2]) ts30 rfl (box_ptr (cells := [.i6 c_.Kind, .string c_.Path, .string c_.To, v1, v2]) 3 rfl 0 rfl (lb rfl))) F S rfl fun a F=>?_
 refine wl_storeC (wn rfl) rfl F S rfl rfl (vs := [.i6 c_.Kind, .string c_.Path, .string c_.To, v1, v2]) rfl ts30 (one_cons rfl (one_cons rfl (one_cons rfl (one_cons (OwnS.one h1) (one_cons (OwnS.one h2) one_nil))))) (k := 2) rfl (lb rfl) (c' := #[.i6 c_.Kind, .string c_.Path, .string c_.To, v1, v2]) rfl rfl ?_; clear S; intro w S
 refine wpList_nil ?_
 refine then_n ?_
 refine wp_ret ?_
 obtain rfl := sinj hm
 refine post_r _ F rfl (ar_cons (resA rfl tu30 rfl (box_ptr (cells := [.i6 c_.Kind, .string c_.Path, .string c_.To, v1, v2]) 2 rfl 0 rfl (lb rfl) w S) ts30) ar_nil) ?_
 replace S : St g2 [c1, c2] fr w := St.tail [c1, c2] _ ((S.frontC 0 rfl).frontC 2 rfl)
 exact ⟨_, rfl, g2, v1, v2, c1, c2, (l1.trans l2), S, (h1.mono l2), h2, rfl⟩

theorem treecommute_paths_ok {g : Gh} {fr : Hl} {w : World} {r : (List ByteArray)} (c_ : TreeChange) (vc_1 : Value) (hc_1 : RepSl g c_.Lines vc_1) (vc_2 : Value) (hc_2 : RepSl g c_.Patch.Hunks vc_2) (S : St g [] fr w) (hm : treecommute_paths c_ = some r) :
  Calls Tryz.prog 75 [.agg #[.i6 c_.Kind, .string c_.Path, .string c_.To, vc_1, vc_2]].toArray w (fun en w' => ∃ v, en = .returned v ∧ ∃ (g' : Gh) (v1 : Value) (c1 : Hl), Le g g' ∧ St g' [c1] fr w' ∧ OwnS g' r v1 c1 ∧ v1 = v) := by
 unfold treecommute_paths at hm
 refine calls_enter (fn := Tryz.f75) Tryz.func75 rfl Tryz.ntmps75 (lb rfl) ?_
 intro a F
 replace F : Fr 14 a [(0, .agg #[.i6 c_.Kind, .string c_.Path, .string c_.To, vc_1, vc_2])] := F
 refine wp_seq ?_
 refine wp_region_lit ?_
 refine wl_boxC (wn rfl) rfl rfl rfl F S rfl rfl ?_; clear F a S; rintro b1 a w F S
 refine wE (ev_assign rfl) F S rfl fun a F=>?_
 refine wpList_nil ?_
 refine then_n ?_
 refine wp_seq ?_
 refine wp_seq ?_
 refine wp_region_lit ?_
 refine wE (ev_fieldAddr' tu30 tf30_0 (z := 0) ts3 rfl ⟨_, rfl⟩ rfl) F S rfl fun a F=>?_
 refine wE (ev_load1 tu3 rfl rfl (box_ptr (cells := [.i6 c_.Kind]) 0 rfl 0 rfl (lb rfl))) F S rfl fun a F=>?_
 refine wE (ev_int rfl rfl (bo_eql _ _ _ _)) F S rfl fun a F=>?_
 refine wpList_nil ?_
 refine then_n ?_
 obtain ⟨hc1, hm⟩ | ⟨hc1, hm⟩ := ite_or hm
 ·refine wp_condT F rfl hc1 ?_
  refine wp_seq ?_
  refine wp_region_lit ?_
  refine wE (ev_fieldAddr' tu30 tf30_1 (z := 0) ts9 rfl ⟨_, rfl⟩ rfl) F S rfl fun a F=>?_
  refine wE (ev_load1 tu9 rfl rfl (box_ptr (cells := [.string c_.Path]) 0 rfl 1 rfl (lb rfl))) F S rfl fun a F=>?_
  refine wE (ev_fieldAddr' tu30 tf30_2 (z := 0) ts9 rfl ⟨_, rfl⟩ rfl) F S rfl fun a F=>?_
  refine wE (ev_load1 tu9 rfl rfl (box_ptr (cells := [.string c_.To]) 0 rfl 2 rfl (lb rfl))) F S rfl fun a F=>?_
  refine wl_lit (l := ([c_.Path, c_.To] : List ByteArray)) (vs := [.string c_.Path, .string c_.To]) (parts := [(0, .tmp 7), (1, .tmp 9)]) (wn rfl) rfl rfl rfl tu28 te9 (sz_cons rfl (sz_cons rfl sz_nil)) rfl (Cat.cons (show Rep.rep _ c_.Path _ from rfl) (Cat.cons (show Rep.rep _ c_.To _ from rfl) (Cat.nil _))) (coa_cons rfl (coa_cons rfl coa_nil)) rfl F S rfl rfl ?_; clear F a S
  rintro v1 c1 a w h1 F S
  refine wE (ev_assign rfl) F S rfl fun a F=>?_
  refine wpList_nil ?_
  refine then_n ?_
  refine wp_ret ?_
  refine then_r ?_
  obtain rfl := sinj hm
  refine post_r _ F rfl (ar_cons (resT rfl) ar_nil) ?_
  replace S : St g [c1] fr w := St.tail [c1] _ (S.frontC 0 rfl)
  exact ⟨_, rfl, g, v1, c1, (Le.refl _), S, h1, rfl⟩
 ·refine wp_condF F rfl hc1 ?_
  refine wp_skip ?_
  refine then_n ?_
  refine wp_seq ?_
  refine wp_region_lit ?_
  refine wE (ev_fieldAddr' tu30 tf30_1 (z := 0) ts9 rfl ⟨_, rfl⟩ rfl) F S rfl fun a F=>?_
  refine wE (ev_load1 tu9 rfl rfl (box_ptr (cells := [.string c_.Path]) 0 rfl 1 rfl (lb rfl))) F S rfl fun a F=>?_
  refine wl_lit (l := ([c_.Path] : List ByteArray)) (vs := [.string c_.Path]) (parts := [(0, .tmp 12)]) (wn rfl) rfl rfl rfl tu28 te9 (sz_cons rfl sz_nil) rfl (Cat.cons (show Rep.rep _ c_.Path _ from rfl) (Cat.nil _)) (coa_cons rfl coa_nil) rfl F S rfl rfl ?_; clear F a S
  rintro v2 c2 a w h2 F S
  refine wE (ev_assign rfl) F S rfl fun a F=>?_
  refine wpList_nil ?_
  refine then_n ?_
  refine wp_ret ?_
  obtain rfl := sinj hm
  refine post_r _ F rfl (ar_cons (resT rfl) ar_nil) ?_
  replace S : St g [c2] fr w := St.tail [c2] _ (S.frontC 0 rfl)
  exact ⟨_, rfl, g, v2, c2, (Le.refl _), S, h2, rfl⟩

theorem treecommute_touches_ok {g : Gh} {fr : Hl} {w : World} {r : Bool} (path : ByteArray) (changes : (List TreeChange)) (vchanges1 : Value) (hchanges1 : RepSl g changes vchanges1) (S : St g [] fr w) (hm : treecommute_touches path changes = some r) :
  Calls Tryz.prog 77 [.string path, vchanges1].toArray w (fun en w' => ∃ v, en = .returned v ∧ ∃ (g' : Gh), Le g g' ∧ St g' [] fr w' ∧ .bool r = v) := by
 unfold treecommute_touches at hm
 refine calls_enter (fn := Tryz.f77) Tryz.func77 rfl Tryz.ntmps77 (lb rfl) ?_
 intro a F
 replace F : Fr 18 a [(0, .string path), (1, vchanges1)] := F
 refine wp_seq ?_
 refine wp_region_lit ?_
 refine wl_boxC (wn rfl) rfl rfl rfl F S rfl rfl ?_; clear F a S; rintro b1 a w F S
 refine wE (ev_assign rfl) F S rfl fun a F=>?_
 refine wpList_nil ?_
 refine then_n ?_
 refine wp_cut (fun a w => ∃ (g1 : Gh), Fr 18 a [] ∧ Le g g1 ∧ St g1 [] fr w ∧ treecommute_touches.j1 = some r) ?_ ?_
 ·refine wp_seq ?_
  refine wp_region_lit ?_
  refine wE (ev_move rfl) F S rfl fun a F=>?_
  refine wE (ev_lenSh hchanges1 rfl tu35) F S rfl fun a F=>?_
  refine wE (ev_move rfl) F S rfl fun a F=>?_
  refine wpList_nil ?_
  refine then_n ?_
  refine wp_block ?_
  obtain ⟨r1, hr1, hm⟩ := bind_some hm
  have hmo1 := hm; clear hm
  refine wp_iter (σ := Int) (ρ := Bool ⊕ Unit) (m := fun s => treecommute_touches.l1 path changes s) (I := fun x1 a w => ∃ (g2 : Gh), Fr 18 a [(9, .i6 x1), (8, .i6 (changes.length : Int)), (7, vchanges1), (2, bp b1 0)] ∧ Le g g2 ∧ St g2 [[bx b1 #[.string path] 9]] fr w) hr1 ?_ ?_
  ·exact ⟨g, F.sub ⟨rfl, rfl, rfl, rfl, trivial⟩, (Le.refl _), S⟩
  ·clear F S; rintro x1 a w x2 ⟨g2, F, l2, S⟩ hx1 hfin1
   have hm : treecommute_touches.l1 path changes x1 = some x2 := hx1; clear hx1
   unfold treecommute_touches.l1 at hm
   refine wp_seq ?_
   refine wp_region_lit ?_
   refine wE (ev_int rfl rfl (bo_lss _ _ _ _)) F S rfl fun a F=>?_
   refine wpList_nil ?_
   refine then_n ?_
   refine wp_seq ?_
   obtain ⟨hc1, hm⟩ | ⟨hc1, hm⟩ := ite_or hm
   ·refine wp_condT F rfl hc1 ?_
    refine wp_skip ?_
    refine then_n ?_
    refine wp_seq ?_
    refine wp_block ?_
    refine wp_seq ?_
    refine wp_region_lit ?_
    obtain ⟨y1, hy1, hm⟩ := bind_some hm
    obtain ⟨cs1, hr2, hp1⟩ := elemS (hchanges1.mono l2) hy1
    obtain ⟨v1, v2, rfl, h1, h2⟩ := rep_TreeChange hr2
    refine wE (ev_idxS (hchanges1.mono l2) hy1 tu35 ts30 rfl rfl) F S rfl fun a F=>?_
    refine wE (ev_loadA tu30 rfl (cs := [.i6 y1.Kind, .string y1.Path, .string y1.To, v1, v2]) ts30 rfl (ptr_mono (cks := [[bx b1 #[.string path] 9]]) (fr := fr) hp1 (Le.refl _))) F S rfl fun a F=>?_
    refine wl_alloc (wn rfl) rfl tz30 (cs := [.i6 0, .string ByteArray.empty, .string ByteArray.empty, nilS, nilS]) rfl F S rfl rfl ?_; clear F a S; rintro b2 a w F S
    refine wl_storeC (wn rfl) rfl F S rfl rfl (vs := [.i6 y1.Kind, .string y1.Path, .string y1.To, v1, v2]) rfl ts30 (one_cons rfl (one_cons rfl (one_cons rfl (one_cons h1.one (one_cons h2.one one_nil))))) (k := 0) rfl (lb rfl) (c' := #[.i6 y1.Kind, .string y1.Path, .string y1.To, v1, v2]) rfl rfl ?_; clear S; intro w S
    refine wpList_nil ?_
    refine then_n ?_
    refine wp_seq ?_
    refine wp_region_lit ?_
    refine wE (ev_loadA tu30 rfl (cs := [.i6 y1.Kind, .string y1.Path, .string y1.To, v1, v2]) ts30 rfl (box_ptr (cells := [.i6 y1.Kind, .string y1.Path, .string y1.To, v1, v2]) 0 rfl 0 rfl (lb rfl))) F S rfl fun a F=>?_
    obtain ⟨y2, hy2, hm⟩ := bind_some hm
    refine wl_call0 (wn rfl) rfl F rfl (treecommute_paths_ok (fr := (fl [[bx b2 #[.i6 y1.Kind, .string y1.Path, .string y1.To, v1, v2] 30], [bx b1 #[.string path] 9]] fr)) y1 v1 h1 v2 h2 S hy2) rfl tc75 rfl rfl ?_; clear F a S
    rintro _ a w ⟨g3, v3, c1, l3, S, h3, rfl⟩ F; replace S : St g3 [c1, [bx b2 #[.i6 y1.Kind, .string y1.Path, .string y1.To, v1, v2] 30], [bx b1 #[.string path] 9]] fr w := S
    refine wE (ev_makeFunc (xs := [.tmp 2]) (vs := [bp b1 0]) rfl) F S rfl fun a F=>?_
    replace F := F.sub (e' := [(15, .func (.func 122) #[] #[bp b1 0]), (14, v3), (9, .i6 x1), (8, .i6 (changes.length : Int)), (7, vchanges1), (2, bp b1 0)]) ⟨rfl, rfl, rfl, rfl, rfl, rfl, trivial⟩
    refine wl_callK (wn rfl) rfl (xs := [.tmp 14, .tmp 15]) (vs := [v3, .func (.func 122) #[] #[bp b1 0]]) (cap := []) (e' := [(9, .i6 x1), (8, .i6 (changes.length : Int)), (7, vchanges1), (2, bp b1 0)]) ⟨rfl, rfl, rfl, rfl, trivial⟩ F rfl rfl tc74 rfl rfl (calls_enter (fn := Tryz.f74) Tryz.func74 rfl Tryz.ntmps74 (lb rfl) ?_); clear F a; intro a F
    replace F : Fr 9 a [(0, v3), (1, .func (.func 122) #[] #[bp b1 0])] := F
    refine wp_seq ?_
    refine wp_region_lit ?_
    refine wE (ev_assign rfl) F S rfl fun a F=>?_
    refine wpList_nil ?_
    refine then_n ?_
    refine wp_seq ?_
    refine wp_region_lit ?_
    refine wE (ev_move rfl) F S rfl fun a F=>?_
    refine wE (ev_move rfl) F S rfl fun a F=>?_
    refine wl_call (wn rfl) rfl (xs := [.tmp 5, .tmp 6]) (vs := [v3, .func (.func 122) #[] #[bp b1 0]]) (cap := []) (R := fun u1 w => ∃ (x3 : Int) (g4 : Gh), u1 = .i6 x3 ∧ Le g3 g4 ∧ St g4 [[bx b1 #[.string path] 9]] fr w ∧ treecommute_touches.j2 x1 x3 = some x2) F rfl rfl tc121 (calls_enter (fn := Tryz.f121) Tryz.func121 rfl Tryz.ntmps121 (lb rfl) ?_) rfl rfl ?_
    ·clear F a; intro a F
     replace F : Fr 19 a [(0, v3), (1, .func (.func 122) #[] #[bp b1 0])] := F
     refine wp_seq ?_
     refine wp_region_lit ?_
     refine wE (ev_assign rfl) F S rfl fun a F=>?_
     refine wpList_nil ?_
     refine then_n ?_
     refine wp_cut (fun a w => ∃ (g5 : Gh), Fr 19 a [] ∧ Le g3 g5 ∧ St g5 [[bx b1 #[.string path] 9]] fr w ∧ treecommute_touches.j3 x1 = some x2) ?_ ?_
     ·refine wp_seq ?_
      refine wp_region_lit ?_
      refine wE (ev_move rfl) F S rfl fun a F=>?_
      refine wE (ev_lenOw h3 rfl tu28) F S rfl fun a F=>?_
      refine wE (ev_move rfl) F S rfl fun a F=>?_
      refine wpList_nil ?_
      refine then_n ?_
      refine wp_block ?_
      obtain ⟨r2, hr3, hm⟩ := bind_some hm
      have hmo2 := hm; clear hm
      refine wp_iter (σ := Int) (ρ := Int ⊕ Unit) (m := fun s => treecommute_touches.l2 path y2 s) (I := fun x4 a w => ∃ (g6 : Gh), Fr 19 a [(8, .i6 x4), (7, .i6 (y2.length : Int)), (0, v3), (1, .func (.func 122) #[] #[bp b1 0])] ∧ Le g3 g6 ∧ St g6 [c1, [bx b1 #[.string path] 9]] fr w) hr3 ?_ ?_
      ·replace S : St g3 [c1, [bx b1 #[.string path] 9]] fr w := St.tail [c1, [bx b1 #[.string path] 9]] _ ((S.frontC 2 rfl).frontC 1 rfl)
       exact ⟨g3, F.sub ⟨rfl, rfl, rfl, rfl, trivial⟩, (Le.refl _), S⟩
      ·clear F S; rintro x4 a w x5 ⟨g6, F, l6, S⟩ hx2 hfin2
       have hm : treecommute_touches.l2 path y2 x4 = some x5 := hx2; clear hx2
       unfold treecommute_touches.l2 at hm
       refine wp_seq ?_
       refine wp_region_lit ?_
       refine wE (ev_int rfl rfl (bo_lss _ _ _ _)) F S rfl fun a F=>?_
       refine wpList_nil ?_
       refine then_n ?_
       refine wp_seq ?_
       obtain ⟨hc3, hm⟩ | ⟨hc3, hm⟩ := ite_or hm
       ·refine wp_condT F rfl hc3 ?_
        refine wp_skip ?_
        refine then_n ?_
        refine wp_seq ?_
        refine wp_block ?_
        refine wp_seq ?_
        refine wp_region_lit ?_
        refine wE (ev_move rfl) F S rfl fun a F=>?_
        refine wE (ev_assign rfl) F S rfl fun a F=>?_
        refine wpList_nil ?_
        refine then_n ?_
        refine wp_seq ?_
        refine wp_region_lit ?_
        refine wE (ev_move rfl) F S rfl fun a F=>?_
        refine wE (ev_move rfl) F S rfl fun a F=>?_
        refine wE (ev_move rfl) F S rfl fun a F=>?_
        obtain ⟨y3, hy3, hm⟩ := bind_some hm
        refine wE (ev_idxO (h3.mono l6) hy3 tu28 ts9 rfl rfl) F S rfl fun a F=>?_
        obtain ⟨cs2, hr4, hq1⟩ := elemO (h3.mono l6) hy3
        obtain rfl := rep_str hr4
        refine wE (ev_load1 tu9 rfl rfl (hq1 _ _ 0 rfl)) F S rfl fun a F=>?_
        replace F := F.sub (e' := [(15, .string y3), (11, .func (.func 122) #[] #[bp b1 0]), (5, .i6 x4), (8, .i6 x4), (7, .i6 (y2.length : Int)), (0, v3), (1, .func (.func 122) #[] #[bp b1 0])]) ⟨rfl, rfl, rfl, rfl, rfl, rfl, rfl, trivial⟩
        refine wl_callK (wn rfl) rfl (xs := [.tmp 15]) (vs := [.string y3]) (cap := [bp b1 0]) (e' := [(5, .i6 x4), (8, .i6 x4), (7, .i6 (y2.length : Int)), (0, v3), (1, .func (.func 122) #[] #[bp b1 0])]) ⟨rfl, rfl, rfl, rfl, rfl, trivial⟩ F rfl rfl tc122 rfl rfl (calls_enter (fn := Tryz.f122) Tryz.func122 rfl Tryz.ntmps122 (lb rfl) ?_); clear F a; intro a F
        replace F : Fr 7 a [(0, .string y3), (1, bp b1 0)] := F
        refine wp_seq ?_
        refine wp_region_lit ?_
        refine wE (ev_assign rfl) F S rfl fun a F=>?_
        refine wpList_nil ?_
        refine then_n ?_
        refine wp_seq ?_
        refine wp_region_lit ?_
        refine wE (ev_move rfl) F S rfl fun a F=>?_
        refine wE (ev_load1 tu9 rfl rfl (box_ptr (cells := [.string path]) 1 rfl 0 rfl (lb rfl))) F S rfl fun a F=>?_
        obtain ⟨y4, hy4, hm⟩ := bind_some hm
        refine wl_call0 (wn rfl) rfl F rfl (treepatch_Related_ok (fr := (fl [c1, [bx b1 #[.string path] 9]] fr)) y3 path S hy4) rfl tc93 rfl rfl ?_; clear F a S
        rintro _ a w ⟨g7, l7, S, rfl⟩ F; replace S : St g7 [c1, [bx b1 #[.string path] 9]] fr w := S
        refine wE (ev_assign rfl) F S rfl fun a F=>?_
        refine wpList_nil ?_
        refine then_n ?_
        refine wp_ret ?_
        refine post_r _ F rfl (ar_cons (resT rfl) ar_nil) ?_
        refine ⟨_, rfl, ?_⟩; clear F a; intro a F
        replace F : Fr 19 a [(16, .bool y4), (5, .i6 x4), (8, .i6 x4), (7, .i6 (y2.length : Int)), (0, v3), (1, .func (.func 122) #[] #[bp b1 0])] := F
        refine wpList_nil ?_
        refine then_n ?_
        obtain ⟨hc4, hm⟩ | ⟨hc4, hm⟩ := ite_or hm
        ·refine wp_condT F rfl hc4 ?_
         refine wp_seq ?_
         refine wp_region_lit ?_
         refine wE (ev_move rfl) F S rfl fun a F=>?_
         refine wE (ev_assign rfl) F S rfl fun a F=>?_
         refine wpList_nil ?_
         refine then_n ?_
         refine wp_ret ?_
         refine inb_r ?_
         refine then_r ?_
         refine then_r ?_
         refine inb_r ?_
         refine then_r ?_
         obtain rfl := sinj hm
         obtain rfl := hfin2 _ rfl
         clear hm
         have hm : (treecommute_touches.j2 x1 x4 : Option (Step Int (Bool ⊕ Unit))) = some _ := hmo2
         refine post_r _ F rfl (ar_cons (resT rfl) ar_nil) ?_
         replace S : St g7 [[bx b1 #[.string path] 9]] fr w := St.tail [[bx b1 #[.string path] 9]] _ (S.frontC 1 rfl)
         exact ⟨_, rfl, ⟨x4, g7, rfl, (l6.trans l7), S, hm⟩⟩
        ·refine wp_condF F rfl hc4 ?_
         refine wp_skip ?_
         refine inb_n ?_
         refine then_n ?_
         refine wp_region_lit ?_
         obtain ⟨z2, hz2, hm⟩ := bind_some hm
         refine wE (ev_int rfl rfl (bo_add hz2)) F S rfl fun a F=>?_
         refine wE (ev_move rfl) F S rfl fun a F=>?_
         refine wpList_nil ?_
         refine then_n ?_
         obtain rfl := sinj hm
         refine ⟨_, rfl, ?_⟩
         exact ⟨g7, F.sub ⟨rfl, rfl, rfl, rfl, trivial⟩, (l6.trans l7), S⟩
       ·refine wp_condF F rfl hc3 ?_
        refine wp_exit ?_
        refine then_e ?_
        refine then_e ?_
        refine inb_x ?_
        refine then_n ?_
        obtain rfl := sinj hm
        obtain rfl := hfin2 _ rfl
        clear hm
        have hm : (treecommute_touches.j3 x1 : Option (Step Int (Bool ⊕ Unit))) = some _ := hmo2
        replace S : St g6 [[bx b1 #[.string path] 9]] fr w := St.tail [[bx b1 #[.string path] 9]] _ (S.frontC 1 rfl)
        exact ⟨g6, F.sub trivial, l6, S, hm⟩
     ·clear F S hm; rintro a w ⟨g5, F, l5, S, hm⟩
      refine wp_seq ?_
      refine wp_region_lit ?_
      refine wE (ev_assign rfl) F S rfl fun a F=>?_
      refine wpList_nil ?_
      refine then_n ?_
      refine wp_ret ?_
      refine post_r _ F rfl (ar_cons (resT rfl) ar_nil) ?_
      exact ⟨_, rfl, ⟨(-1), g5, rfl, l5, S, hm⟩⟩
    ·clear F S hm; rintro _ a w ⟨x3, g4, rfl, l4, S, hm⟩ F
     replace F := F.sub (e' := [(7, .i6 x3)]) ⟨rfl, trivial⟩
     refine wE (ev_int rfl rfl (bo_geq _ _ _ _)) F S rfl fun a F=>?_
     refine wE (ev_assign rfl) F S rfl fun a F=>?_
     refine wpList_nil ?_
     refine then_n ?_
     refine wp_ret ?_
     refine post_r _ F rfl (ar_cons (resT rfl) ar_nil) ?_
     refine ⟨_, rfl, ?_⟩; clear F a; intro a F
     replace F : Fr 18 a [(16, .bool (decide (x3 ≥ 0))), (9, .i6 x1), (8, .i6 (changes.length : Int)), (7, vchanges1), (2, bp b1 0)] := F
     refine wpList_nil ?_
     refine then_n ?_
     obtain ⟨hc2, hm⟩ | ⟨hc2, hm⟩ := ite_or hm
     ·refine wp_condT F rfl hc2 ?_
      refine wp_seq ?_
      refine wp_region_lit ?_
      refine wE (ev_assign rfl) F S rfl fun a F=>?_
      refine wpList_nil ?_
      refine then_n ?_
      refine wp_ret ?_
      refine inb_r ?_
      refine then_r ?_
      refine then_r ?_
      refine inb_r ?_
      refine then_r ?_
      obtain rfl := sinj hm
      obtain rfl := hfin1 _ rfl
      clear hm
      have hm : (some true : Option Bool) = some _ := hmo1
      obtain rfl := sinj hm
      refine post_r _ F rfl (ar_cons (resT rfl) ar_nil) ?_
      replace S : St g4 [] fr w := St.tail [] _ S
      exact ⟨_, rfl, g4, ((l2.trans l3).trans l4), S, rfl⟩
     ·refine wp_condF F rfl hc2 ?_
      refine wp_skip ?_
      refine inb_n ?_
      refine then_n ?_
      refine wp_region_lit ?_
      obtain ⟨z1, hz1, hm⟩ := bind_some hm
      refine wE (ev_int rfl rfl (bo_add hz1)) F S rfl fun a F=>?_
      refine wE (ev_move rfl) F S rfl fun a F=>?_
      refine wpList_nil ?_
      refine then_n ?_
      obtain rfl := sinj hm
      refine ⟨_, rfl, ?_⟩
      exact ⟨g4, F.sub ⟨rfl, rfl, rfl, rfl, trivial⟩, ((l2.trans l3).trans l4), S⟩
   ·refine wp_condF F rfl hc1 ?_
    refine wp_exit ?_
    refine then_e ?_
    refine then_e ?_
    refine inb_x ?_
    refine then_n ?_
    obtain rfl := sinj hm
    obtain rfl := hfin1 _ rfl
    clear hm
    have hm : (treecommute_touches.j1 : Option Bool) = some _ := hmo1
    replace S : St g2 [] fr w := St.tail [] _ S
    exact ⟨g2, F.sub trivial, l2, S, hm⟩
 ·clear F S hm; rintro a w ⟨g1, F, l1, S, hm⟩
  refine wp_seq ?_
  refine wp_region_lit ?_
  refine wE (ev_assign rfl) F S rfl fun a F=>?_
  refine wpList_nil ?_
  refine then_n ?_
  refine wp_ret ?_
  obtain rfl := sinj hm
  refine post_r _ F rfl (ar_cons (resT rfl) ar_nil) ?_
  exact ⟨_, rfl, g1, l1, S, rfl⟩

theorem treecommute_independent_ok {g : Gh} {fr : Hl} {w : World} {r : Bool} (a_ : TreeChange) (va_1 : Value) (ha_1 : RepSl g a_.Lines va_1) (va_2 : Value) (ha_2 : RepSl g a_.Patch.Hunks va_2) (b_ : TreeChange) (vb_1 : Value) (hb_1 : RepSl g b_.Lines vb_1) (vb_2 : Value) (hb_2 : RepSl g b_.Patch.Hunks vb_2) (S : St g [] fr w) (hm : treecommute_independent a_ b_ = some r) :
  Calls Tryz.prog 39 [.agg #[.i6 a_.Kind, .string a_.Path, .string a_.To, va_1, va_2], .agg #[.i6 b_.Kind, .string b_.Path, .string b_.To, vb_1, vb_2]].toArray w (fun en w' => ∃ v, en = .returned v ∧ ∃ (g' : Gh), Le g g' ∧ St g' [] fr w' ∧ .bool r = v) := by
 unfold treecommute_independent at hm
 refine calls_enter (fn := Tryz.f39) Tryz.func39 rfl Tryz.ntmps39 (lb rfl) ?_
 intro a F
 replace F : Fr 10 a [(0, .agg #[.i6 a_.Kind, .string a_.Path, .string a_.To, va_1, va_2]), (1, .agg #[.i6 b_.Kind, .string b_.Path, .string b_.To, vb_1, vb_2])] := F
 refine wp_seq ?_
 refine wp_region_lit ?_
 refine wl_boxC (wn rfl) rfl rfl rfl F S rfl rfl ?_; clear F a S; rintro b1 a w F S
 refine wl_boxC (wn rfl) rfl rfl rfl F S rfl rfl ?_; clear F a S; rintro b2 a w F S
 refine wE (ev_assign rfl) F S rfl fun a F=>?_
 refine wpList_nil ?_
 refine then_n ?_
 refine wp_seq ?_
 refine wp_region_lit ?_
 refine wE (ev_loadA tu30 rfl (cs := [.i6 a_.Kind, .string a_.Path, .string a_.To, va_1, va_2]) ts30 rfl (box_ptr (cells := [.i6 a_.Kind, .string a_.Path, .string a_.To, va_1, va_2]) 1 rfl 0 rfl (lb rfl))) F S rfl fun a F=>?_
 obtain ⟨y1, hy1, hm⟩ := bind_some hm
 refine wl_call0 (wn rfl) rfl F rfl (treecommute_paths_ok (fr := (fl [[bx b2 #[.i6 b_.Kind, .string b_.Path, .string b_.To, vb_1, vb_2] 30], [bx b1 #[.i6 a_.Kind, .string a_.Path, .string a_.To, va_1, va_2] 30]] fr)) a_ va_1 ha_1 va_2 ha_2 S hy1) rfl tc75 rfl rfl ?_; clear F a S
 rintro _ a w ⟨g1, v1, c1, l1, S, h1, rfl⟩ F; replace S : St g1 [c1, [bx b2 #[.i6 b_.Kind, .string b_.Path, .string b_.To, vb_1, vb_2] 30], [bx b1 #[.i6 a_.Kind, .string a_.Path, .string a_.To, va_1, va_2] 30]] fr w := S
 refine wE (ev_makeFunc (xs := [.tmp 3]) (vs := [bp b2 0]) rfl) F S rfl fun a F=>?_
 replace F := F.sub (e' := [(7, .func (.func 76) #[] #[bp b2 0]), (6, v1)]) ⟨rfl, rfl, trivial⟩
 refine wl_callK (wn rfl) rfl (xs := [.tmp 6, .tmp 7]) (vs := [v1, .func (.func 76) #[] #[bp b2 0]]) (cap := []) (e' := []) trivial F rfl rfl tc74 rfl rfl (calls_enter (fn := Tryz.f74) Tryz.func74 rfl Tryz.ntmps74 (lb rfl) ?_); clear F a; intro a F
 replace F : Fr 9 a [(0, v1), (1, .func (.func 76) #[] #[bp b2 0])] := F
 refine wp_seq ?_
 refine wp_region_lit ?_
 refine wE (ev_assign rfl) F S rfl fun a F=>?_
 refine wpList_nil ?_
 refine then_n ?_
 refine wp_seq ?_
 refine wp_region_lit ?_
 refine wE (ev_move rfl) F S rfl fun a F=>?_
 refine wE (ev_move rfl) F S rfl fun a F=>?_
 refine wl_call (wn rfl) rfl (xs := [.tmp 5, .tmp 6]) (vs := [v1, .func (.func 76) #[] #[bp b2 0]]) (cap := []) (R := fun u1 w => ∃ (x1 : Int) (g2 : Gh), u1 = .i6 x1 ∧ Le g1 g2 ∧ St g2 [] fr w ∧ treecommute_independent.j1 x1 = some r) F rfl rfl tc121 (calls_enter (fn := Tryz.f121) Tryz.func121 rfl Tryz.ntmps121 (lb rfl) ?_) rfl rfl ?_
 ·clear F a; intro a F
  replace F : Fr 19 a [(0, v1), (1, .func (.func 76) #[] #[bp b2 0])] := F
  refine wp_seq ?_
  refine wp_region_lit ?_
  refine wE (ev_assign rfl) F S rfl fun a F=>?_
  refine wpList_nil ?_
  refine then_n ?_
  refine wp_cut (fun a w => ∃ (g3 : Gh), Fr 19 a [] ∧ Le g1 g3 ∧ St g3 [] fr w ∧ treecommute_independent.j2 = some r) ?_ ?_
  ·refine wp_seq ?_
   refine wp_region_lit ?_
   refine wE (ev_move rfl) F S rfl fun a F=>?_
   refine wE (ev_lenOw h1 rfl tu28) F S rfl fun a F=>?_
   refine wE (ev_move rfl) F S rfl fun a F=>?_
   refine wpList_nil ?_
   refine then_n ?_
   refine wp_block ?_
   obtain ⟨r1, hr1, hm⟩ := bind_some hm
   have hmo1 := hm; clear hm
   refine wp_iter (σ := Int) (ρ := Int ⊕ Unit) (m := fun s => treecommute_independent.l1 b_ y1 s) (I := fun x2 a w => ∃ (g4 : Gh), Fr 19 a [(8, .i6 x2), (7, .i6 (y1.length : Int)), (0, v1), (1, .func (.func 76) #[] #[bp b2 0])] ∧ Le g1 g4 ∧ St g4 [c1, [bx b2 #[.i6 b_.Kind, .string b_.Path, .string b_.To, vb_1, vb_2] 30]] fr w) hr1 ?_ ?_
   ·replace S : St g1 [c1, [bx b2 #[.i6 b_.Kind, .string b_.Path, .string b_.To, vb_1, vb_2] 30]] fr w := St.tail [c1, [bx b2 #[.i6 b_.Kind, .string b_.Path, .string b_.To, vb_1, vb_2] 30]] _ ((S.frontC 1 rfl).frontC 1 rfl)
    exact ⟨g1, F.sub ⟨rfl, rfl, rfl, rfl, trivial⟩, (Le.refl _), S⟩
   ·clear F S; rintro x2 a w x3 ⟨g4, F, l4, S⟩ hx1 hfin1
    have hm : treecommute_independent.l1 b_ y1 x2 = some x3 := hx1; clear hx1
    unfold treecommute_independent.l1 at hm
    refine wp_seq ?_
    refine wp_region_lit ?_
    refine wE (ev_int rfl rfl (bo_lss _ _ _ _)) F S rfl fun a F=>?_
    refine wpList_nil ?_
    refine then_n ?_
    refine wp_seq ?_
    obtain ⟨hc1, hm⟩ | ⟨hc1, hm⟩ := ite_or hm
    ·refine wp_condT F rfl hc1 ?_
     refine wp_skip ?_
     refine then_n ?_
     refine wp_seq ?_
     refine wp_block ?_
     refine wp_seq ?_
     refine wp_region_lit ?_
     refine wE (ev_move rfl) F S rfl fun a F=>?_
     refine wE (ev_assign rfl) F S rfl fun a F=>?_
     refine wpList_nil ?_
     refine then_n ?_
     refine wp_seq ?_
     refine wp_region_lit ?_
     refine wE (ev_move rfl) F S rfl fun a F=>?_
     refine wE (ev_move rfl) F S rfl fun a F=>?_
     refine wE (ev_move rfl) F S rfl fun a F=>?_
     obtain ⟨y2, hy2, hm⟩ := bind_some hm
     refine wE (ev_idxO (h1.mono l4) hy2 tu28 ts9 rfl rfl) F S rfl fun a F=>?_
     obtain ⟨cs1, hr2, hq1⟩ := elemO (h1.mono l4) hy2
     obtain rfl := rep_str hr2
     refine wE (ev_load1 tu9 rfl rfl (hq1 _ _ 0 rfl)) F S rfl fun a F=>?_
     replace F := F.sub (e' := [(15, .string y2), (11, .func (.func 76) #[] #[bp b2 0]), (5, .i6 x2), (8, .i6 x2), (7, .i6 (y1.length : Int)), (0, v1), (1, .func (.func 76) #[] #[bp b2 0])]) ⟨rfl, rfl, rfl, rfl, rfl, rfl, rfl, trivial⟩
     refine wl_callK (wn rfl) rfl (xs := [.tmp 15]) (vs := [.string y2]) (cap := [bp b2 0]) (e' := [(5, .i6 x2), (8, .i6 x2), (7, .i6 (y1.length : Int)), (0, v1), (1, .func (.func 76) #[] #[bp b2 0])]) ⟨rfl, rfl, rfl, rfl, rfl, trivial⟩ F rfl rfl tc76 rfl rfl (calls_enter (fn := Tryz.f76) Tryz.func76 rfl Tryz.ntmps76 (lb rfl) ?_); clear F a; intro a F
     replace F : Fr 8 a [(0, .string y2), (1, bp b2 0)] := F
     refine wp_seq ?_
     refine wp_region_lit ?_
     refine wE (ev_assign rfl) F S rfl fun a F=>?_
     refine wpList_nil ?_
     refine then_n ?_
     refine wp_seq ?_
     refine wp_region_lit ?_
     refine wE (ev_move rfl) F S rfl fun a F=>?_
     refine wE (ev_loadA tu30 rfl (cs := [.i6 b_.Kind, .string b_.Path, .string b_.To, vb_1, vb_2]) ts30 rfl (box_ptr (cells := [.i6 b_.Kind, .string b_.Path, .string b_.To, vb_1, vb_2]) 1 rfl 0 rfl (lb rfl))) F S rfl fun a F=>?_
     refine wl_lit (l := ([b_] : List TreeChange)) (vs := [.agg #[.i6 b_.Kind, .string b_.Path, .string b_.To, vb_1, vb_2]]) (parts := [(0, .tmp 5)]) (wn rfl) rfl rfl rfl tu35 te30 (sz_cons rfl sz_nil) rfl (Cat.cons (rep_TreeChange_mk (x := b_) (hb_1.mono (l1.trans l4)) (hb_2.mono (l1.trans l4))) (Cat.nil _)) (coa_cons rfl coa_nil) rfl F S rfl rfl ?_; clear F a S
     rintro v2 c2 a w h2 F S
     obtain ⟨g5, l5, S, h3⟩ : ∃ gz, Le g4 gz ∧ St gz [c1, [bx b2 #[.i6 b_.Kind, .string b_.Path, .string b_.To, vb_1, vb_2] 30]] fr w ∧ RepSl gz ([b_] : List TreeChange) v2 := ⟨_, Le.add _ _, S.freeze 0 rfl, OwnS.freeze (S.front 0 rfl) h2⟩
     obtain ⟨y3, hy3, hm⟩ := bind_some hm
     refine wl_call0 (wn rfl) rfl F rfl (treecommute_touches_ok (fr := (fl [c1, [bx b2 #[.i6 b_.Kind, .string b_.Path, .string b_.To, vb_1, vb_2] 30]] fr)) y2 ([b_] : List TreeChange) v2 h3 S hy3) rfl tc77 rfl rfl ?_; clear F a S
     rintro _ a w ⟨g6, l6, S, rfl⟩ F; replace S : St g6 [c1, [bx b2 #[.i6 b_.Kind, .string b_.Path, .string b_.To, vb_1, vb_2] 30]] fr w := S
     refine wE (ev_assign rfl) F S rfl fun a F=>?_
     refine wpList_nil ?_
     refine then_n ?_
     refine wp_ret ?_
     refine post_r _ F rfl (ar_cons (resT rfl) ar_nil) ?_
     refine ⟨_, rfl, ?_⟩; clear F a; intro a F
     replace F : Fr 19 a [(16, .bool y3), (5, .i6 x2), (8, .i6 x2), (7, .i6 (y1.length : Int)), (0, v1), (1, .func (.func 76) #[] #[bp b2 0])] := F
     refine wpList_nil ?_
     refine then_n ?_
     obtain ⟨hc2, hm⟩ | ⟨hc2, hm⟩ := ite_or hm
     ·refine wp_condT F rfl hc2 ?_
      refine wp_seq ?_
      refine wp_region_lit ?_
      refine wE (ev_move rfl) F S rfl fun a F=>?_
      refine wE (ev_assign rfl) F S rfl fun a F=>?_
      refine wpList_nil ?_
      refine then_n ?_
      refine wp_ret ?_
      refine inb_r ?_
      refine then_r ?_
      refine then_r ?_
      refine inb_r ?_
      refine then_r ?_
      obtain rfl := sinj hm
      obtain rfl := hfin1 _ rfl
      clear hm
      have hm : (treecommute_independent.j1 x2 : Option Bool) = some _ := hmo1
      refine post_r _ F rfl (ar_cons (resT rfl) ar_nil) ?_
      replace S : St g6 [] fr w := St.tail [] _ S
      exact ⟨_, rfl, ⟨x2, g6, rfl, ((l4.trans l5).trans l6), S, hm⟩⟩
     ·refine wp_condF F rfl hc2 ?_
      refine wp_skip ?_
      refine inb_n ?_
      refine then_n ?_
      refine wp_region_lit ?_
      obtain ⟨z1, hz1, hm⟩ := bind_some hm
      refine wE (ev_int rfl rfl (bo_add hz1)) F S rfl fun a F=>?_
      refine wE (ev_move rfl) F S rfl fun a F=>?_
      refine wpList_nil ?_
      refine then_n ?_
      obtain rfl := sinj hm
      refine ⟨_, rfl, ?_⟩
      exact ⟨g6, F.sub ⟨rfl, rfl, rfl, rfl, trivial⟩, ((l4.trans l5).trans l6), S⟩
    ·refine wp_condF F rfl hc1 ?_
     refine wp_exit ?_
     refine then_e ?_
     refine then_e ?_
     refine inb_x ?_
     refine then_n ?_
     obtain rfl := sinj hm
     obtain rfl := hfin1 _ rfl
     clear hm
     have hm : (treecommute_independent.j2 : Option Bool) = some _ := hmo1
     replace S : St g4 [] fr w := St.tail [] _ S
     exact ⟨g4, F.sub trivial, l4, S, hm⟩
  ·clear F S hm; rintro a w ⟨g3, F, l3, S, hm⟩
   refine wp_seq ?_
   refine wp_region_lit ?_
   refine wE (ev_assign rfl) F S rfl fun a F=>?_
   refine wpList_nil ?_
   refine then_n ?_
   refine wp_ret ?_
   refine post_r _ F rfl (ar_cons (resT rfl) ar_nil) ?_
   exact ⟨_, rfl, ⟨(-1), g3, rfl, l3, S, hm⟩⟩
 ·clear F S hm; rintro _ a w ⟨x1, g2, rfl, l2, S, hm⟩ F
  replace F := F.sub (e' := [(7, .i6 x1)]) ⟨rfl, trivial⟩
  refine wE (ev_int rfl rfl (bo_geq _ _ _ _)) F S rfl fun a F=>?_
  refine wE (ev_assign rfl) F S rfl fun a F=>?_
  refine wpList_nil ?_
  refine then_n ?_
  refine wp_ret ?_
  refine post_r _ F rfl (ar_cons (resT rfl) ar_nil) ?_
  refine ⟨_, rfl, ?_⟩; clear F a; intro a F
  replace F : Fr 10 a [(8, .bool (decide (x1 ≥ 0)))] := F
  refine wE (ev_not rfl) F S rfl fun a F=>?_
  refine wE (ev_assign rfl) F S rfl fun a F=>?_
  refine wpList_nil ?_
  refine then_n ?_
  refine wp_ret ?_
  obtain rfl := sinj hm
  refine post_r _ F rfl (ar_cons (resT rfl) ar_nil) ?_
  exact ⟨_, rfl, g2, (l1.trans l2), S, rfl⟩

theorem textpatch_Second_ok {g : Gh} {fr : Hl} {w : World} {r : Fault} (p_ : Patch) (vp_1 : Value) (hp_1 : RepSl g p_.Hunks vp_1) (index : Int) (S : St g [] fr w) (hm : textpatch_Second p_ index = some r) :
  Calls Tryz.prog 123 [.agg #[vp_1], .i6 index].toArray w (fun en w' => ∃ v, en = .returned v ∧ ∃ (g' : Gh), Le g g' ∧ St g' [] fr w' ∧ .agg #[.i6 r.Code, .i6 r.Index] = v) := by
 unfold textpatch_Second at hm
 refine calls_enter (fn := Tryz.f123) Tryz.func123 rfl Tryz.ntmps123 (lb rfl) ?_
 intro a F
 replace F : Fr 16 a [(0, .agg #[vp_1]), (1, .i6 index)] := F
 refine wp_seq ?_
 refine wp_region_lit ?_
 refine wl_boxC (wn rfl) rfl rfl rfl F S rfl rfl ?_; clear F a S; rintro b1 a w F S
 refine wl_alloc (wn rfl) rfl tz32 (cs := [.i6 0, .i6 0]) rfl F S rfl rfl ?_; clear F a S; rintro b2 a w F S
 refine wpList_nil ?_
 refine then_n ?_
 refine wp_seq ?_
 refine wp_seq ?_
 refine wp_region_lit ?_
 refine wE (ev_loadA tu27 rfl (cs := [vp_1]) ts27 rfl (box_ptr (cells := [vp_1]) 1 rfl 0 rfl (lb rfl))) F S rfl fun a F=>?_
 obtain ⟨y1, hy1, hm⟩ := bind_some hm
 refine wl_call0 (wn rfl) rfl F rfl (textpatch_Validate_ok (fr := (fl [[bx b2 #[.i6 0, .i6 0] 32], [bx b1 #[vp_1] 27]] fr)) p_ vp_1 hp_1 S hy1) rfl tc60 rfl rfl ?_; clear F a S
 rintro _ a w ⟨g1, l1, S, rfl⟩ F; replace S : St g1 [[bx b2 #[.i6 0, .i6 0] 32], [bx b1 #[vp_1] 27]] fr w := S
 refine wl_alloc (wn rfl) rfl tz32 (cs := [.i6 0, .i6 0]) rfl F S rfl rfl ?_; clear F a S; rintro b3 a w F S
 refine wl_storeC (wn rfl) rfl F S rfl rfl (vs := [.i6 y1.Code, .i6 y1.Index]) rfl ts32 (one_cons rfl (one_cons rfl one_nil)) (k := 0) rfl (lb rfl) (c' := #[.i6 y1.Code, .i6 y1.Index]) rfl rfl ?_; clear S; intro w S
 refine wpList_nil ?_
 refine then_n ?_
 refine wp_seq ?_
 refine wp_region_lit ?_
 refine wE (ev_loadA tu32 rfl (cs := [.i6 y1.Code, .i6 y1.Index]) ts32 rfl (box_ptr (cells := [.i6 y1.Code, .i6 y1.Index]) 0 rfl 0 rfl (lb rfl))) F S rfl fun a F=>?_
 refine wE (ev_build (parts := []) (vs := []) rfl (fun w => tb32_  w)) F S rfl fun a F=>?_
 refine wE (ev_neS tu32 tqa32 tqb32 tqc32 (xs := [.i6 y1.Code, .i6 y1.Index]) (ys := [.i6 0, .i6 0]) rfl rfl ⟨_, _, rfl, by decide, ⟨_, _, rfl, rfl, leaf_int tu3⟩, ⟨_, _, rfl, by decide, ⟨_, _, rfl, rfl, leaf_int tu3⟩, rfl⟩⟩) F S rfl fun a F=>?_
 refine wpList_nil ?_
 refine then_n ?_
 obtain ⟨hc1, hm⟩ | ⟨hc1, hm⟩ := ite_or hm
 ·refine wp_condT F rfl hc1 ?_
  refine wp_seq ?_
  refine wp_region_lit ?_
  refine wE (ev_fieldAddr' tu32 tf32_0 (z := 0) ts3 rfl ⟨_, rfl⟩ rfl) F S rfl fun a F=>?_
  refine wE (ev_load1 tu3 rfl rfl (box_ptr (cells := [.i6 y1.Code]) 0 rfl 0 rfl (lb rfl))) F S rfl fun a F=>?_
  refine wE (ev_move rfl) F S rfl fun a F=>?_
  refine wE (ev_build (parts := [(0, .tmp 12), (1, .tmp 13)]) (vs := [(0, .i6 y1.Code), (1, .i6 index)]) rfl (fun w => tb32_0_1 y1.Code index w)) F S rfl fun a F=>?_
  refine wl_storeC (wn rfl) rfl F S rfl rfl (vs := [.i6 y1.Code, .i6 index]) rfl ts32 (one_cons rfl (one_cons rfl one_nil)) (k := 1) rfl (lb rfl) (c' := #[.i6 y1.Code, .i6 index]) rfl rfl ?_; clear S; intro w S
  refine wpList_nil ?_
  refine then_n ?_
  refine wp_ret ?_
  refine then_r ?_
  obtain rfl := sinj hm
  refine post_r _ F rfl (ar_cons (resA rfl tu32 rfl (box_ptr (cells := [.i6 y1.Code, .i6 index]) 1 rfl 0 rfl (lb rfl) w S) ts32) ar_nil) ?_
  replace S : St g1 [] fr w := St.tail [] _ S
  exact ⟨_, rfl, g1, l1, S, rfl⟩
 ·refine wp_condF F rfl hc1 ?_
  refine wp_skip ?_
  refine then_n ?_
  refine wp_seq ?_
  refine wp_region_lit ?_
  refine wE (ev_build (parts := []) (vs := []) rfl (fun w => tb32_  w)) F S rfl fun a F=>?_
  refine wl_storeC (wn rfl) rfl F S rfl rfl (vs := [.i6 0, .i6 0]) rfl ts32 (one_cons rfl (one_cons rfl one_nil)) (k := 1) rfl (lb rfl) (c' := #[.i6 0, .i6 0]) rfl rfl ?_; clear S; intro w S
  refine wpList_nil ?_
  refine then_n ?_
  refine wp_ret ?_
  obtain rfl := sinj hm
  refine post_r _ F rfl (ar_cons (resA rfl tu32 rfl (box_ptr (cells := [.i6 0, .i6 0]) 1 rfl 0 rfl (lb rfl) w S) ts32) ar_nil) ?_
  replace S : St g1 [] fr w := St.tail [] _ S
  exact ⟨_, rfl, g1, l1, S, rfl⟩

theorem commute_both_ok {g : Gh} {fr : Hl} {w : World} {r : Fault} (p_ : Patch) (vp_1 : Value) (hp_1 : RepSl g p_.Hunks vp_1) (q_ : Patch) (vq_1 : Value) (hq_1 : RepSl g q_.Hunks vq_1) (S : St g [] fr w) (hm : commute_both p_ q_ = some r) :
  Calls Tryz.prog 78 [.agg #[vp_1], .agg #[vq_1]].toArray w (fun en w' => ∃ v, en = .returned v ∧ ∃ (g' : Gh), Le g g' ∧ St g' [] fr w' ∧ .agg #[.i6 r.Code, .i6 r.Index] = v) := by
 unfold commute_both at hm
 refine calls_enter (fn := Tryz.f78) Tryz.func78 rfl Tryz.ntmps78 (lb rfl) ?_
 intro a F
 replace F : Fr 14 a [(0, .agg #[vp_1]), (1, .agg #[vq_1])] := F
 refine wp_seq ?_
 refine wp_region_lit ?_
 refine wl_boxC (wn rfl) rfl rfl rfl F S rfl rfl ?_; clear F a S; rintro b1 a w F S
 refine wl_boxC (wn rfl) rfl rfl rfl F S rfl rfl ?_; clear F a S; rintro b2 a w F S
 refine wl_alloc (wn rfl) rfl tz32 (cs := [.i6 0, .i6 0]) rfl F S rfl rfl ?_; clear F a S; rintro b3 a w F S
 refine wpList_nil ?_
 refine then_n ?_
 refine wp_seq ?_
 refine wp_seq ?_
 refine wp_region_lit ?_
 refine wE (ev_loadA tu27 rfl (cs := [vp_1]) ts27 rfl (box_ptr (cells := [vp_1]) 2 rfl 0 rfl (lb rfl))) F S rfl fun a F=>?_
 obtain ⟨y1, hy1, hm⟩ := bind_some hm
 refine wl_call0 (wn rfl) rfl F rfl (textpatch_Validate_ok (fr := (fl [[bx b3 #[.i6 0, .i6 0] 32], [bx b2 #[vq_1] 27], [bx b1 #[vp_1] 27]] fr)) p_ vp_1 hp_1 S hy1) rfl tc60 rfl rfl ?_; clear F a S
 rintro _ a w ⟨g1, l1, S, rfl⟩ F; replace S : St g1 [[bx b3 #[.i6 0, .i6 0] 32], [bx b2 #[vq_1] 27], [bx b1 #[vp_1] 27]] fr w := S
 refine wl_alloc (wn rfl) rfl tz32 (cs := [.i6 0, .i6 0]) rfl F S rfl rfl ?_; clear F a S; rintro b4 a w F S
 refine wl_storeC (wn rfl) rfl F S rfl rfl (vs := [.i6 y1.Code, .i6 y1.Index]) rfl ts32 (one_cons rfl (one_cons rfl one_nil)) (k := 0) rfl (lb rfl) (c' := #[.i6 y1.Code, .i6 y1.Index]) rfl rfl ?_; clear S; intro w S
 refine wpList_nil ?_
 refine then_n ?_
 refine wp_seq ?_
 refine wp_region_lit ?_
 refine wE (ev_loadA tu32 rfl (cs := [.i6 y1.Code, .i6 y1.Index]) ts32 rfl (box_ptr (cells := [.i6 y1.Code, .i6 y1.Index]) 0 rfl 0 rfl (lb rfl))) F S rfl fun a F=>?_
 refine wE (ev_build (parts := []) (vs := []) rfl (fun w => tb32_  w)) F S rfl fun a F=>?_
 refine wE (ev_neS tu32 tqa32 tqb32 tqc32 (xs := [.i6 y1.Code, .i6 y1.Index]) (ys := [.i6 0, .i6 0]) rfl rfl ⟨_, _, rfl, by decide, ⟨_, _, rfl, rfl, leaf_int tu3⟩, ⟨_, _, rfl, by decide, ⟨_, _, rfl, rfl, leaf_int tu3⟩, rfl⟩⟩) F S rfl fun a F=>?_
 refine wpList_nil ?_
 refine then_n ?_
 obtain ⟨hc1, hm⟩ | ⟨hc1, hm⟩ := ite_or hm
 ·refine wp_condT F rfl hc1 ?_
  refine wp_seq ?_
  refine wp_region_lit ?_
  refine wE (ev_loadA tu32 rfl (cs := [.i6 y1.Code, .i6 y1.Index]) ts32 rfl (box_ptr (cells := [.i6 y1.Code, .i6 y1.Index]) 0 rfl 0 rfl (lb rfl))) F S rfl fun a F=>?_
  refine wl_storeC (wn rfl) rfl F S rfl rfl (vs := [.i6 y1.Code, .i6 y1.Index]) rfl ts32 (one_cons rfl (one_cons rfl one_nil)) (k := 1) rfl (lb rfl) (c' := #[.i6 y1.Code, .i6 y1.Index]) rfl rfl ?_; clear S; intro w S
  refine wpList_nil ?_
  refine then_n ?_
  refine wp_ret ?_
  refine then_r ?_
  obtain rfl := sinj hm
  refine post_r _ F rfl (ar_cons (resA rfl tu32 rfl (box_ptr (cells := [.i6 y1.Code, .i6 y1.Index]) 1 rfl 0 rfl (lb rfl) w S) ts32) ar_nil) ?_
  replace S : St g1 [] fr w := St.tail [] _ S
  exact ⟨_, rfl, g1, l1, S, rfl⟩
 ·refine wp_condF F rfl hc1 ?_
  refine wp_skip ?_
  refine then_n ?_
  refine wp_seq ?_
  refine wp_region_lit ?_
  refine wE (ev_loadA tu27 rfl (cs := [vq_1]) ts27 rfl (box_ptr (cells := [vq_1]) 2 rfl 0 rfl (lb rfl))) F S rfl fun a F=>?_
  obtain ⟨y2, hy2, hm⟩ := bind_some hm
  refine wl_call0 (wn rfl) rfl F rfl (textpatch_Second_ok (fr := (fl [[bx b4 #[.i6 y1.Code, .i6 y1.Index] 32], [bx b3 #[.i6 0, .i6 0] 32], [bx b2 #[vq_1] 27], [bx b1 #[vp_1] 27]] fr)) q_ vq_1 (hq_1.mono l1) (-2) S hy2) rfl tc123 rfl rfl ?_; clear F a S
  rintro _ a w ⟨g2, l2, S, rfl⟩ F; replace S : St g2 [[bx b4 #[.i6 y1.Code, .i6 y1.Index] 32], [bx b3 #[.i6 0, .i6 0] 32], [bx b2 #[vq_1] 27], [bx b1 #[vp_1] 27]] fr w := S
  refine wl_storeC (wn rfl) rfl F S rfl rfl (vs := [.i6 y2.Code, .i6 y2.Index]) rfl ts32 (one_cons rfl (one_cons rfl one_nil)) (k := 1) rfl (lb rfl) (c' := #[.i6 y2.Code, .i6 y2.Index]) rfl rfl ?_; clear S; intro w S
  refine wpList_nil ?_
  refine then_n ?_
  refine wp_ret ?_
  obtain rfl := sinj hm
  refine post_r _ F rfl (ar_cons (resA rfl tu32 rfl (box_ptr (cells := [.i6 y2.Code, .i6 y2.Index]) 1 rfl 0 rfl (lb rfl) w S) ts32) ar_nil) ?_
  replace S : St g2 [] fr w := St.tail [] _ S
  exact ⟨_, rfl, g2, (l1.trans l2), S, rfl⟩

theorem textpatch_Growth_ok {g : Gh} {fr : Hl} {w : World} {r : Int} (h_ : Hunk) (vh_1 : Value) (hh_1 : RepSl g h_.Old vh_1) (vh_2 : Value) (hh_2 : RepSl g h_.New vh_2) (S : St g [] fr w) (hm : textpatch_Growth h_ = some r) :
  Calls Tryz.prog 124 [.agg #[.i6 h_.At, vh_1, vh_2]].toArray w (fun en w' => ∃ v, en = .returned v ∧ ∃ (g' : Gh), Le g g' ∧ St g' [] fr w' ∧ .i6 r = v) := by
 unfold textpatch_Growth at hm
 refine calls_enter (fn := Tryz.f124) Tryz.func124 rfl Tryz.ntmps124 (lb rfl) ?_
 intro a F
 replace F : Fr 10 a [(0, .agg #[.i6 h_.At, vh_1, vh_2])] := F
 refine wp_seq ?_
 refine wp_region_lit ?_
 refine wl_boxC (wn rfl) rfl rfl rfl F S rfl rfl ?_; clear F a S; rintro b1 a w F S
 refine wE (ev_assign rfl) F S rfl fun a F=>?_
 refine wpList_nil ?_
 refine then_n ?_
 refine wp_seq ?_
 refine wp_region_lit ?_
 refine wE (ev_fieldAddr' tu65 tf65_2 (z := 0) ts28 rfl ⟨_, rfl⟩ rfl) F S rfl fun a F=>?_
 refine wE (ev_load1 tu28 rfl rfl (box_ptr (cells := [vh_2]) 0 rfl 2 rfl (lb rfl))) F S rfl fun a F=>?_
 refine wE (ev_lenSh hh_2 rfl tu28) F S rfl fun a F=>?_
 refine wE (ev_fieldAddr' tu65 tf65_1 (z := 0) ts28 rfl ⟨_, rfl⟩ rfl) F S rfl fun a F=>?_
 refine wE (ev_load1 tu28 rfl rfl (box_ptr (cells := [vh_1]) 0 rfl 1 rfl (lb rfl))) F S rfl fun a F=>?_
 refine wE (ev_lenSh hh_1 rfl tu28) F S rfl fun a F=>?_
 obtain ⟨z1, hz1, hm⟩ := bind_some hm
 refine wE (ev_int rfl rfl (bo_sub hz1)) F S rfl fun a F=>?_
 refine wE (ev_assign rfl) F S rfl fun a F=>?_
 refine wpList_nil ?_
 refine then_n ?_
 refine wp_ret ?_
 obtain rfl := sinj hm
 refine post_r _ F rfl (ar_cons (resT rfl) ar_nil) ?_
 replace S : St g [] fr w := St.tail [] _ S
 exact ⟨_, rfl, g, (Le.refl _), S, rfl⟩

theorem commute_newRanges_ok {g : Gh} {fr : Hl} {w : World} {r : (List Range_commute)} (p_ : Patch) (vp_1 : Value) (hp_1 : RepSl g p_.Hunks vp_1) (S : St g [] fr w) (hm : commute_newRanges p_ = some r) :
  Calls Tryz.prog 79 [.agg #[vp_1]].toArray w (fun en w' => ∃ v, en = .returned v ∧ ∃ (g' : Gh) (v1 : Value) (c1 : Hl), Le g g' ∧ St g' [c1] fr w' ∧ OwnS g' r v1 c1 ∧ v1 = v) := by
 unfold commute_newRanges at hm
 refine calls_enter (fn := Tryz.f79) Tryz.func79 rfl Tryz.ntmps79 (lb rfl) ?_
 intro a F
 replace F : Fr 37 a [(0, .agg #[vp_1])] := F
 refine wp_seq ?_
 refine wp_region_lit ?_
 refine wl_boxC (wn rfl) rfl rfl rfl F S rfl rfl ?_; clear F a S; rintro b1 a w F S
 refine wE (ev_assign rfl) F S rfl fun a F=>?_
 refine wpList_nil ?_
 refine then_n ?_
 refine wp_seq ?_
 refine wp_region_lit ?_
 refine wE (ev_assign rfl) F S rfl fun a F=>?_
 refine wpList_nil ?_
 refine then_n ?_
 refine wp_seq ?_
 refine wp_region_lit ?_
 refine wE (ev_assign rfl) F S rfl fun a F=>?_
 refine wpList_nil ?_
 refine then_n ?_
 refine wp_cut (fun a w => ∃ (x1 : List Range_commute) (v1 : Value) (c1 : Hl) (g1 : Gh), Fr 37 a [(3, v1)] ∧ Le g g1 ∧ St g1 [c1] fr w ∧ OwnS g1 x1 v1 c1 ∧ commute_newRanges.j1 x1 = some r) ?_ ?_
 ·refine wp_seq ?_
  refine wp_region_lit ?_
  refine wE (ev_fieldAddr' tu27 tf27_0 (z := 0) ts25 rfl ⟨_, rfl⟩ rfl) F S rfl fun a F=>?_
  refine wE (ev_load1 tu25 rfl rfl (box_ptr (cells := [vp_1]) 0 rfl 0 rfl (lb rfl))) F S rfl fun a F=>?_
  refine wE (ev_lenSh hp_1 rfl tu25) F S rfl fun a F=>?_
  refine wE (ev_move rfl) F S rfl fun a F=>?_
  refine wpList_nil ?_
  refine then_n ?_
  refine wp_block ?_
  obtain ⟨r1, hr1, hm⟩ := bind_some hm
  have hmo1 := hm; clear hm
  refine wp_iter (σ := Int × Int × (List Range_commute)) (ρ := (List Range_commute)) (m := fun s => commute_newRanges.l1 p_ s.1 s.2.1 s.2.2) (I := fun s a w => match s with | (x2, x3, x4) => ∃ (v2 : Value) (c2 : Hl) (g2 : Gh), Fr 37 a [(11, .i6 x2), (10, .i6 (p_.Hunks.length : Int)), (9, vp_1), (4, .i6 x3), (3, v2)] ∧ Le g g2 ∧ St g2 [c2] fr w ∧ OwnS g2 x4 v2 c2) hr1 ?_ ?_
  ·dsimp only
   replace S : St g [[], [bx b1 #[vp_1] 27]] fr w := S
   replace S : St g [[]] fr w := St.tail [[]] _ (S.frontC 0 rfl)
   exact ⟨(nilS), [], g, F.sub ⟨rfl, rfl, rfl, rfl, rfl, trivial⟩, (Le.refl _), S, (OwnS.nil _)⟩
  ·clear F S; rintro ⟨x2, x3, x4⟩ a w x5 ⟨v2, c2, g2, F, l2, S, h2⟩ hx1 hfin1
   have hm : commute_newRanges.l1 p_ x2 x3 x4 = some x5 := hx1; clear hx1
   unfold commute_newRanges.l1 at hm
   refine wp_seq ?_
   refine wp_region_lit ?_
   refine wE (ev_int rfl rfl (bo_lss _ _ _ _)) F S rfl fun a F=>?_
   refine wpList_nil ?_
   refine then_n ?_
   refine wp_seq ?_
   obtain ⟨hc1, hm⟩ | ⟨hc1, hm⟩ := ite_or hm
   ·refine wp_condT F rfl hc1 ?_
    refine wp_skip ?_
    refine then_n ?_
    refine wp_seq ?_
    refine wp_block ?_
    refine wp_seq ?_
    refine wp_region_lit ?_
    obtain ⟨y1, hy1, hm⟩ := bind_some hm
    obtain ⟨cs1, hr2, hp1⟩ := elemS (hp_1.mono l2) hy1
    obtain ⟨v3, v4, rfl, h3, h4⟩ := rep_Hunk hr2
    refine wE (ev_idxS (hp_1.mono l2) hy1 tu25 ts65 rfl rfl) F S rfl fun a F=>?_
    refine wE (ev_loadA tu65 rfl (cs := [.i6 y1.At, v3, v4]) ts65 rfl (ptr_mono (cks := [c2]) (fr := fr) hp1 (Le.refl _))) F S rfl fun a F=>?_
    refine wl_alloc (wn rfl) rfl tz65 (cs := [.i6 0, nilS, nilS]) rfl F S rfl rfl ?_; clear F a S; rintro b2 a w F S
    refine wl_storeC (wn rfl) rfl F S rfl rfl (vs := [.i6 y1.At, v3, v4]) rfl ts65 (one_cons rfl (one_cons h3.one (one_cons h4.one one_nil))) (k := 0) rfl (lb rfl) (c' := #[.i6 y1.At, v3, v4]) rfl rfl ?_; clear S; intro w S
    refine wpList_nil ?_
    refine then_n ?_
    refine wp_seq ?_
    refine wp_region_lit ?_
    refine wE (ev_fieldAddr' tu65 tf65_0 (z := 0) ts3 rfl ⟨_, rfl⟩ rfl) F S rfl fun a F=>?_
    refine wE (ev_load1 tu3 rfl rfl (box_ptr (cells := [.i6 y1.At]) 0 rfl 0 rfl (lb rfl))) F S rfl fun a F=>?_
    refine wE (ev_move rfl) F S rfl fun a F=>?_
    obtain ⟨z1, hz1, hm⟩ := bind_some hm
    refine wE (ev_int rfl rfl (bo_add hz1)) F S rfl fun a F=>?_
    refine wE (ev_assign rfl) F S rfl fun a F=>?_
    refine wpList_nil ?_
    refine then_n ?_
    refine wp_seq ?_
    refine wp_dv [12] mo S ?_; clear S; intro ok1 w S
    refine dv_et ok1 0 rfl (ev_move rfl) F rfl fun a F=>?_
    refine dv_et ok1 1 rfl (ev_move rfl) F rfl fun a F=>?_
    refine dv_et ok1 2 rfl (ev_move rfl) F rfl fun a F=>?_
    refine dv_et ok1 3 rfl (ev_fieldAddr' tu65 tf65_2 (z := 0) ts28 rfl ⟨_, rfl⟩ rfl) F rfl fun a F=>?_
    refine dv_ev ok1 4 rfl (ev_load1 tu28 rfl rfl (box_ptr (cells := [v4]) 0 rfl 2 rfl (lb rfl))) F S rfl fun a F=>?_
    refine dv_et ok1 5 rfl (ev_lenSh h4 rfl tu28) F rfl fun a F=>?_
    obtain ⟨z2, hz2, hm⟩ := bind_some hm
    refine dv_et ok1 6 rfl (ev_int rfl rfl (bo_add hz2)) F rfl fun a F=>?_
    refine dv_ev ok1 7 rfl (ev_loadA tu65 rfl (cs := [.i6 y1.At, v3, v4]) ts65 rfl (box_ptr (cells := [.i6 y1.At, v3, v4]) 0 rfl 0 rfl (lb rfl))) F S rfl fun a F=>?_
    refine dv_op ok1 8 rfl [(4, v4)] ?_
    obtain ⟨y2, hy2, hm⟩ := bind_some hm
    refine wl_call0 (wn rfl) rfl F rfl (textpatch_Growth_ok (fr := (fl [[bx b2 #[.i6 y1.At, v3, v4] 65], c2] fr)) y1 v3 h3 v4 h4 S hy2) rfl tc124 rfl rfl ?_; clear F a S
    rintro _ a w ⟨g3, l3, S, rfl⟩ F; replace S : St g3 [[bx b2 #[.i6 y1.At, v3, v4] 65], c2] fr w := S
    refine dv_nx ⟨yl_ev rfl rfl (ev_load1 tu28 rfl rfl (box_ptr (cells := [v4]) 0 rfl 2 rfl (lb rfl))) F S, trivial⟩ ?_
    refine dv_et ok1 9 rfl (ev_build (parts := [(0, .tmp 20), (1, .tmp 25), (2, .tmp 27)]) (vs := [(0, .i6 z1), (1, .i6 z2), (2, .i6 y2)]) rfl (fun w => tb174_0_1_2 z1 z2 y2 w)) F rfl fun a F=>?_
    refine dv_op ok1 10 rfl [] ?_
    refine wl_lit (l := ([({ Low := z1, High := z2, Growth := y2 } : Range_commute)] : List Range_commute)) (vs := [.agg #[.i6 z1, .i6 z2, .i6 y2]]) (parts := [(0, .tmp 28)]) (wn rfl) rfl rfl rfl tu128 te174 (sz_cons rfl sz_nil) rfl (Cat.cons (rep_Range_commute_mk (x := ({ Low := z1, High := z2, Growth := y2 } : Range_commute)) ) (Cat.nil _)) (coa_cons rfl coa_nil) rfl F S rfl rfl ?_; clear F a S
    rintro v5 c3 a w h5 F S
    refine dv_nx trivial ?_
    refine dv_op ok1 11 rfl [] ?_
    obtain ⟨cs2, hk1, hr3⟩ := OwnS.reads h5
    obtain ⟨y3, hy3, hm⟩ := bind_some hm
    refine wl_append (wn rfl) rfl tu128 tu128 te174 (by decide) (by decide) F S rfl rfl (k := 2) rfl (h2.mono l3) hk1 rfl (hr3 _ _ _ 0 rfl S) hy3 rfl rfl ?_; clear F a S
    rintro v6 c4 a w h6 S F; replace S : St g3 [c3, [bx b2 #[.i6 y1.At, v3, v4] 65], c4] fr w := S
    refine dv_nx trivial ?_
    refine dv_op ok1 12 rfl [] ?_
    refine wE (ev_assign rfl) F S rfl fun a F=>?_
    refine dv_nx trivial ?_
    refine dv_fin ok1 ?_
    refine then_n ?_
    refine wp_region_lit ?_
    refine wE (ev_move rfl) F S rfl fun a F=>?_
    refine wE (ev_loadA tu65 rfl (cs := [.i6 y1.At, v3, v4]) ts65 rfl (box_ptr (cells := [.i6 y1.At, v3, v4]) 1 rfl 0 rfl (lb rfl))) F S rfl fun a F=>?_
    obtain ⟨y4, hy4, hm⟩ := bind_some hm
    refine wl_call0 (wn rfl) rfl F rfl (textpatch_Growth_ok (fr := (fl [c3, [bx b2 #[.i6 y1.At, v3, v4] 65], c4] fr)) y1 v3 (h3.mono l3) v4 (h4.mono l3) S hy4) rfl tc124 rfl rfl ?_; clear F a S
    rintro _ a w ⟨g4, l4, S, rfl⟩ F; replace S : St g4 [c3, [bx b2 #[.i6 y1.At, v3, v4] 65], c4] fr w := S
    obtain ⟨z3, hz3, hm⟩ := bind_some hm
    refine wE (ev_int rfl rfl (bo_add hz3)) F S rfl fun a F=>?_
    refine wE (ev_assign rfl) F S rfl fun a F=>?_
    refine wpList_nil ?_
    refine inb_n ?_
    refine then_n ?_
    refine wp_region_lit ?_
    obtain ⟨z4, hz4, hm⟩ := bind_some hm
    refine wE (ev_int rfl rfl (bo_add hz4)) F S rfl fun a F=>?_
    refine wE (ev_move rfl) F S rfl fun a F=>?_
    refine wpList_nil ?_
    refine then_n ?_
    obtain rfl := sinj hm
    refine ⟨_, rfl, ?_⟩
    dsimp only
    replace S : St g4 [c4] fr w := St.tail [c4] _ (S.frontC 2 rfl)
    exact ⟨v6, c4, g4, F.sub ⟨rfl, rfl, rfl, rfl, rfl, trivial⟩, ((l2.trans l3).trans l4), S, (h6.mono l4)⟩
   ·refine wp_condF F rfl hc1 ?_
    refine wp_exit ?_
    refine then_e ?_
    refine then_e ?_
    refine inb_x ?_
    refine then_n ?_
    obtain rfl := sinj hm
    obtain rfl := hfin1 _ rfl
    clear hm
    have hm : (commute_newRanges.j1 x4 : Option (List Range_commute)) = some _ := hmo1
    exact ⟨x4, v2, c2, g2, F.sub ⟨rfl, trivial⟩, l2, S, h2, hm⟩
 ·clear F S hm; rintro a w ⟨x1, v1, c1, g1, F, l1, S, h1, hm⟩
  refine wp_seq ?_
  refine wp_region_lit ?_
  refine wE (ev_move rfl) F S rfl fun a F=>?_
  refine wE (ev_assign rfl) F S rfl fun a F=>?_
  refine wpList_nil ?_
  refine then_n ?_
  refine wp_ret ?_
  obtain rfl := sinj hm
  refine post_r _ F rfl (ar_cons (resT rfl) ar_nil) ?_
  exact ⟨_, rfl, g1, v1, c1, l1, S, h1, rfl⟩

theorem commute_Touch_ok {g : Gh} {fr : Hl} {w : World} {r : Bool} (a_ : Range_commute) (b_ : Range_commute) (S : St g [] fr w) (hm : commute_Touch a_ b_ = some r) :
  Calls Tryz.prog 125 [.agg #[.i6 a_.Low, .i6 a_.High, .i6 a_.Growth], .agg #[.i6 b_.Low, .i6 b_.High, .i6 b_.Growth]].toArray w (fun en w' => ∃ v, en = .returned v ∧ ∃ (g' : Gh), Le g g' ∧ St g' [] fr w' ∧ .bool r = v) := by
 unfold commute_Touch at hm
 refine calls_enter (fn := Tryz.f125) Tryz.func125 rfl Tryz.ntmps125 (lb rfl) ?_
 intro a F
 replace F : Fr 17 a [(0, .agg #[.i6 a_.Low, .i6 a_.High, .i6 a_.Growth]), (1, .agg #[.i6 b_.Low, .i6 b_.High, .i6 b_.Growth])] := F
 refine wp_seq ?_
 refine wp_region_lit ?_
 refine wl_boxC (wn rfl) rfl rfl rfl F S rfl rfl ?_; clear F a S; rintro b1 a w F S
 refine wl_boxC (wn rfl) rfl rfl rfl F S rfl rfl ?_; clear F a S; rintro b2 a w F S
 refine wE (ev_assign rfl) F S rfl fun a F=>?_
 refine wpList_nil ?_
 refine then_n ?_
 refine wp_seq ?_
 refine wp_region_lit ?_
 refine wE (ev_fieldAddr' tu174 tf174_1 (z := 0) ts3 rfl ⟨_, rfl⟩ rfl) F S rfl fun a F=>?_
 refine wE (ev_load1 tu3 rfl rfl (box_ptr (cells := [.i6 a_.High]) 1 rfl 1 rfl (lb rfl))) F S rfl fun a F=>?_
 refine wE (ev_fieldAddr' tu174 tf174_0 (z := 0) ts3 rfl ⟨_, rfl⟩ rfl) F S rfl fun a F=>?_
 refine wE (ev_load1 tu3 rfl rfl (box_ptr (cells := [.i6 b_.Low]) 0 rfl 0 rfl (lb rfl))) F S rfl fun a F=>?_
 refine wE (ev_int rfl rfl (bo_geq _ _ _ _)) F S rfl fun a F=>?_
 refine wE (ev_move rfl) F S rfl fun a F=>?_
 obtain ⟨x1, hx1, hm⟩ := bind_some hm
 refine wl_cut 6 (fun a w' => w = w' ∧ Fr 17 a [(16, .bool x1), (4, .bool false)]) ?_ ?_
 ·clear hm; obtain ⟨hc1, hm⟩ | ⟨hc1, hm⟩ := ite_or hx1
  ·refine wl_ev (wg F rfl rfl rfl rfl hc1) (ev_fieldAddr' tu174 tf174_1 (z := 0) ts3 rfl ⟨_, rfl⟩ rfl) F S rfl rfl ?_; clear F a; intro a F
   refine wl_ev (wg F rfl rfl rfl rfl hc1) (ev_load1 tu3 rfl rfl (box_ptr (cells := [.i6 b_.High]) 0 rfl 1 rfl (lb rfl))) F S rfl rfl ?_; clear F a; intro a F
   refine wl_ev (wg F rfl rfl rfl rfl hc1) (ev_fieldAddr' tu174 tf174_0 (z := 0) ts3 rfl ⟨_, rfl⟩ rfl) F S rfl rfl ?_; clear F a; intro a F
   refine wl_ev (wg F rfl rfl rfl rfl hc1) (ev_load1 tu3 rfl rfl (box_ptr (cells := [.i6 a_.Low]) 1 rfl 0 rfl (lb rfl))) F S rfl rfl ?_; clear F a; intro a F
   refine wl_ev (wg F rfl rfl rfl rfl hc1) (ev_int rfl rfl (bo_geq _ _ _ _)) F S rfl rfl ?_; clear F a; intro a F
   refine wE (ev_pickT rfl hc1 rfl) F S rfl fun a F=>?_
   obtain rfl := sinj hm
   refine wpList_nil (then_n ?_); exact ⟨rfl, F.sub ⟨rfl, rfl, trivial⟩⟩
  ·refine wl_skip rfl rfl rfl rfl (ne_tf hc1) F rfl rfl ?_; clear F a; intro a F
   refine wl_skip rfl rfl rfl rfl (ne_tf hc1) F rfl rfl ?_; clear F a; intro a F
   refine wl_skip rfl rfl rfl rfl (ne_tf hc1) F rfl rfl ?_; clear F a; intro a F
   refine wl_skip rfl rfl rfl rfl (ne_tf hc1) F rfl rfl ?_; clear F a; intro a F
   refine wl_skip rfl rfl rfl rfl (ne_tf hc1) F rfl rfl ?_; clear F a; intro a F
   refine wE (ev_pickF rfl hc1 rfl) F S rfl fun a F=>?_
   obtain rfl := sinj hm
   refine wpList_nil (then_n ?_); exact ⟨rfl, F.sub ⟨rfl, rfl, trivial⟩⟩
 clear F; rintro a w' ⟨rfl, F⟩
 refine wE (ev_assign rfl) F S rfl fun a F=>?_
 refine wpList_nil ?_
 refine then_n ?_
 refine wp_ret ?_
 obtain rfl := sinj hm
 refine post_r _ F rfl (ar_cons (resT rfl) ar_nil) ?_
 replace S : St g [] fr w := St.tail [] _ S
 exact ⟨_, rfl, g, (Le.refl _), S, rfl⟩
end Go.Dc
