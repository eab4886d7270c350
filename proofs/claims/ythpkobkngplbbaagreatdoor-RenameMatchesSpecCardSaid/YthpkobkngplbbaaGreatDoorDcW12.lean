/- Walks: each function comes to what its model says. -/
import Derived.Test.YthpkobkngplbbaaGreatDoorDcTab
import Derived.Test.YthpkobkngplbbaaGreatDoorDcM
import Derived.Test.YthpkobkngplbbaaGreatDoorDcW10
import Derived.Test.YthpkobkngplbbaaGreatDoorDcW11
import Derived.Test.YthpkobkngplbbaaGreatDoorDcW5
namespace Go.Dc
open Go Go.Proofs
set_option maxRecDepth 100000
set_option maxHeartbeats 4000000
set_option linter.unusedVariables false
theorem changeforgeref2_Renames_ok {g : Gh} {fr : Hl} {w : World} {r : (List Arr2_ByteArray) × Fault} (old_ : FileTree) (vold_1 : Value) (hold_1 : RepSl g old_.Files vold_1) (new_ : FileTree) (vnew_1 : Value) (hnew_1 : RepSl g new_.Files vnew_1) (percent : Int) (S : St g [] fr w) (hm : changeforgeref2_Renames old_ new_ percent = some r) :
  Calls Tryz.prog 12 [.agg #[vold_1], .agg #[vnew_1], .i6 percent].toArray w (fun en w' => ∃ v, en = .returned v ∧ ∃ (g' : Gh) (v1 : Value) (c1 : Hl), Le g g' ∧ St g' [c1] fr w' ∧ OwnS g' r.1 v1 c1 ∧ .tuple #[v1, .agg #[.i6 r.2.Code, .i6 r.2.Index]] = v) := by
 unfold changeforgeref2_Renames at hm
 refine calls_enter (fn := Tryz.f12) Tryz.func12 rfl Tryz.ntmps12 (lb rfl) ?_
 intro a F
 replace F : Fr 161 a [(0, .agg #[vold_1]), (1, .agg #[vnew_1]), (2, .i6 percent)] := F
 refine wp_seq ?_
 refine wp_region_lit ?_
 refine wl_boxC (wn rfl) rfl rfl rfl F S rfl rfl ?_; clear F a S; rintro b1 a w F S
 refine wl_boxC (wn rfl) rfl rfl rfl F S rfl rfl ?_; clear F a S; rintro b2 a w F S
 refine wE (ev_assign rfl) F S rfl fun a F=>?_
 refine wl_alloc (wn rfl) rfl tz32 (cs := [.i6 0, .i6 0]) rfl F S rfl rfl ?_; clear F a S; rintro b3 a w F S
 refine wpList_nil ?_
 refine then_n ?_
 refine wp_seq ?_
 refine wp_seq ?_
 refine wp_region_lit ?_
 refine wE (ev_loadA tu24 rfl (cs := [vold_1]) ts24 rfl (box_ptr (cells := [vold_1]) 2 rfl 0 rfl (lb rfl))) F S rfl fun a F=>?_
 refine wE (ev_loadA tu24 rfl (cs := [vnew_1]) ts24 rfl (box_ptr (cells := [vnew_1]) 1 rfl 0 rfl (lb rfl))) F S rfl fun a F=>?_
 obtain ⟨y1, hy1, hm⟩ := bind_some hm
 refine wl_call0 (wn rfl) rfl F rfl (changeforgeref2_TwoTrees_ok (fr := (fl [[bx b3 #[.i6 0, .i6 0] 32], [bx b2 #[vnew_1] 24], [bx b1 #[vold_1] 24]] fr)) old_ vold_1 hold_1 new_ vnew_1 hnew_1 S hy1) rfl tc46 rfl rfl ?_; clear F a S
 rintro _ a w ⟨g1, l1, S, rfl⟩ F; replace S : St g1 [[bx b3 #[.i6 0, .i6 0] 32], [bx b2 #[vnew_1] 24], [bx b1 #[vold_1] 24]] fr w := S
 refine wl_alloc (wn rfl) rfl tz32 (cs := [.i6 0, .i6 0]) rfl F S rfl rfl ?_; clear F a S; rintro b4 a w F S
 refine wl_storeC (wn rfl) rfl F S rfl rfl (vs := [.i6 y1.Code, .i6 y1.Index]) rfl ts32 (one_cons rfl (one_cons rfl one_nil)) (k := 0) rfl (lb rfl) (c' := #[.i6 y1.Code, .i6 y1.Index]) rfl rfl ?_; clear S; intro w S
 refine wpList_nil ?_
 refine then_n ?_
 refine wp_seq ?_
 refine wp_region_lit ?_
 refine wE (ev_fieldAddr' tu32 tf32_0 (z := 0) ts3 rfl ⟨_, rfl⟩ rfl) F S rfl fun a F=>?_
 refine wE (ev_load1 tu3 rfl rfl (box_ptr (cells := [.i6 y1.Code]) 0 rfl 0 rfl (lb rfl))) F S rfl fun a F=>?_
 refine wE (ev_int rfl rfl (bo_neq _ _ _ _)) F S rfl fun a F=>?_
 refine wpList_nil ?_
 refine then_n ?_
 obtain ⟨hc1, hm⟩ | ⟨hc1, hm⟩ := ite_or hm
 ·refine wp_condT F rfl hc1 ?_
  refine wp_seq ?_
  refine wp_dv [] mo S ?_; clear S; intro ok1 w S
  refine dv_ev ok1 0 rfl (ev_loadA tu32 rfl (cs := [.i6 y1.Code, .i6 y1.Index]) ts32 rfl (box_ptr (cells := [.i6 y1.Code, .i6 y1.Index]) 0 rfl 0 rfl (lb rfl))) F S rfl fun a F=>?_
  refine dv_et ok1 1 rfl (ev_assign rfl) F rfl fun a F=>?_
  refine dv_op ok1 2 rfl [] ?_
  refine wl_storeC (wn rfl) rfl F S rfl rfl (vs := [.i6 y1.Code, .i6 y1.Index]) rfl ts32 (one_cons rfl (one_cons rfl one_nil)) (k := 1) rfl (lb rfl) (c' := #[.i6 y1.Code, .i6 y1.Index]) rfl rfl ?_; clear S; intro w S
  refine dv_nx trivial ?_
  refine dv_fin ok1 ?_
  refine then_n ?_
  refine wp_ret ?_
  refine then_r ?_
  obtain rfl := sinj hm
  replace S : St g1 [[], [bx b4 #[.i6 y1.Code, .i6 y1.Index] 32], [bx b3 #[.i6 y1.Code, .i6 y1.Index] 32], [bx b2 #[vnew_1] 24], [bx b1 #[vold_1] 24]] fr w := S
  refine post_r _ F rfl (ar_cons (resT rfl) (ar_cons (resA rfl tu32 rfl (box_ptr (cells := [.i6 y1.Code, .i6 y1.Index]) 2 rfl 0 rfl (lb rfl) w S) ts32) ar_nil)) ?_
  replace S : St g1 [[]] fr w := St.tail [[]] _ (S.frontC 0 rfl)
  exact ⟨_, rfl, g1, (nilS), [], l1, S, (OwnS.nil _), rfl⟩
 ·refine wp_condF F rfl hc1 ?_
  refine wp_skip ?_
  refine then_n ?_
  refine wp_seq ?_
  refine wp_seq ?_
  refine wp_region_lit ?_
  refine wE (ev_move rfl) F S rfl fun a F=>?_
  refine wE (ev_int rfl rfl (bo_lss _ _ _ _)) F S rfl fun a F=>?_
  refine wE (ev_move rfl) F S rfl fun a F=>?_
  obtain ⟨x1, hx1, hm⟩ := bind_some hm
  refine wl_cut 3 (fun a w' => w = w' ∧ Fr 161 a [(33, .bool x1), (7, bp b3 0), (4, bp b2 0), (3, bp b1 0), (2, .i6 percent)]) ?_ ?_
  ·clear hm; obtain ⟨hc2, hm⟩ | ⟨hc2, hm⟩ := ite_or hx1
   ·refine wl_skip rfl rfl rfl rfl (ne_ft hc2) F rfl rfl ?_; clear F a; intro a F
    refine wl_skip rfl rfl rfl rfl (ne_ft hc2) F rfl rfl ?_; clear F a; intro a F
    refine wE (ev_pickT rfl hc2 rfl) F S rfl fun a F=>?_
    obtain rfl := sinj hm
    refine wpList_nil (then_n ?_); exact ⟨rfl, F.sub ⟨rfl, rfl, rfl, rfl, rfl, trivial⟩⟩
   ·refine wl_ev (wg F rfl rfl rfl rfl hc2) (ev_move rfl) F S rfl rfl ?_; clear F a; intro a F
    refine wl_ev (wg F rfl rfl rfl rfl hc2) (ev_int rfl rfl (bo_gtr _ _ _ _)) F S rfl rfl ?_; clear F a; intro a F
    refine wE (ev_pickF rfl hc2 rfl) F S rfl fun a F=>?_
    obtain rfl := sinj hm
    refine wpList_nil (then_n ?_); exact ⟨rfl, F.sub ⟨rfl, rfl, rfl, rfl, rfl, trivial⟩⟩
  clear F; rintro a w' ⟨rfl, F⟩
  refine wpList_nil ?_
  refine then_n ?_
  obtain ⟨hc3, hm⟩ | ⟨hc3, hm⟩ := ite_or hm
  ·refine wp_condT F rfl hc3 ?_
   refine wp_seq ?_
   refine wp_region_lit ?_
   obtain ⟨y2, hy2, hm⟩ := bind_some hm
   refine wl_call0 (wn rfl) rfl F rfl (changeforgeref1_At_ok (fr := (fl [[bx b4 #[.i6 y1.Code, .i6 y1.Index] 32], [bx b3 #[.i6 0, .i6 0] 32], [bx b2 #[vnew_1] 24], [bx b1 #[vold_1] 24]] fr)) 3 (-3) S hy2) rfl tc47 rfl rfl ?_; clear F a S
   rintro _ a w ⟨g2, l2, S, rfl⟩ F; replace S : St g2 [[bx b4 #[.i6 y1.Code, .i6 y1.Index] 32], [bx b3 #[.i6 0, .i6 0] 32], [bx b2 #[vnew_1] 24], [bx b1 #[vold_1] 24]] fr w := S
   refine wE (ev_assign rfl) F S rfl fun a F=>?_
   refine wl_storeC (wn rfl) rfl F S rfl rfl (vs := [.i6 y2.Code, .i6 y2.Index]) rfl ts32 (one_cons rfl (one_cons rfl one_nil)) (k := 1) rfl (lb rfl) (c' := #[.i6 y2.Code, .i6 y2.Index]) rfl rfl ?_; clear S; intro w S
   refine wpList_nil ?_
   refine then_n ?_
   refine wp_ret ?_
   refine then_r ?_
   obtain rfl := sinj hm
   replace S : St g2 [[], [bx b4 #[.i6 y1.Code, .i6 y1.Index] 32], [bx b3 #[.i6 y2.Code, .i6 y2.Index] 32], [bx b2 #[vnew_1] 24], [bx b1 #[vold_1] 24]] fr w := S
   refine post_r _ F rfl (ar_cons (resT rfl) (ar_cons (resA rfl tu32 rfl (box_ptr (cells := [.i6 y2.Code, .i6 y2.Index]) 2 rfl 0 rfl (lb rfl) w S) ts32) ar_nil)) ?_
   replace S : St g2 [[]] fr w := St.tail [[]] _ (S.frontC 0 rfl)
   exact ⟨_, rfl, g2, (nilS), [], (l1.trans l2), S, (OwnS.nil _), rfl⟩
  ·refine wp_condF F rfl hc3 ?_
   refine wp_skip ?_
   refine then_n ?_
   refine wp_seq ?_
   refine wp_region_lit ?_
   refine wE (ev_fieldAddr' tu24 tf24_0 (z := 0) ts22 rfl ⟨_, rfl⟩ rfl) F S rfl fun a F=>?_
   refine wE (ev_load1 tu22 rfl rfl (box_ptr (cells := [vold_1]) 3 rfl 0 rfl (lb rfl))) F S rfl fun a F=>?_
   refine wE (ev_lenSh hold_1 rfl tu22) F S rfl fun a F=>?_
   obtain ⟨y3, hy3, hm⟩ := bind_some hm
   refine wl_make (wn rfl) rfl tu47 te3 (fun g => (show Rep.rep g (0 : Int) _ from rfl)) rfl hy3 (by decide) F S rfl rfl ?_; clear F a S; rintro v1 c1 a w h1 F S
   refine wE (ev_assign rfl) F S rfl fun a F=>?_
   refine wpList_nil ?_
   refine then_n ?_
   refine wp_seq ?_
   refine wp_region_lit ?_
   refine wE (ev_fieldAddr' tu24 tf24_0 (z := 0) ts22 rfl ⟨_, rfl⟩ rfl) F S rfl fun a F=>?_
   refine wE (ev_load1 tu22 rfl rfl (box_ptr (cells := [vnew_1]) 3 rfl 0 rfl (lb rfl))) F S rfl fun a F=>?_
   refine wE (ev_lenSh hnew_1 rfl tu22) F S rfl fun a F=>?_
   obtain ⟨y4, hy4, hm⟩ := bind_some hm
   refine wl_make (wn rfl) rfl tu97 te4 (fun g => (show Rep.rep g false _ from rfl)) rfl hy4 (by decide) F S rfl rfl ?_; clear F a S; rintro v2 c2 a w h2 F S
   refine wE (ev_assign rfl) F S rfl fun a F=>?_
   refine wpList_nil ?_
   refine then_n ?_
   refine wp_cut (fun a w => ∃ (x2 : List Int) (v3 : Value) (c3 : Hl) (g3 : Gh), Fr 161 a [(10, v2), (9, v3), (7, bp b3 0), (4, bp b2 0), (3, bp b1 0), (2, .i6 percent)] ∧ Le g1 g3 ∧ St g3 [c2, c3, [bx b3 #[.i6 0, .i6 0] 32], [bx b2 #[vnew_1] 24], [bx b1 #[vold_1] 24]] fr w ∧ OwnS g3 x2 v3 c3 ∧ changeforgeref2_Renames.j1 old_ new_ percent y4 x2 = some r) ?_ ?_
   ·refine wp_seq ?_
    refine wp_region_lit ?_
    refine wE (ev_assign rfl) F S rfl fun a F=>?_
    refine wpList_nil ?_
    refine then_n ?_
    refine wp_block ?_
    obtain ⟨r5, hr16, hm⟩ := bind_some hm
    have hmo5 := hm; clear hm
    refine wp_iter (σ := Int × (List Int)) (ρ := (List Int)) (m := fun s => changeforgeref2_Renames.l5 s.1 s.2) (I := fun s a w => match s with | (x46, x47) => ∃ (v20 : Value) (c16 : Hl) (g19 : Gh), Fr 161 a [(11, .i6 x46), (10, v2), (9, v20), (7, bp b3 0), (4, bp b2 0), (3, bp b1 0), (2, .i6 percent)] ∧ Le g1 g19 ∧ St g19 [c2, c16, [bx b3 #[.i6 0, .i6 0] 32], [bx b2 #[vnew_1] 24], [bx b1 #[vold_1] 24]] fr w ∧ OwnS g19 x47 v20 c16) hr16 ?_ ?_
    ·dsimp only
     replace S : St g1 [c2, c1, [bx b3 #[.i6 0, .i6 0] 32], [bx b2 #[vnew_1] 24], [bx b1 #[vold_1] 24]] fr w := St.tail [c2, c1, [bx b3 #[.i6 0, .i6 0] 32], [bx b2 #[vnew_1] 24], [bx b1 #[vold_1] 24]] _ (((((S.frontC 5 rfl).frontC 5 rfl).frontC 5 rfl).frontC 4 rfl).frontC 4 rfl)
     exact ⟨v1, c1, g1, F.sub ⟨rfl, rfl, rfl, rfl, rfl, rfl, rfl, trivial⟩, (Le.refl _), S, h1⟩
    ·clear F S; rintro ⟨x46, x47⟩ a w x48 ⟨v20, c16, g19, F, l19, S, h22⟩ hx9 hfin5
     have hm : changeforgeref2_Renames.l5 x46 x47 = some x48 := hx9; clear hx9
     unfold changeforgeref2_Renames.l5 at hm
     refine wp_seq ?_
     refine wp_seq ?_
     refine wp_region_lit ?_
     refine wE (ev_move rfl) F S rfl fun a F=>?_
     refine wE (ev_move rfl) F S rfl fun a F=>?_
     refine wE (ev_lenOw h22 rfl tu47) F S rfl fun a F=>?_
     refine wE (ev_int rfl rfl (bo_lss _ _ _ _)) F S rfl fun a F=>?_
     refine wpList_nil ?_
     refine then_n ?_
     obtain ⟨hc15, hm⟩ | ⟨hc15, hm⟩ := ite_or hm
     ·refine wp_condT F rfl hc15 ?_
      refine wp_skip ?_
      refine then_n ?_
      refine wp_seq ?_
      refine wp_block ?_
      refine wp_region_lit ?_
      refine wE (ev_move rfl) F S rfl fun a F=>?_
      refine wE (ev_move rfl) F S rfl fun a F=>?_
      obtain ⟨y23, hy23, hm⟩ := bind_some hm
      refine wE (ev_idxO h22 hy23 tu47 ts3 rfl rfl) F S rfl fun a F=>?_
      obtain ⟨y24, hy24, hm⟩ := bind_some hm
      refine wl_storeW (z' := (-1)) (wn rfl) rfl F S h22 hy23 rfl rfl (us := [.i6 (-1)]) rfl ts3 (one_cons rfl one_nil) (k := 1) rfl rfl (show Rep.rep _ (-1) _ from rfl) rfl ?_; clear S
      rintro c17 w h23 S; replace S : St g19 [c2, c17, [bx b3 #[.i6 0, .i6 0] 32], [bx b2 #[vnew_1] 24], [bx b1 #[vold_1] 24]] fr w := S; replace h23 : OwnS g19 y24 v20 c17 := sinj hy24 ▸ h23
      refine wpList_nil ?_
      refine inb_n ?_
      refine then_n ?_
      refine wp_region_lit ?_
      refine wE (ev_move rfl) F S rfl fun a F=>?_
      obtain ⟨z5, hz5, hm⟩ := bind_some hm
      refine wE (ev_int rfl rfl (bo_add hz5)) F S rfl fun a F=>?_
      refine wE (ev_assign rfl) F S rfl fun a F=>?_
      refine wpList_nil ?_
      refine then_n ?_
      obtain rfl := sinj hm
      refine ⟨_, rfl, ?_⟩
      dsimp only
      exact ⟨v20, c17, g19, F.sub ⟨rfl, rfl, rfl, rfl, rfl, rfl, rfl, trivial⟩, l19, S, h23⟩
     ·refine wp_condF F rfl hc15 ?_
      refine wp_exit ?_
      refine then_e ?_
      refine then_e ?_
      refine inb_x ?_
      refine then_n ?_
      obtain rfl := sinj hm
      obtain rfl := hfin5 _ rfl
      clear hm
      have hm : (changeforgeref2_Renames.j1 old_ new_ percent y4 x47 : Option ((List Arr2_ByteArray) × Fault)) = some _ := hmo5
      exact ⟨x47, v20, c16, g19, F.sub ⟨rfl, rfl, rfl, rfl, rfl, rfl, trivial⟩, l19, S, h22, hm⟩
   ·clear F S hm; rintro a w ⟨x2, v3, c3, g3, F, l3, S, h3, hm⟩
    refine wp_cut (fun a w => ∃ (x3 : List Int) (v4 : Value) (c4 : Hl) (g4 : Gh), Fr 161 a [(9, v4), (7, bp b3 0), (4, bp b2 0), (3, bp b1 0)] ∧ Le g3 g4 ∧ St g4 [c4, [bx b3 #[.i6 0, .i6 0] 32], [bx b2 #[vnew_1] 24], [bx b1 #[vold_1] 24]] fr w ∧ OwnS g4 x3 v4 c4 ∧ changeforgeref2_Renames.j2 old_ new_ x3 = some r) ?_ ?_
    ·refine wp_seq ?_
     refine wp_region_lit ?_
     refine wE (ev_assign rfl) F S rfl fun a F=>?_
     refine wpList_nil ?_
     refine then_n ?_
     refine wp_block ?_
     obtain ⟨r2, hr7, hm⟩ := bind_some hm
     have hmo2 := hm; clear hm
     refine wp_iter (σ := Bool × (List Bool) × (List Int)) (ρ := (List Int)) (m := fun s => changeforgeref2_Renames.l2 old_ new_ percent s.1 s.2.1 s.2.2) (I := fun s a w => match s with | (x9, x10, x11) => ∃ (v12 v13 : Value) (c10 c11 : Hl) (g8 : Gh), Fr 161 a [(12, .bool x9), (10, v12), (9, v13), (7, bp b3 0), (4, bp b2 0), (3, bp b1 0), (2, .i6 percent)] ∧ Le g3 g8 ∧ St g8 [c10, c11, [bx b3 #[.i6 0, .i6 0] 32], [bx b2 #[vnew_1] 24], [bx b1 #[vold_1] 24]] fr w ∧ OwnS g8 x10 v12 c10 ∧ OwnS g8 x11 v13 c11) hr7 ?_ ?_
     ·dsimp only
      exact ⟨v2, v3, c2, c3, g3, F.sub ⟨rfl, rfl, rfl, rfl, rfl, rfl, rfl, trivial⟩, (Le.refl _), S, (h2.mono l3), h3⟩
     ·clear F S; rintro ⟨x9, x10, x11⟩ a w x12 ⟨v12, v13, c10, c11, g8, F, l8, S, h12, h13⟩ hx3 hfin2
      have hm : changeforgeref2_Renames.l2 old_ new_ percent x9 x10 x11 = some x12 := hx3; clear hx3
      unfold changeforgeref2_Renames.l2 at hm
      refine wp_seq ?_
      refine wp_seq ?_
      refine wp_region_lit ?_
      refine wE (ev_move rfl) F S rfl fun a F=>?_
      refine wpList_nil ?_
      refine then_n ?_
      obtain ⟨hc6, hm⟩ | ⟨hc6, hm⟩ := ite_or hm
      ·refine wp_condT F rfl hc6 ?_
       refine wp_skip ?_
       refine then_n ?_
       refine wp_cut1 (fun a w => ∃ (x13 : Bool) (x14 : List Bool) (x15 : List Int) (v14 v15 : Value) (c12 c13 : Hl) (g9 : Gh), Fr 161 a [(12, .bool x13), (10, v14), (9, v15), (7, bp b3 0), (4, bp b2 0), (3, bp b1 0), (2, .i6 percent)] ∧ Le g8 g9 ∧ St g9 [c12, c13, [bx b3 #[.i6 0, .i6 0] 32], [bx b2 #[vnew_1] 24], [bx b1 #[vold_1] 24]] fr w ∧ OwnS g9 x14 v14 c12 ∧ OwnS g9 x15 v15 c13 ∧ changeforgeref2_Renames.j5 x13 x14 x15 = some x12) ?_ ?_
       ·refine wp_block ?_
        refine wp_seq ?_
        refine wp_region_lit ?_
        refine wE (ev_assign rfl) F S rfl fun a F=>?_
        refine wpList_nil ?_
        refine then_n ?_
        refine wp_seq ?_
        refine wp_region_lit ?_
        refine wE (ev_assign rfl) F S rfl fun a F=>?_
        refine wpList_nil ?_
        refine then_n ?_
        refine wp_seq ?_
        refine wp_region_lit ?_
        refine wE (ev_assign rfl) F S rfl fun a F=>?_
        refine wpList_nil ?_
        refine then_n ?_
        refine wp_seq ?_
        refine wp_region_lit ?_
        refine wE (ev_move rfl) F S rfl fun a F=>?_
        obtain ⟨z2, hz2, hm⟩ := bind_some hm
        refine wE (ev_int rfl rfl (bo_sub hz2)) F S rfl fun a F=>?_
        refine wE (ev_assign rfl) F S rfl fun a F=>?_
        refine wpList_nil ?_
        refine then_n ?_
        refine wp_cut (fun a w => ∃ (x16 : Int) (x17 : Int) (x18 : Bool) (g10 : Gh), Fr 161 a [(14, .i6 x16), (13, .i6 x17), (12, .bool x18), (10, v12), (9, v13), (7, bp b3 0), (4, bp b2 0), (3, bp b1 0), (2, .i6 percent)] ∧ Le g8 g10 ∧ St g10 [c10, c11, [bx b3 #[.i6 0, .i6 0] 32], [bx b2 #[vnew_1] 24], [bx b1 #[vold_1] 24]] fr w ∧ changeforgeref2_Renames.j6 x10 x11 x16 x17 x18 = some x12) ?_ ?_
        ·refine wp_seq ?_
         refine wp_region_lit ?_
         refine wE (ev_assign rfl) F S rfl fun a F=>?_
         refine wpList_nil ?_
         refine then_n ?_
         refine wp_block ?_
         obtain ⟨r3, hr8, hm⟩ := bind_some hm
         have hmo3 := hm; clear hm
         refine wp_iter (σ := Int × Int × Int × Int × Bool) (ρ := Int × Int × Bool) (m := fun s => changeforgeref2_Renames.l3 old_ new_ x10 x11 s.1 s.2.1 s.2.2.1 s.2.2.2.1 s.2.2.2.2) (I := fun s a w => match s with | (x19, x20, x21, x22, x23) => ∃ (g11 : Gh), Fr 161 a [(16, .i6 x19), (15, .i6 x20), (14, .i6 x21), (13, .i6 x22), (12, .bool x23), (10, v12), (9, v13), (7, bp b3 0), (4, bp b2 0), (3, bp b1 0), (2, .i6 percent)] ∧ Le g8 g11 ∧ St g11 [c10, c11, [bx b3 #[.i6 0, .i6 0] 32], [bx b2 #[vnew_1] 24], [bx b1 #[vold_1] 24]] fr w) hr8 ?_ ?_
         ·dsimp only
          exact ⟨g8, F.sub ⟨rfl, rfl, rfl, rfl, rfl, rfl, rfl, rfl, rfl, rfl, rfl, trivial⟩, (Le.refl _), S⟩
         ·clear F S; rintro ⟨x19, x20, x21, x22, x23⟩ a w x24 ⟨g11, F, l11, S⟩ hx4 hfin3
          have hm : changeforgeref2_Renames.l3 old_ new_ x10 x11 x19 x20 x21 x22 x23 = some x24 := hx4; clear hx4
          unfold changeforgeref2_Renames.l3 at hm
          refine wp_seq ?_
          refine wp_seq ?_
          refine wp_region_lit ?_
          refine wE (ev_move rfl) F S rfl fun a F=>?_
          refine wE (ev_fieldAddr' tu24 tf24_0 (z := 0) ts22 rfl ⟨_, rfl⟩ rfl) F S rfl fun a F=>?_
          refine wE (ev_load1 tu22 rfl rfl (box_ptr (cells := [vold_1]) 4 rfl 0 rfl (lb rfl))) F S rfl fun a F=>?_
          refine wE (ev_lenSh hold_1 rfl tu22) F S rfl fun a F=>?_
          refine wE (ev_int rfl rfl (bo_lss _ _ _ _)) F S rfl fun a F=>?_
          refine wpList_nil ?_
          refine then_n ?_
          obtain ⟨hc8, hm⟩ | ⟨hc8, hm⟩ := ite_or hm
          ·refine wp_condT F rfl hc8 ?_
           refine wp_skip ?_
           refine then_n ?_
           refine wp_cut (fun a w => ∃ (x25 : Int) (x26 : Int) (x27 : Int) (x28 : Bool) (g12 : Gh), Fr 161 a [(16, .i6 x19), (15, .i6 x25), (14, .i6 x26), (13, .i6 x27), (12, .bool x28), (10, v12), (9, v13), (7, bp b3 0), (4, bp b2 0), (3, bp b1 0), (2, .i6 percent)] ∧ Le g11 g12 ∧ St g12 [c10, c11, [bx b3 #[.i6 0, .i6 0] 32], [bx b2 #[vnew_1] 24], [bx b1 #[vold_1] 24]] fr w ∧ changeforgeref2_Renames.j7 x19 x25 x26 x27 x28 = some x24) ?_ ?_
           ·refine wp_block ?_
            refine wp_seq ?_
            refine wp_region_lit ?_
            refine wE (ev_assign rfl) F S rfl fun a F=>?_
            refine wpList_nil ?_
            refine then_n ?_
            refine wp_cut1 (fun a w => ∃ (x29 : Int) (x30 : Int) (x31 : Int) (x32 : Bool) (g13 : Gh), Fr 161 a [(16, .i6 x19), (15, .i6 x29), (14, .i6 x30), (13, .i6 x31), (12, .bool x32), (10, v12), (9, v13), (7, bp b3 0), (4, bp b2 0), (3, bp b1 0), (2, .i6 percent)] ∧ Le g11 g13 ∧ St g13 [c10, c11, [bx b3 #[.i6 0, .i6 0] 32], [bx b2 #[vnew_1] 24], [bx b1 #[vold_1] 24]] fr w ∧ changeforgeref2_Renames.j8 x19 x29 x30 x31 x32 = some x24) ?_ ?_
            ·refine wp_block ?_
             obtain ⟨r4, hr9, hm⟩ := bind_some hm
             have hmo4 := hm; clear hm
             refine wp_iter (σ := Int × Int × Int × Int × Bool) (ρ := Int × Int × Int × Bool) (m := fun s => changeforgeref2_Renames.l4 old_ new_ x10 x11 x19 s.1 s.2.1 s.2.2.1 s.2.2.2.1 s.2.2.2.2) (I := fun s a w => match s with | (x33, x34, x35, x36, x37) => ∃ (g14 : Gh), Fr 161 a [(17, .i6 x33), (16, .i6 x19), (15, .i6 x34), (14, .i6 x35), (13, .i6 x36), (12, .bool x37), (10, v12), (9, v13), (7, bp b3 0), (4, bp b2 0), (3, bp b1 0), (2, .i6 percent)] ∧ Le g11 g14 ∧ St g14 [c10, c11, [bx b3 #[.i6 0, .i6 0] 32], [bx b2 #[vnew_1] 24], [bx b1 #[vold_1] 24]] fr w) hr9 ?_ ?_
             ·dsimp only
              exact ⟨g11, F.sub ⟨rfl, rfl, rfl, rfl, rfl, rfl, rfl, rfl, rfl, rfl, rfl, rfl, trivial⟩, (Le.refl _), S⟩
             ·clear F S; rintro ⟨x33, x34, x35, x36, x37⟩ a w x38 ⟨g14, F, l14, S⟩ hx5 hfin4
              have hm : changeforgeref2_Renames.l4 old_ new_ x10 x11 x19 x33 x34 x35 x36 x37 = some x38 := hx5; clear hx5
              unfold changeforgeref2_Renames.l4 at hm
              refine wp_seq ?_
              refine wp_seq ?_
              refine wp_region_lit ?_
              refine wE (ev_move rfl) F S rfl fun a F=>?_
              refine wE (ev_fieldAddr' tu24 tf24_0 (z := 0) ts22 rfl ⟨_, rfl⟩ rfl) F S rfl fun a F=>?_
              refine wE (ev_load1 tu22 rfl rfl (box_ptr (cells := [vnew_1]) 3 rfl 0 rfl (lb rfl))) F S rfl fun a F=>?_
              refine wE (ev_lenSh hnew_1 rfl tu22) F S rfl fun a F=>?_
              refine wE (ev_int rfl rfl (bo_lss _ _ _ _)) F S rfl fun a F=>?_
              refine wpList_nil ?_
              refine then_n ?_
              obtain ⟨hc9, hm⟩ | ⟨hc9, hm⟩ := ite_or hm
              ·refine wp_condT F rfl hc9 ?_
               refine wp_skip ?_
               refine then_n ?_
               refine wp_cut (fun a w => ∃ (x39 : Int) (x40 : Int) (x41 : Int) (x42 : Bool) (g15 : Gh), Fr 161 a [(17, .i6 x33), (16, .i6 x19), (15, .i6 x39), (14, .i6 x40), (13, .i6 x41), (12, .bool x42), (10, v12), (9, v13), (7, bp b3 0), (4, bp b2 0), (3, bp b1 0), (2, .i6 percent)] ∧ Le g14 g15 ∧ St g15 [c10, c11, [bx b3 #[.i6 0, .i6 0] 32], [bx b2 #[vnew_1] 24], [bx b1 #[vold_1] 24]] fr w ∧ changeforgeref2_Renames.j9 x33 x39 x40 x41 x42 = some x38) ?_ ?_
               ·refine wp_block ?_
                refine wp_seq ?_
                refine wp_seq ?_
                refine wp_quiet mo (by kernel_rfl) S ?_
                refine wq_ev (wn rfl) (ev_move rfl) F rfl rfl ?_; clear F a; intro a F
                refine wq_ev (wn rfl) (ev_move rfl) F rfl rfl ?_; clear F a; intro a F
                obtain ⟨y14, hy14, hm⟩ := bind_some hm
                refine wq_ev (wn rfl) (ev_idxO (h13.mono (l11.trans l14)) hy14 tu47 ts3 rfl rfl) F rfl rfl ?_; clear F a; intro a F
                obtain ⟨cs6, hr10, hq3⟩ := elemO (h13.mono (l11.trans l14)) hy14
                obtain rfl := rep_int hr10
                refine wq_ev (wn rfl) (ev_load1 tu3 rfl rfl (hq3 _ _ 1 rfl)) F rfl rfl ?_; clear F a; intro a F
                refine wq_ev (wn rfl) (ev_int rfl rfl (bo_geq _ _ _ _)) F rfl rfl ?_; clear F a; intro a F
                refine wq_ev (wn rfl) (ev_move rfl) F rfl rfl ?_; clear F a; intro a F
                obtain ⟨x43, hx6, hm⟩ := bind_some hm
                refine wq_cut 5 (fun a => Fr 161 a [(79, .bool x43), (17, .i6 x33), (16, .i6 x19), (15, .i6 x34), (14, .i6 x35), (13, .i6 x36), (12, .bool x37), (10, v12), (9, v13), (7, bp b3 0), (4, bp b2 0), (3, bp b1 0), (2, .i6 percent)]) ?_ ?_
                ·clear hm; obtain ⟨hc10, hm⟩ | ⟨hc10, hm⟩ := ite_or hx6
                 ·refine wq_skip rfl rfl rfl rfl (ne_ft hc10) F rfl rfl ?_; clear F a; intro a F
                  refine wq_skip rfl rfl rfl rfl (ne_ft hc10) F rfl rfl ?_; clear F a; intro a F
                  refine wq_skip rfl rfl rfl rfl (ne_ft hc10) F rfl rfl ?_; clear F a; intro a F
                  refine wq_skip rfl rfl rfl rfl (ne_ft hc10) F rfl rfl ?_; clear F a; intro a F
                  refine wq_ev (wn rfl) (ev_pickT rfl hc10 rfl) F rfl rfl ?_; clear F a; intro a F
                  obtain rfl := sinj hm
                  refine wq_nil ?_; exact F.sub ⟨rfl, rfl, rfl, rfl, rfl, rfl, rfl, rfl, rfl, rfl, rfl, rfl, rfl, trivial⟩
                 ·refine wq_ev (wg F rfl rfl rfl rfl hc10) (ev_move rfl) F rfl rfl ?_; clear F a; intro a F
                  refine wq_ev (wg F rfl rfl rfl rfl hc10) (ev_move rfl) F rfl rfl ?_; clear F a; intro a F
                  obtain ⟨y15, hy15, hm⟩ := bind_some hm
                  refine wq_ev (wg F rfl rfl rfl rfl hc10) (ev_idxO (h12.mono (l11.trans l14)) hy15 tu97 ts4 rfl rfl) F rfl rfl ?_; clear F a; intro a F
                  obtain ⟨cs7, hr11, hq4⟩ := elemO (h12.mono (l11.trans l14)) hy15
                  obtain rfl := rep_bool hr11
                  refine wq_ev (wg F rfl rfl rfl rfl hc10) (ev_load1 tu4 rfl rfl (hq4 _ _ 0 rfl)) F rfl rfl ?_; clear F a; intro a F
                  refine wq_ev (wn rfl) (ev_pickF rfl hc10 rfl) F rfl rfl ?_; clear F a; intro a F
                  obtain rfl := sinj hm
                  refine wq_nil ?_; exact F.sub ⟨rfl, rfl, rfl, rfl, rfl, rfl, rfl, rfl, rfl, rfl, rfl, rfl, rfl, trivial⟩
                clear F; intro a F
                refine wq_ev (wn rfl) (ev_move rfl) F rfl rfl ?_; clear F a; intro a F
                obtain ⟨x44, hx7, hm⟩ := bind_some hm
                refine wq_cut 10 (fun a => Fr 161 a [(90, .bool x44), (17, .i6 x33), (16, .i6 x19), (15, .i6 x34), (14, .i6 x35), (13, .i6 x36), (12, .bool x37), (10, v12), (9, v13), (7, bp b3 0), (4, bp b2 0), (3, bp b1 0), (2, .i6 percent)]) ?_ ?_
                ·clear hm; obtain ⟨hc11, hm⟩ | ⟨hc11, hm⟩ := ite_or hx7
                 ·refine wq_skip rfl rfl rfl rfl (ne_ft hc11) F rfl rfl ?_; clear F a; intro a F
                  refine wq_skip rfl rfl rfl rfl (ne_ft hc11) F rfl rfl ?_; clear F a; intro a F
                  refine wq_skip rfl rfl rfl rfl (ne_ft hc11) F rfl rfl ?_; clear F a; intro a F
                  refine wq_skip rfl rfl rfl rfl (ne_ft hc11) F rfl rfl ?_; clear F a; intro a F
                  refine wq_skip rfl rfl rfl rfl (ne_ft hc11) F rfl rfl ?_; clear F a; intro a F
                  refine wq_skip rfl rfl rfl rfl (ne_ft hc11) F rfl rfl ?_; clear F a; intro a F
                  refine wq_skip rfl rfl rfl rfl (ne_ft hc11) F rfl rfl ?_; clear F a; intro a F
                  refine wq_skip rfl rfl rfl rfl (ne_ft hc11) F rfl rfl ?_; clear F a; intro a F
                  refine wq_skip rfl rfl rfl rfl (ne_ft hc11) F rfl rfl ?_; clear F a; intro a F
                  refine wq_ev (wn rfl) (ev_pickT rfl hc11 rfl) F rfl rfl ?_; clear F a; intro a F
                  obtain rfl := sinj hm
                  refine wq_nil ?_; exact F.sub ⟨rfl, rfl, rfl, rfl, rfl, rfl, rfl, rfl, rfl, rfl, rfl, rfl, rfl, trivial⟩
                 ·refine wq_ev (wg F rfl rfl rfl rfl hc11) (ev_loadA tu24 rfl (cs := [vnew_1]) ts24 rfl (box_ptr (cells := [vnew_1]) 3 rfl 0 rfl (lb rfl))) F rfl rfl ?_; clear F a; intro a F
                  refine wq_ev (wg F rfl rfl rfl rfl hc11) (ev_fieldAddr' tu24 tf24_0 (z := 0) ts22 rfl ⟨_, rfl⟩ rfl) F rfl rfl ?_; clear F a; intro a F
                  refine wq_ev (wg F rfl rfl rfl rfl hc11) (ev_load1 tu22 rfl rfl (box_ptr (cells := [vold_1]) 4 rfl 0 rfl (lb rfl))) F rfl rfl ?_; clear F a; intro a F
                  refine wq_ev (wg F rfl rfl rfl rfl hc11) (ev_move rfl) F rfl rfl ?_; clear F a; intro a F
                  obtain ⟨y16, hy16, hm⟩ := bind_some hm
                  obtain ⟨cs8, hr12, hp5⟩ := elemS (hold_1.mono ((((l1.trans l3).trans l8).trans l11).trans l14)) hy16
                  obtain ⟨v16, rfl, h18⟩ := rep_File hr12
                  refine wq_ev (wg F rfl rfl rfl rfl hc11) (ev_idxS (hold_1.mono ((((l1.trans l3).trans l8).trans l11).trans l14)) hy16 tu22 ts70 rfl rfl) F rfl rfl ?_; clear F a; intro a F
                  have hp6 := PtrC.field hp5 0 1 (lb rfl)
                  have hp6 : PtrC g14 (addP (elemP vold_1 x19 2) 0) [.string y16.Path] := hp6
                  refine wq_ev (wg F rfl rfl rfl rfl hc11) (ev_fieldAddr' tu70 tf70_0 (z := 0) ts9 rfl hp5.ptr rfl) F rfl rfl ?_; clear F a; intro a F
                  refine wq_ev (wg F rfl rfl rfl rfl hc11) (ev_load1 tu9 rfl rfl (ptr_mono (cks := [c10, c11, [bx b3 #[.i6 0, .i6 0] 32], [bx b2 #[vnew_1] 24], [bx b1 #[vold_1] 24]]) (fr := fr) hp6 (Le.refl _))) F rfl rfl ?_; clear F a; intro a F
                  obtain ⟨y17, hy17, hm⟩ := bind_some hm
                  refine wq_call (wg F rfl rfl rfl rfl hc11) rfl (xs := [.tmp 81, .tmp 87]) (vs := [.agg #[vnew_1], .string y16.Path]) (cap := []) F rfl rfl tc48 (v := .i6 y17) (fun w S => (changeforgeref2_FileAt_ok (g := g14) (fr := (fl [c10, c11, [bx b3 #[.i6 0, .i6 0] 32], [bx b2 #[vnew_1] 24], [bx b1 #[vold_1] 24]] fr)) (w := w) new_ vnew_1 (hnew_1.mono ((((l1.trans l3).trans l8).trans l11).trans l14)) y16.Path S hy17).mono (by rintro en w' ⟨_, rfl, g2, l2, S2, rfl⟩; exact ⟨rfl, S2.weak l2⟩)) rfl rfl ?_; clear F a; intro a F
                  refine wq_ev (wg F rfl rfl rfl rfl hc11) (ev_int rfl rfl (bo_geq _ _ _ _)) F rfl rfl ?_; clear F a; intro a F
                  refine wq_ev (wn rfl) (ev_pickF rfl hc11 rfl) F rfl rfl ?_; clear F a; intro a F
                  obtain rfl := sinj hm
                  refine wq_nil ?_; exact F.sub ⟨rfl, rfl, rfl, rfl, rfl, rfl, rfl, rfl, rfl, rfl, rfl, rfl, rfl, trivial⟩
                clear F; intro a F
                refine wq_ev (wn rfl) (ev_move rfl) F rfl rfl ?_; clear F a; intro a F
                obtain ⟨x45, hx8, hm⟩ := bind_some hm
                refine wq_cut 10 (fun a => Fr 161 a [(101, .bool x45), (17, .i6 x33), (16, .i6 x19), (15, .i6 x34), (14, .i6 x35), (13, .i6 x36), (12, .bool x37), (10, v12), (9, v13), (7, bp b3 0), (4, bp b2 0), (3, bp b1 0), (2, .i6 percent)]) ?_ ?_
                ·clear hm; obtain ⟨hc12, hm⟩ | ⟨hc12, hm⟩ := ite_or hx8
                 ·refine wq_skip rfl rfl rfl rfl (ne_ft hc12) F rfl rfl ?_; clear F a; intro a F
                  refine wq_skip rfl rfl rfl rfl (ne_ft hc12) F rfl rfl ?_; clear F a; intro a F
                  refine wq_skip rfl rfl rfl rfl (ne_ft hc12) F rfl rfl ?_; clear F a; intro a F
                  refine wq_skip rfl rfl rfl rfl (ne_ft hc12) F rfl rfl ?_; clear F a; intro a F
                  refine wq_skip rfl rfl rfl rfl (ne_ft hc12) F rfl rfl ?_; clear F a; intro a F
                  refine wq_skip rfl rfl rfl rfl (ne_ft hc12) F rfl rfl ?_; clear F a; intro a F
                  refine wq_skip rfl rfl rfl rfl (ne_ft hc12) F rfl rfl ?_; clear F a; intro a F
                  refine wq_skip rfl rfl rfl rfl (ne_ft hc12) F rfl rfl ?_; clear F a; intro a F
                  refine wq_skip rfl rfl rfl rfl (ne_ft hc12) F rfl rfl ?_; clear F a; intro a F
                  refine wq_ev (wn rfl) (ev_pickT rfl hc12 rfl) F rfl rfl ?_; clear F a; intro a F
                  obtain rfl := sinj hm
                  refine wq_nil ?_; exact F.sub ⟨rfl, rfl, rfl, rfl, rfl, rfl, rfl, rfl, rfl, rfl, rfl, rfl, rfl, trivial⟩
                 ·refine wq_ev (wg F rfl rfl rfl rfl hc12) (ev_loadA tu24 rfl (cs := [vold_1]) ts24 rfl (box_ptr (cells := [vold_1]) 4 rfl 0 rfl (lb rfl))) F rfl rfl ?_; clear F a; intro a F
                  refine wq_ev (wg F rfl rfl rfl rfl hc12) (ev_fieldAddr' tu24 tf24_0 (z := 0) ts22 rfl ⟨_, rfl⟩ rfl) F rfl rfl ?_; clear F a; intro a F
                  refine wq_ev (wg F rfl rfl rfl rfl hc12) (ev_load1 tu22 rfl rfl (box_ptr (cells := [vnew_1]) 3 rfl 0 rfl (lb rfl))) F rfl rfl ?_; clear F a; intro a F
                  refine wq_ev (wg F rfl rfl rfl rfl hc12) (ev_move rfl) F rfl rfl ?_; clear F a; intro a F
                  obtain ⟨y18, hy18, hm⟩ := bind_some hm
                  obtain ⟨cs9, hr13, hp7⟩ := elemS (hnew_1.mono ((((l1.trans l3).trans l8).trans l11).trans l14)) hy18
                  obtain ⟨v17, rfl, h19⟩ := rep_File hr13
                  refine wq_ev (wg F rfl rfl rfl rfl hc12) (ev_idxS (hnew_1.mono ((((l1.trans l3).trans l8).trans l11).trans l14)) hy18 tu22 ts70 rfl rfl) F rfl rfl ?_; clear F a; intro a F
                  have hp8 := PtrC.field hp7 0 1 (lb rfl)
                  have hp8 : PtrC g14 (addP (elemP vnew_1 x33 2) 0) [.string y18.Path] := hp8
                  refine wq_ev (wg F rfl rfl rfl rfl hc12) (ev_fieldAddr' tu70 tf70_0 (z := 0) ts9 rfl hp7.ptr rfl) F rfl rfl ?_; clear F a; intro a F
                  refine wq_ev (wg F rfl rfl rfl rfl hc12) (ev_load1 tu9 rfl rfl (ptr_mono (cks := [c10, c11, [bx b3 #[.i6 0, .i6 0] 32], [bx b2 #[vnew_1] 24], [bx b1 #[vold_1] 24]]) (fr := fr) hp8 (Le.refl _))) F rfl rfl ?_; clear F a; intro a F
                  obtain ⟨y19, hy19, hm⟩ := bind_some hm
                  refine wq_call (wg F rfl rfl rfl rfl hc12) rfl (xs := [.tmp 92, .tmp 98]) (vs := [.agg #[vold_1], .string y18.Path]) (cap := []) F rfl rfl tc48 (v := .i6 y19) (fun w S => (changeforgeref2_FileAt_ok (g := g14) (fr := (fl [c10, c11, [bx b3 #[.i6 0, .i6 0] 32], [bx b2 #[vnew_1] 24], [bx b1 #[vold_1] 24]] fr)) (w := w) old_ vold_1 (hold_1.mono ((((l1.trans l3).trans l8).trans l11).trans l14)) y18.Path S hy19).mono (by rintro en w' ⟨_, rfl, g2, l2, S2, rfl⟩; exact ⟨rfl, S2.weak l2⟩)) rfl rfl ?_; clear F a; intro a F
                  refine wq_ev (wg F rfl rfl rfl rfl hc12) (ev_int rfl rfl (bo_geq _ _ _ _)) F rfl rfl ?_; clear F a; intro a F
                  refine wq_ev (wn rfl) (ev_pickF rfl hc12 rfl) F rfl rfl ?_; clear F a; intro a F
                  obtain rfl := sinj hm
                  refine wq_nil ?_; exact F.sub ⟨rfl, rfl, rfl, rfl, rfl, rfl, rfl, rfl, rfl, rfl, rfl, rfl, rfl, trivial⟩
                clear F; intro a F
                refine wq_nil ?_; clear S; intro w S
                refine then_n ?_
                obtain ⟨hc13, hm⟩ | ⟨hc13, hm⟩ := ite_or hm
                ·refine wp_condT F rfl hc13 ?_
                 refine wp_exit ?_
                 refine then_e ?_
                 refine inb_x ?_
                 refine then_n ?_
                 exact ⟨x34, x35, x36, x37, g14, F.sub ⟨rfl, rfl, rfl, rfl, rfl, rfl, rfl, rfl, rfl, rfl, rfl, rfl, trivial⟩, (Le.refl _), S, hm⟩
                ·refine wp_condF F rfl hc13 ?_
                 refine wp_skip ?_
                 refine then_n ?_
                 refine wp_seq ?_
                 refine wp_quiet mo (by kernel_rfl) S ?_
                 refine wq_ev (wn rfl) (ev_fieldAddr' tu24 tf24_0 (z := 0) ts22 rfl ⟨_, rfl⟩ rfl) F rfl rfl ?_; clear F a; intro a F
                 refine wq_ev (wn rfl) (ev_load1 tu22 rfl rfl (box_ptr (cells := [vold_1]) 4 rfl 0 rfl (lb rfl))) F rfl rfl ?_; clear F a; intro a F
                 refine wq_ev (wn rfl) (ev_move rfl) F rfl rfl ?_; clear F a; intro a F
                 obtain ⟨y20, hy20, hm⟩ := bind_some hm
                 obtain ⟨cs10, hr14, hp9⟩ := elemS (hold_1.mono ((((l1.trans l3).trans l8).trans l11).trans l14)) hy20
                 obtain ⟨v18, rfl, h20⟩ := rep_File hr14
                 refine wq_ev (wn rfl) (ev_idxS (hold_1.mono ((((l1.trans l3).trans l8).trans l11).trans l14)) hy20 tu22 ts70 rfl rfl) F rfl rfl ?_; clear F a; intro a F
                 have hp10 := PtrC.field hp9 1 1 (lb rfl)
                 have hp10 : PtrC g14 (addP (elemP vold_1 x19 2) 1) [v18] := hp10
                 refine wq_ev (wn rfl) (ev_fieldAddr' tu70 tf70_1 (z := 0) ts28 rfl hp9.ptr rfl) F rfl rfl ?_; clear F a; intro a F
                 refine wq_ev (wn rfl) (ev_load1 tu28 rfl rfl (ptr_mono (cks := [c10, c11, [bx b3 #[.i6 0, .i6 0] 32], [bx b2 #[vnew_1] 24], [bx b1 #[vold_1] 24]]) (fr := fr) hp10 (Le.refl _))) F rfl rfl ?_; clear F a; intro a F
                 refine wq_ev (wn rfl) (ev_fieldAddr' tu24 tf24_0 (z := 0) ts22 rfl ⟨_, rfl⟩ rfl) F rfl rfl ?_; clear F a; intro a F
                 refine wq_ev (wn rfl) (ev_load1 tu22 rfl rfl (box_ptr (cells := [vnew_1]) 3 rfl 0 rfl (lb rfl))) F rfl rfl ?_; clear F a; intro a F
                 refine wq_ev (wn rfl) (ev_move rfl) F rfl rfl ?_; clear F a; intro a F
                 obtain ⟨y21, hy21, hm⟩ := bind_some hm
                 obtain ⟨cs11, hr15, hp11⟩ := elemS (hnew_1.mono ((((l1.trans l3).trans l8).trans l11).trans l14)) hy21
                 obtain ⟨v19, rfl, h21⟩ := rep_File hr15
                 refine wq_ev (wn rfl) (ev_idxS (hnew_1.mono ((((l1.trans l3).trans l8).trans l11).trans l14)) hy21 tu22 ts70 rfl rfl) F rfl rfl ?_; clear F a; intro a F
                 have hp12 := PtrC.field hp11 1 1 (lb rfl)
                 have hp12 : PtrC g14 (addP (elemP vnew_1 x33 2) 1) [v19] := hp12
                 refine wq_ev (wn rfl) (ev_fieldAddr' tu70 tf70_1 (z := 0) ts28 rfl hp11.ptr rfl) F rfl rfl ?_; clear F a; intro a F
                 refine wq_ev (wn rfl) (ev_load1 tu28 rfl rfl (ptr_mono (cks := [c10, c11, [bx b3 #[.i6 0, .i6 0] 32], [bx b2 #[vnew_1] 24], [bx b1 #[vold_1] 24]]) (fr := fr) hp12 (Le.refl _))) F rfl rfl ?_; clear F a; intro a F
                 obtain ⟨y22, hy22, hm⟩ := bind_some hm
                 refine wq_call (wn rfl) rfl (xs := [.tmp 107, .tmp 113]) (vs := [v18, v19]) (cap := []) F rfl rfl tc19 (v := .i6 y22) (fun w S => (changeforgeref2_Percent_ok (g := g14) (fr := (fl [c10, c11, [bx b3 #[.i6 0, .i6 0] 32], [bx b2 #[vnew_1] 24], [bx b1 #[vold_1] 24]] fr)) (w := w) y20.Lines v18 h20 y21.Lines v19 h21 S hy22).mono (by rintro en w' ⟨_, rfl, g2, l2, S2, rfl⟩; exact ⟨rfl, S2.weak l2⟩)) rfl rfl ?_; clear F a; intro a F
                 refine wq_ev (wn rfl) (ev_assign rfl) F rfl rfl ?_; clear F a; intro a F
                 refine wq_nil ?_; clear S; intro w S
                 refine then_n ?_
                 refine wp_seq ?_
                 refine wp_region_lit ?_
                 refine wE (ev_move rfl) F S rfl fun a F=>?_
                 refine wE (ev_move rfl) F S rfl fun a F=>?_
                 refine wE (ev_int rfl rfl (bo_gtr _ _ _ _)) F S rfl fun a F=>?_
                 refine wpList_nil ?_
                 refine then_n ?_
                 obtain ⟨hc14, hm⟩ | ⟨hc14, hm⟩ := ite_or hm
                 ·refine wp_condT F rfl hc14 ?_
                  refine wp_seq ?_
                  refine wp_region_lit ?_
                  refine wE (ev_move rfl) F S rfl fun a F=>?_
                  refine wE (ev_assign rfl) F S rfl fun a F=>?_
                  refine wpList_nil ?_
                  refine then_n ?_
                  refine wp_seq ?_
                  refine wp_region_lit ?_
                  refine wE (ev_move rfl) F S rfl fun a F=>?_
                  refine wE (ev_assign rfl) F S rfl fun a F=>?_
                  refine wpList_nil ?_
                  refine then_n ?_
                  refine wp_seq ?_
                  refine wp_region_lit ?_
                  refine wE (ev_move rfl) F S rfl fun a F=>?_
                  refine wE (ev_assign rfl) F S rfl fun a F=>?_
                  refine wpList_nil ?_
                  refine then_n ?_
                  refine wp_region_lit ?_
                  refine wE (ev_assign rfl) F S rfl fun a F=>?_
                  refine wpList_nil ?_
                  refine inb_n ?_
                  refine then_n ?_
                  exact ⟨y22, x33, x19, true, g14, F.sub ⟨rfl, rfl, rfl, rfl, rfl, rfl, rfl, rfl, rfl, rfl, rfl, rfl, trivial⟩, (Le.refl _), S, hm⟩
                 ·refine wp_condF F rfl hc14 ?_
                  refine wp_skip ?_
                  refine inb_n ?_
                  refine then_n ?_
                  exact ⟨x34, x35, x36, x37, g14, F.sub ⟨rfl, rfl, rfl, rfl, rfl, rfl, rfl, rfl, rfl, rfl, rfl, rfl, trivial⟩, (Le.refl _), S, hm⟩
               ·clear F S hm; rintro a w ⟨x39, x40, x41, x42, g15, F, l15, S, hm⟩
                refine wp_region_lit ?_
                refine wE (ev_move rfl) F S rfl fun a F=>?_
                obtain ⟨z4, hz4, hm⟩ := bind_some hm
                refine wE (ev_int rfl rfl (bo_add hz4)) F S rfl fun a F=>?_
                refine wE (ev_assign rfl) F S rfl fun a F=>?_
                refine wpList_nil ?_
                refine then_n ?_
                obtain rfl := sinj hm
                refine ⟨_, rfl, ?_⟩
                dsimp only
                exact ⟨g15, F.sub ⟨rfl, rfl, rfl, rfl, rfl, rfl, rfl, rfl, rfl, rfl, rfl, rfl, trivial⟩, (l14.trans l15), S⟩
              ·refine wp_condF F rfl hc9 ?_
               refine wp_exit ?_
               refine then_e ?_
               refine then_e ?_
               refine inb_x ?_
               refine then_n ?_
               obtain rfl := sinj hm
               obtain rfl := hfin4 _ rfl
               clear hm
               have hm : (changeforgeref2_Renames.j8 x19 x34 x35 x36 x37 : Option (Step (Int × Int × Int × Int × Bool) (Int × Int × Bool))) = some _ := hmo4
               exact ⟨x34, x35, x36, x37, g14, F.sub ⟨rfl, rfl, rfl, rfl, rfl, rfl, rfl, rfl, rfl, rfl, rfl, trivial⟩, l14, S, hm⟩
            ·clear F S hm; rintro a w ⟨x29, x30, x31, x32, g13, F, l13, S, hm⟩
             refine inb_n ?_
             refine then_n ?_
             exact ⟨x29, x30, x31, x32, g13, F.sub ⟨rfl, rfl, rfl, rfl, rfl, rfl, rfl, rfl, rfl, rfl, rfl, trivial⟩, l13, S, hm⟩
           ·clear F S hm; rintro a w ⟨x25, x26, x27, x28, g12, F, l12, S, hm⟩
            refine wp_region_lit ?_
            refine wE (ev_move rfl) F S rfl fun a F=>?_
            obtain ⟨z3, hz3, hm⟩ := bind_some hm
            refine wE (ev_int rfl rfl (bo_add hz3)) F S rfl fun a F=>?_
            refine wE (ev_assign rfl) F S rfl fun a F=>?_
            refine wpList_nil ?_
            refine then_n ?_
            obtain rfl := sinj hm
            refine ⟨_, rfl, ?_⟩
            dsimp only
            exact ⟨g12, F.sub ⟨rfl, rfl, rfl, rfl, rfl, rfl, rfl, rfl, rfl, rfl, rfl, trivial⟩, (l11.trans l12), S⟩
          ·refine wp_condF F rfl hc8 ?_
           refine wp_exit ?_
           refine then_e ?_
           refine then_e ?_
           refine inb_x ?_
           refine then_n ?_
           obtain rfl := sinj hm
           obtain rfl := hfin3 _ rfl
           clear hm
           have hm : (changeforgeref2_Renames.j6 x10 x11 x21 x22 x23 : Option (Step (Bool × (List Bool) × (List Int)) (List Int))) = some _ := hmo3
           exact ⟨x21, x22, x23, g11, F.sub ⟨rfl, rfl, rfl, rfl, rfl, rfl, rfl, rfl, rfl, trivial⟩, l11, S, hm⟩
        ·clear F S hm; rintro a w ⟨x16, x17, x18, g10, F, l10, S, hm⟩
         refine wp_seq ?_
         refine wp_region_lit ?_
         refine wE (ev_move rfl) F S rfl fun a F=>?_
         refine wpList_nil ?_
         refine then_n ?_
         obtain ⟨hc7, hm⟩ | ⟨hc7, hm⟩ := ite_or hm
         ·refine wp_condT F rfl hc7 ?_
          refine wp_seq ?_
          refine wp_region_lit ?_
          refine wE (ev_move rfl) F S rfl fun a F=>?_
          refine wE (ev_move rfl) F S rfl fun a F=>?_
          refine wE (ev_move rfl) F S rfl fun a F=>?_
          obtain ⟨y10, hy10, hm⟩ := bind_some hm
          refine wE (ev_idxO (h13.mono l10) hy10 tu47 ts3 rfl rfl) F S rfl fun a F=>?_
          obtain ⟨y11, hy11, hm⟩ := bind_some hm
          refine wl_storeW (z' := x16) (wn rfl) rfl F S (h13.mono l10) hy10 rfl rfl (us := [.i6 x16]) rfl ts3 (one_cons rfl one_nil) (k := 1) rfl rfl (show Rep.rep _ x16 _ from rfl) rfl ?_; clear S
          rintro c14 w h16 S; replace S : St g10 [c10, c14, [bx b3 #[.i6 0, .i6 0] 32], [bx b2 #[vnew_1] 24], [bx b1 #[vold_1] 24]] fr w := S; replace h16 : OwnS g10 y11 v13 c14 := sinj hy11 ▸ h16
          refine wpList_nil ?_
          refine then_n ?_
          refine wp_region_lit ?_
          refine wE (ev_move rfl) F S rfl fun a F=>?_
          refine wE (ev_move rfl) F S rfl fun a F=>?_
          obtain ⟨y12, hy12, hm⟩ := bind_some hm
          refine wE (ev_idxO (h12.mono l10) hy12 tu97 ts4 rfl rfl) F S rfl fun a F=>?_
          obtain ⟨y13, hy13, hm⟩ := bind_some hm
          refine wl_storeW (z' := true) (wn rfl) rfl F S (h12.mono l10) hy12 rfl rfl (us := [.bool true]) rfl ts4 (one_cons rfl one_nil) (k := 0) rfl rfl (show Rep.rep _ true _ from rfl) rfl ?_; clear S
          rintro c15 w h17 S; replace S : St g10 [c15, c14, [bx b3 #[.i6 0, .i6 0] 32], [bx b2 #[vnew_1] 24], [bx b1 #[vold_1] 24]] fr w := S; replace h17 : OwnS g10 y13 v12 c15 := sinj hy13 ▸ h17
          refine wpList_nil ?_
          refine inb_n ?_
          refine then_n ?_
          exact ⟨x18, y13, y11, v12, v13, c15, c14, g10, F.sub ⟨rfl, rfl, rfl, rfl, rfl, rfl, rfl, trivial⟩, l10, S, h17, h16, hm⟩
         ·refine wp_condF F rfl hc7 ?_
          refine wp_skip ?_
          refine inb_n ?_
          refine then_n ?_
          exact ⟨x18, x10, x11, v12, v13, c10, c11, g10, F.sub ⟨rfl, rfl, rfl, rfl, rfl, rfl, rfl, trivial⟩, l10, S, (h12.mono l10), (h13.mono l10), hm⟩
       ·clear F S hm; rintro a w ⟨x13, x14, x15, v14, v15, c12, c13, g9, F, l9, S, h14, h15, hm⟩
        refine then_n ?_
        obtain rfl := sinj hm
        refine ⟨_, rfl, ?_⟩
        dsimp only
        exact ⟨v14, v15, c12, c13, g9, F.sub ⟨rfl, rfl, rfl, rfl, rfl, rfl, rfl, trivial⟩, (l8.trans l9), S, h14, h15⟩
      ·refine wp_condF F rfl hc6 ?_
       refine wp_exit ?_
       refine then_e ?_
       refine then_e ?_
       refine inb_x ?_
       refine then_n ?_
       obtain rfl := sinj hm
       obtain rfl := hfin2 _ rfl
       clear hm
       have hm : (changeforgeref2_Renames.j2 old_ new_ x11 : Option ((List Arr2_ByteArray) × Fault)) = some _ := hmo2
       replace S : St g8 [c11, [bx b3 #[.i6 0, .i6 0] 32], [bx b2 #[vnew_1] 24], [bx b1 #[vold_1] 24]] fr w := St.tail [c11, [bx b3 #[.i6 0, .i6 0] 32], [bx b2 #[vnew_1] 24], [bx b1 #[vold_1] 24]] _ ((((S.frontC 4 rfl).frontC 4 rfl).frontC 4 rfl).frontC 4 rfl)
       exact ⟨x11, v13, c11, g8, F.sub ⟨rfl, rfl, rfl, rfl, trivial⟩, l8, S, h13, hm⟩
    ·clear F S hm; rintro a w ⟨x3, v4, c4, g4, F, l4, S, h4, hm⟩
     refine wp_seq ?_
     refine wp_region_lit ?_
     refine wE (ev_assign rfl) F S rfl fun a F=>?_
     refine wpList_nil ?_
     refine then_n ?_
     refine wp_cut (fun a w => ∃ (x4 : List Arr2_ByteArray) (v5 : Value) (c5 : Hl) (g5 : Gh), Fr 161 a [(19, v5), (7, bp b3 0)] ∧ Le g4 g5 ∧ St g5 [c5, [bx b3 #[.i6 0, .i6 0] 32]] fr w ∧ OwnS g5 x4 v5 c5 ∧ changeforgeref2_Renames.j3 x4 = some r) ?_ ?_
     ·refine wp_seq ?_
      refine wp_region_lit ?_
      refine wE (ev_assign rfl) F S rfl fun a F=>?_
      refine wpList_nil ?_
      refine then_n ?_
      refine wp_block ?_
      obtain ⟨r1, hr1, hm⟩ := bind_some hm
      have hmo1 := hm; clear hm
      refine wp_iter (σ := Int × (List Arr2_ByteArray)) (ρ := (List Arr2_ByteArray)) (m := fun s => changeforgeref2_Renames.l1 old_ new_ x3 s.1 s.2) (I := fun s a w => match s with | (x5, x6) => ∃ (v6 : Value) (c6 : Hl) (g6 : Gh), Fr 161 a [(20, .i6 x5), (19, v6), (9, v4), (7, bp b3 0), (4, bp b2 0), (3, bp b1 0)] ∧ Le g4 g6 ∧ St g6 [c6, c4, [bx b3 #[.i6 0, .i6 0] 32], [bx b2 #[vnew_1] 24], [bx b1 #[vold_1] 24]] fr w ∧ OwnS g6 x6 v6 c6) hr1 ?_ ?_
      ·dsimp only
       replace S : St g4 [[], c4, [bx b3 #[.i6 0, .i6 0] 32], [bx b2 #[vnew_1] 24], [bx b1 #[vold_1] 24]] fr w := S
       exact ⟨(nilS), [], g4, F.sub ⟨rfl, rfl, rfl, rfl, rfl, rfl, trivial⟩, (Le.refl _), S, (OwnS.nil _)⟩
      ·clear F S; rintro ⟨x5, x6⟩ a w x7 ⟨v6, c6, g6, F, l6, S, h6⟩ hx2 hfin1
       have hm : changeforgeref2_Renames.l1 old_ new_ x3 x5 x6 = some x7 := hx2; clear hx2
       unfold changeforgeref2_Renames.l1 at hm
       refine wp_seq ?_
       refine wp_seq ?_
       refine wp_region_lit ?_
       refine wE (ev_move rfl) F S rfl fun a F=>?_
       refine wE (ev_move rfl) F S rfl fun a F=>?_
       refine wE (ev_lenOw h4 rfl tu47) F S rfl fun a F=>?_
       refine wE (ev_int rfl rfl (bo_lss _ _ _ _)) F S rfl fun a F=>?_
       refine wpList_nil ?_
       refine then_n ?_
       obtain ⟨hc4, hm⟩ | ⟨hc4, hm⟩ := ite_or hm
       ·refine wp_condT F rfl hc4 ?_
        refine wp_skip ?_
        refine then_n ?_
        refine wp_cut (fun a w => ∃ (x8 : List Arr2_ByteArray) (v7 : Value) (c7 : Hl) (g7 : Gh), Fr 161 a [(19, v7), (20, .i6 x5), (9, v4), (7, bp b3 0), (4, bp b2 0), (3, bp b1 0)] ∧ Le g6 g7 ∧ St g7 [c7, c4, [bx b3 #[.i6 0, .i6 0] 32], [bx b2 #[vnew_1] 24], [bx b1 #[vold_1] 24]] fr w ∧ OwnS g7 x8 v7 c7 ∧ changeforgeref2_Renames.j4 x5 x8 = some x7) ?_ ?_
        ·refine wp_block ?_
         refine wp_seq ?_
         refine wp_region_lit ?_
         refine wE (ev_move rfl) F S rfl fun a F=>?_
         refine wE (ev_move rfl) F S rfl fun a F=>?_
         obtain ⟨y5, hy5, hm⟩ := bind_some hm
         refine wE (ev_idxO (h4.mono l6) hy5 tu47 ts3 rfl rfl) F S rfl fun a F=>?_
         obtain ⟨cs1, hr2, hq1⟩ := elemO (h4.mono l6) hy5
         obtain rfl := rep_int hr2
         refine wE (ev_load1 tu3 rfl rfl (hq1 _ _ 1 rfl)) F S rfl fun a F=>?_
         refine wE (ev_int rfl rfl (bo_geq _ _ _ _)) F S rfl fun a F=>?_
         refine wpList_nil ?_
         refine then_n ?_
         obtain ⟨hc5, hm⟩ | ⟨hc5, hm⟩ := ite_or hm
         ·refine wp_condT F rfl hc5 ?_
          refine wp_dv [19] mo S ?_; clear S; intro ok2 w S
          refine dv_et ok2 0 rfl (ev_move rfl) F rfl fun a F=>?_
          refine dv_et ok2 1 rfl (ev_fieldAddr' tu24 tf24_0 (z := 0) ts22 rfl ⟨_, rfl⟩ rfl) F rfl fun a F=>?_
          refine dv_ev ok2 2 rfl (ev_load1 tu22 rfl rfl (box_ptr (cells := [vold_1]) 4 rfl 0 rfl (lb rfl))) F S rfl fun a F=>?_
          refine dv_et ok2 3 rfl (ev_move rfl) F rfl fun a F=>?_
          obtain ⟨y6, hy6, hm⟩ := bind_some hm
          obtain ⟨cs2, hr3, hp1⟩ := elemS (hold_1.mono (((l1.trans l3).trans l4).trans l6)) hy6
          obtain ⟨v8, rfl, h8⟩ := rep_File hr3
          refine dv_et ok2 4 rfl (ev_idxS (hold_1.mono (((l1.trans l3).trans l4).trans l6)) hy6 tu22 ts70 rfl rfl) F rfl fun a F=>?_
          have hp2 := PtrC.field hp1 0 1 (lb rfl)
          have hp2 : PtrC g6 (addP (elemP vold_1 x5 2) 0) [.string y6.Path] := hp2
          refine dv_et ok2 5 rfl (ev_fieldAddr' tu70 tf70_0 (z := 0) ts9 rfl hp1.ptr rfl) F rfl fun a F=>?_
          refine dv_ev ok2 6 rfl (ev_load1 tu9 rfl rfl (ptr_mono (cks := [c6, c4, [bx b3 #[.i6 0, .i6 0] 32], [bx b2 #[vnew_1] 24], [bx b1 #[vold_1] 24]]) (fr := fr) hp2 (Le.refl _))) F S rfl fun a F=>?_
          refine dv_et ok2 7 rfl (ev_fieldAddr' tu24 tf24_0 (z := 0) ts22 rfl ⟨_, rfl⟩ rfl) F rfl fun a F=>?_
          refine dv_ev ok2 8 rfl (ev_load1 tu22 rfl rfl (box_ptr (cells := [vnew_1]) 3 rfl 0 rfl (lb rfl))) F S rfl fun a F=>?_
          refine dv_et ok2 9 rfl (ev_move rfl) F rfl fun a F=>?_
          refine dv_et ok2 10 rfl (ev_move rfl) F rfl fun a F=>?_
          obtain ⟨y7, hy7, hm⟩ := bind_some hm
          refine dv_et ok2 11 rfl (ev_idxO (h4.mono l6) hy7 tu47 ts3 rfl rfl) F rfl fun a F=>?_
          obtain ⟨cs3, hr4, hq2⟩ := elemO (h4.mono l6) hy7
          obtain rfl := rep_int hr4
          refine dv_ev ok2 12 rfl (ev_load1 tu3 rfl rfl (hq2 _ _ 1 rfl)) F S rfl fun a F=>?_
          obtain ⟨y8, hy8, hm⟩ := bind_some hm
          obtain ⟨cs4, hr5, hp3⟩ := elemS (hnew_1.mono (((l1.trans l3).trans l4).trans l6)) hy8
          obtain ⟨v9, rfl, h9⟩ := rep_File hr5
          refine dv_et ok2 13 rfl (ev_idxS (hnew_1.mono (((l1.trans l3).trans l4).trans l6)) hy8 tu22 ts70 rfl rfl) F rfl fun a F=>?_
          have hp4 := PtrC.field hp3 0 1 (lb rfl)
          have hp4 : PtrC g6 (addP (elemP vnew_1 y7 2) 0) [.string y8.Path] := hp4
          refine dv_et ok2 14 rfl (ev_fieldAddr' tu70 tf70_0 (z := 0) ts9 rfl hp3.ptr rfl) F rfl fun a F=>?_
          refine dv_ev ok2 15 rfl (ev_load1 tu9 rfl rfl (ptr_mono (cks := [c6, c4, [bx b3 #[.i6 0, .i6 0] 32], [bx b2 #[vnew_1] 24], [bx b1 #[vold_1] 24]]) (fr := fr) hp4 (Le.refl _))) F S rfl fun a F=>?_
          refine dv_et ok2 16 rfl (ev_build (parts := [(0, .tmp 146), (1, .tmp 155)]) (vs := [(0, .string y6.Path), (1, .string y8.Path)]) rfl (fun w => tb42_0_1 y6.Path y8.Path w)) F rfl fun a F=>?_
          refine dv_op ok2 17 rfl [] ?_
          refine wl_lit (l := ([({ e0 := y6.Path, e1 := y8.Path } : Arr2_ByteArray)] : List Arr2_ByteArray)) (vs := [.agg #[.string y6.Path, .string y8.Path]]) (parts := [(0, .tmp 156)]) (wn rfl) rfl rfl rfl tu39 te42 (sz_cons rfl sz_nil) rfl (Cat.cons (rep_Arr2_ByteArray_mk (x := ({ e0 := y6.Path, e1 := y8.Path } : Arr2_ByteArray)) ) (Cat.nil _)) (coa_cons rfl coa_nil) rfl F S rfl rfl ?_; clear F a S
          rintro v10 c8 a w h10 F S
          refine dv_nx trivial ?_
          refine dv_op ok2 18 rfl [] ?_
          obtain ⟨cs5, hk1, hr6⟩ := OwnS.reads h10
          obtain ⟨y9, hy9, hm⟩ := bind_some hm
          refine wl_append (wn rfl) rfl tu39 tu39 te42 (by decide) (by decide) F S rfl rfl (k := 1) rfl h6 hk1 rfl (hr6 _ _ _ 0 rfl S) hy9 rfl rfl ?_; clear F a S
          rintro v11 c9 a w h11 S F; replace S : St g6 [c8, c9, c4, [bx b3 #[.i6 0, .i6 0] 32], [bx b2 #[vnew_1] 24], [bx b1 #[vold_1] 24]] fr w := S
          refine dv_nx trivial ?_
          refine dv_op ok2 19 rfl [] ?_
          refine wE (ev_assign rfl) F S rfl fun a F=>?_
          refine dv_nx trivial ?_
          refine dv_fin ok2 ?_
          refine inb_n ?_
          refine then_n ?_
          replace S : St g6 [c9, c4, [bx b3 #[.i6 0, .i6 0] 32], [bx b2 #[vnew_1] 24], [bx b1 #[vold_1] 24]] fr w := St.tail [c9, c4, [bx b3 #[.i6 0, .i6 0] 32], [bx b2 #[vnew_1] 24], [bx b1 #[vold_1] 24]] _ (((((S.frontC 5 rfl).frontC 5 rfl).frontC 5 rfl).frontC 5 rfl).frontC 5 rfl)
          exact ⟨y9, v11, c9, g6, F.sub ⟨rfl, rfl, rfl, rfl, rfl, rfl, trivial⟩, (Le.refl _), S, h11, hm⟩
         ·refine wp_condF F rfl hc5 ?_
          refine wp_skip ?_
          refine inb_n ?_
          refine then_n ?_
          exact ⟨x6, v6, c6, g6, F.sub ⟨rfl, rfl, rfl, rfl, rfl, rfl, trivial⟩, (Le.refl _), S, h6, hm⟩
        ·clear F S hm; rintro a w ⟨x8, v7, c7, g7, F, l7, S, h7, hm⟩
         refine wp_region_lit ?_
         refine wE (ev_move rfl) F S rfl fun a F=>?_
         obtain ⟨z1, hz1, hm⟩ := bind_some hm
         refine wE (ev_int rfl rfl (bo_add hz1)) F S rfl fun a F=>?_
         refine wE (ev_assign rfl) F S rfl fun a F=>?_
         refine wpList_nil ?_
         refine then_n ?_
         obtain rfl := sinj hm
         refine ⟨_, rfl, ?_⟩
         dsimp only
         exact ⟨v7, c7, g7, F.sub ⟨rfl, rfl, rfl, rfl, rfl, rfl, trivial⟩, (l6.trans l7), S, h7⟩
       ·refine wp_condF F rfl hc4 ?_
        refine wp_exit ?_
        refine then_e ?_
        refine then_e ?_
        refine inb_x ?_
        refine then_n ?_
        obtain rfl := sinj hm
        obtain rfl := hfin1 _ rfl
        clear hm
        have hm : (changeforgeref2_Renames.j3 x6 : Option ((List Arr2_ByteArray) × Fault)) = some _ := hmo1
        replace S : St g6 [c6, [bx b3 #[.i6 0, .i6 0] 32]] fr w := St.tail [c6, [bx b3 #[.i6 0, .i6 0] 32]] _ ((S.frontC 2 rfl).frontC 1 rfl)
        exact ⟨x6, v6, c6, g6, F.sub ⟨rfl, rfl, trivial⟩, l6, S, h6, hm⟩
     ·clear F S hm; rintro a w ⟨x4, v5, c5, g5, F, l5, S, h5, hm⟩
      refine wp_seq ?_
      refine wp_region_lit ?_
      refine wE (ev_move rfl) F S rfl fun a F=>?_
      refine wE (ev_build (parts := []) (vs := []) rfl (fun w => tb32_  w)) F S rfl fun a F=>?_
      refine wE (ev_assign rfl) F S rfl fun a F=>?_
      refine wl_storeC (wn rfl) rfl F S rfl rfl (vs := [.i6 0, .i6 0]) rfl ts32 (one_cons rfl (one_cons rfl one_nil)) (k := 1) rfl (lb rfl) (c' := #[.i6 0, .i6 0]) rfl rfl ?_; clear S; intro w S
      refine wpList_nil ?_
      refine then_n ?_
      refine wp_ret ?_
      obtain rfl := sinj hm
      refine post_r _ F rfl (ar_cons (resT rfl) (ar_cons (resA rfl tu32 rfl (box_ptr (cells := [.i6 0, .i6 0]) 1 rfl 0 rfl (lb rfl) w S) ts32) ar_nil)) ?_
      replace S : St g5 [c5] fr w := St.tail [c5] _ (S.frontC 0 rfl)
      exact ⟨_, rfl, g5, v5, c5, (((l1.trans l3).trans l4).trans l5), S, h5, rfl⟩

theorem changeforgeequal_StringPairs_ok {g : Gh} {fr : Hl} {w : World} {r : Bool} (a_ : (List Arr2_ByteArray)) (va_1 : Value) (ha_1 : RepSl g a_ va_1) (b_ : (List Arr2_ByteArray)) (vb_1 : Value) (hb_1 : RepSl g b_ vb_1) (S : St g [] fr w) (hm : changeforgeequal_StringPairs a_ b_ = some r) :
  Calls Tryz.prog 13 [va_1, vb_1].toArray w (fun en w' => ∃ v, en = .returned v ∧ ∃ (g' : Gh), Le g g' ∧ St g' [] fr w' ∧ .bool r = v) := by
 unfold changeforgeequal_StringPairs at hm
 refine calls_enter (fn := Tryz.f13) Tryz.func13 rfl Tryz.ntmps13 (lb rfl) ?_
 intro a F
 replace F : Fr 26 a [(0, va_1), (1, vb_1)] := F
 refine wp_seq ?_
 refine wp_region_lit ?_
 refine wE (ev_assign rfl) F S rfl fun a F=>?_
 refine wpList_nil ?_
 refine then_n ?_
 refine wp_seq ?_
 refine wp_seq ?_
 refine wp_region_lit ?_
 refine wE (ev_move rfl) F S rfl fun a F=>?_
 refine wE (ev_lenSh ha_1 rfl tu39) F S rfl fun a F=>?_
 refine wE (ev_move rfl) F S rfl fun a F=>?_
 refine wE (ev_lenSh hb_1 rfl tu39) F S rfl fun a F=>?_
 refine wE (ev_int rfl rfl (bo_neq _ _ _ _)) F S rfl fun a F=>?_
 refine wpList_nil ?_
 refine then_n ?_
 obtain ⟨hc1, hm⟩ | ⟨hc1, hm⟩ := ite_or hm
 ·refine wp_condT F rfl hc1 ?_
  refine wp_seq ?_
  refine wp_region_lit ?_
  refine wE (ev_assign rfl) F S rfl fun a F=>?_
  refine wpList_nil ?_
  refine then_n ?_
  refine wp_ret ?_
  refine then_r ?_
  obtain rfl := sinj hm
  refine post_r _ F rfl (ar_cons (resT rfl) ar_nil) ?_
  exact ⟨_, rfl, g, (Le.refl _), S, rfl⟩
 ·refine wp_condF F rfl hc1 ?_
  refine wp_skip ?_
  refine then_n ?_
  refine wp_cut (fun a w => ∃ (g1 : Gh), Fr 26 a [] ∧ Le g g1 ∧ St g1 [] fr w ∧ changeforgeequal_StringPairs.j1 = some r) ?_ ?_
  ·refine wp_seq ?_
   refine wp_region_lit ?_
   refine wE (ev_assign rfl) F S rfl fun a F=>?_
   refine wpList_nil ?_
   refine then_n ?_
   refine wp_block ?_
   obtain ⟨r1, hr1, hm⟩ := bind_some hm
   have hmo1 := hm; clear hm
   refine wp_iter (σ := Int) (ρ := Bool ⊕ Unit) (m := fun s => changeforgeequal_StringPairs.l1 a_ b_ s) (I := fun x1 a w => ∃ (g2 : Gh), Fr 26 a [(5, .i6 x1), (0, va_1), (1, vb_1)] ∧ Le g g2 ∧ St g2 [] fr w) hr1 ?_ ?_
   ·exact ⟨g, F.sub ⟨rfl, rfl, rfl, trivial⟩, (Le.refl _), S⟩
   ·clear F S; rintro x1 a w x2 ⟨g2, F, l2, S⟩ hx1 hfin1
    have hm : changeforgeequal_StringPairs.l1 a_ b_ x1 = some x2 := hx1; clear hx1
    unfold changeforgeequal_StringPairs.l1 at hm
    refine wp_seq ?_
    refine wp_seq ?_
    refine wp_region_lit ?_
    refine wE (ev_move rfl) F S rfl fun a F=>?_
    refine wE (ev_move rfl) F S rfl fun a F=>?_
    refine wE (ev_lenSh ha_1 rfl tu39) F S rfl fun a F=>?_
    refine wE (ev_int rfl rfl (bo_lss _ _ _ _)) F S rfl fun a F=>?_
    refine wpList_nil ?_
    refine then_n ?_
    obtain ⟨hc2, hm⟩ | ⟨hc2, hm⟩ := ite_or hm
    ·refine wp_condT F rfl hc2 ?_
     refine wp_skip ?_
     refine then_n ?_
     refine wp_seq ?_
     refine wp_block ?_
     refine wp_seq ?_
     refine wp_quiet mo (by kernel_rfl) S ?_
     refine wq_ev (wn rfl) (ev_move rfl) F rfl rfl ?_; clear F a; intro a F
     refine wq_ev (wn rfl) (ev_move rfl) F rfl rfl ?_; clear F a; intro a F
     obtain ⟨y1, hy1, hm⟩ := bind_some hm
     obtain ⟨cs1, hr2, hp1⟩ := elemS (ha_1.mono l2) hy1
     obtain rfl := rep_Arr2_ByteArray hr2
     refine wq_ev (wn rfl) (ev_idxS (ha_1.mono l2) hy1 tu39 ts42 rfl rfl) F rfl rfl ?_; clear F a; intro a F
     refine wq_ev (wn rfl) (ev_loadA tu42 rfl (cs := [.string y1.e0, .string y1.e1]) ts42 rfl (ptr_mono (cks := []) (fr := fr) hp1 (Le.refl _))) F rfl rfl ?_; clear F a; intro a F
     refine wq_ev (wn rfl) (ev_move rfl) F rfl rfl ?_; clear F a; intro a F
     refine wq_ev (wn rfl) (ev_move rfl) F rfl rfl ?_; clear F a; intro a F
     obtain ⟨y2, hy2, hm⟩ := bind_some hm
     obtain ⟨cs2, hr3, hp2⟩ := elemS (hb_1.mono l2) hy2
     obtain rfl := rep_Arr2_ByteArray hr3
     refine wq_ev (wn rfl) (ev_idxS (hb_1.mono l2) hy2 tu39 ts42 rfl rfl) F rfl rfl ?_; clear F a; intro a F
     refine wq_ev (wn rfl) (ev_loadA tu42 rfl (cs := [.string y2.e0, .string y2.e1]) ts42 rfl (ptr_mono (cks := []) (fr := fr) hp2 (Le.refl _))) F rfl rfl ?_; clear F a; intro a F
     refine wq_ev (wn rfl) (ev_neA tu42 ts9 tqb42 (is := [0, 1]) rfl (xs := [.string y1.e0, .string y1.e1]) (ys := [.string y2.e0, .string y2.e1]) rfl rfl ⟨_, _, rfl, ⟨_, _, rfl, rfl, leaf_str tu9⟩, ⟨_, _, rfl, ⟨_, _, rfl, rfl, leaf_str tu9⟩, rfl⟩⟩) F rfl rfl ?_; clear F a; intro a F
     refine wq_nil ?_; clear S; intro w S
     refine then_n ?_
     obtain ⟨hc3, hm⟩ | ⟨hc3, hm⟩ := ite_or hm
     ·refine wp_condT F rfl hc3 ?_
      refine wp_seq ?_
      refine wp_region_lit ?_
      refine wE (ev_assign rfl) F S rfl fun a F=>?_
      refine wpList_nil ?_
      refine then_n ?_
      refine wp_ret ?_
      refine inb_r ?_
      refine then_r ?_
      refine then_r ?_
      refine inb_r ?_
      refine then_r ?_
      obtain rfl := sinj hm
      obtain rfl := hfin1 _ rfl
      clear hm
      have hm : (some false : Option Bool) = some _ := hmo1
      obtain rfl := sinj hm
      refine post_r _ F rfl (ar_cons (resT rfl) ar_nil) ?_
      exact ⟨_, rfl, g2, l2, S, rfl⟩
     ·refine wp_condF F rfl hc3 ?_
      refine wp_skip ?_
      refine inb_n ?_
      refine then_n ?_
      refine wp_region_lit ?_
      refine wE (ev_move rfl) F S rfl fun a F=>?_
      obtain ⟨z1, hz1, hm⟩ := bind_some hm
      refine wE (ev_int rfl rfl (bo_add hz1)) F S rfl fun a F=>?_
      refine wE (ev_assign rfl) F S rfl fun a F=>?_
      refine wpList_nil ?_
      refine then_n ?_
      obtain rfl := sinj hm
      refine ⟨_, rfl, ?_⟩
      exact ⟨g2, F.sub ⟨rfl, rfl, rfl, trivial⟩, l2, S⟩
    ·refine wp_condF F rfl hc2 ?_
     refine wp_exit ?_
     refine then_e ?_
     refine then_e ?_
     refine inb_x ?_
     refine then_n ?_
     obtain rfl := sinj hm
     obtain rfl := hfin1 _ rfl
     clear hm
     have hm : (changeforgeequal_StringPairs.j1 : Option Bool) = some _ := hmo1
     exact ⟨g2, F.sub trivial, l2, S, hm⟩
  ·clear F S hm; rintro a w ⟨g1, F, l1, S, hm⟩
   refine wp_seq ?_
   refine wp_region_lit ?_
   refine wE (ev_assign rfl) F S rfl fun a F=>?_
   refine wpList_nil ?_
   refine then_n ?_
   refine wp_ret ?_
   obtain rfl := sinj hm
   refine post_r _ F rfl (ar_cons (resT rfl) ar_nil) ?_
   exact ⟨_, rfl, g1, l1, S, rfl⟩

theorem changeforgeref1_TwoFault_ok {g : Gh} {fr : Hl} {w : World} {r : Fault} (a_ : (List ByteArray)) (va_1 : Value) (ha_1 : RepSl g a_ va_1) (b_ : (List ByteArray)) (vb_1 : Value) (hb_1 : RepSl g b_ vb_1) (S : St g [] fr w) (hm : changeforgeref1_TwoFault a_ b_ = some r) :
  Calls Tryz.prog 15 [va_1, vb_1].toArray w (fun en w' => ∃ v, en = .returned v ∧ ∃ (g' : Gh), Le g g' ∧ St g' [] fr w' ∧ .agg #[.i6 r.Code, .i6 r.Index] = v) := by
 unfold changeforgeref1_TwoFault at hm
 refine calls_enter (fn := Tryz.f15) Tryz.func15 rfl Tryz.ntmps15 (lb rfl) ?_
 intro a F
 replace F : Fr 20 a [(0, va_1), (1, vb_1)] := F
 refine wp_seq ?_
 refine wp_region_lit ?_
 refine wl_alloc (wn rfl) rfl tz32 (cs := [.i6 0, .i6 0]) rfl F S rfl rfl ?_; clear F a S; rintro b1 a w F S
 refine wpList_nil ?_
 refine then_n ?_
 refine wp_seq ?_
 refine wp_region_lit ?_
 refine wE (ev_move rfl) F S rfl fun a F=>?_
 obtain ⟨y1, hy1, hm⟩ := bind_some hm
 refine wl_call0 (wn rfl) rfl F rfl (changeforgeref1_LinesFault_ok (fr := (fl [[bx b1 #[.i6 0, .i6 0] 32]] fr)) a_ va_1 ha_1 S hy1) rfl tc14 rfl rfl ?_; clear F a S
 rintro _ a w ⟨g1, l1, S, rfl⟩ F; replace S : St g1 [[bx b1 #[.i6 0, .i6 0] 32]] fr w := S
 refine wl_alloc (wn rfl) rfl tz32 (cs := [.i6 0, .i6 0]) rfl F S rfl rfl ?_; clear F a S; rintro b2 a w F S
 refine wl_storeC (wn rfl) rfl F S rfl rfl (vs := [.i6 y1.Code, .i6 y1.Index]) rfl ts32 (one_cons rfl (one_cons rfl one_nil)) (k := 0) rfl (lb rfl) (c' := #[.i6 y1.Code, .i6 y1.Index]) rfl rfl ?_; clear S; intro w S
 refine wpList_nil ?_
 refine then_n ?_
 refine wp_cut (fun a w => ∃ (x1 : Int) (x2 : Int) (g2 : Gh), Fr 20 a [(5, bp b2 0), (4, bp b1 0)] ∧ Le g1 g2 ∧ St g2 [[bx b2 #[.i6 x1, .i6 x2] 32], [bx b1 #[.i6 0, .i6 0] 32]] fr w ∧ changeforgeref1_TwoFault.j1 x1 x2 = some r) ?_ ?_
 ·refine wp_seq ?_
  refine wp_region_lit ?_
  refine wE (ev_fieldAddr' tu32 tf32_0 (z := 0) ts3 rfl ⟨_, rfl⟩ rfl) F S rfl fun a F=>?_
  refine wE (ev_load1 tu3 rfl rfl (box_ptr (cells := [.i6 y1.Code]) 0 rfl 0 rfl (lb rfl))) F S rfl fun a F=>?_
  refine wE (ev_int rfl rfl (bo_eql _ _ _ _)) F S rfl fun a F=>?_
  refine wE (ev_move rfl) F S rfl fun a F=>?_
  obtain ⟨x3, hx1, hm⟩ := bind_some hm
  refine wl_cut 4 (fun a w => ∃ g3, Fr 20 a [(15, .bool x3), (5, bp b2 0), (4, bp b1 0), (1, vb_1)] ∧ Le g1 g3 ∧ St g3 [[bx b2 #[.i6 y1.Code, .i6 y1.Index] 32], [bx b1 #[.i6 0, .i6 0] 32]] fr w) ?_ ?_
  ·clear hm; obtain ⟨hc1, hm⟩ | ⟨hc1, hm⟩ := ite_or hx1
   ·refine wl_ev (wg F rfl rfl rfl rfl hc1) (ev_move rfl) F S rfl rfl ?_; clear F a; intro a F
    obtain ⟨y2, hy2, hm⟩ := bind_some hm
    refine wl_call0 (wg F rfl rfl rfl rfl hc1) rfl F rfl (changeforgeref1_LinesCode_ok (fr := (fl [[bx b2 #[.i6 y1.Code, .i6 y1.Index] 32], [bx b1 #[.i6 0, .i6 0] 32]] fr)) b_ vb_1 (hb_1.mono l1) S hy2) rfl tc49 rfl rfl ?_; clear F a S
    rintro _ a w ⟨g4, l4, S, rfl⟩ F; replace S : St g4 [[bx b2 #[.i6 y1.Code, .i6 y1.Index] 32], [bx b1 #[.i6 0, .i6 0] 32]] fr w := S
    refine wl_ev (wg F rfl rfl rfl rfl hc1) (ev_int rfl rfl (bo_neq _ _ _ _)) F S rfl rfl ?_; clear F a; intro a F
    refine wE (ev_pickT rfl hc1 rfl) F S rfl fun a F=>?_
    obtain rfl := sinj hm
    refine wpList_nil (then_n ?_); exact ⟨g4, F.sub ⟨rfl, rfl, rfl, rfl, trivial⟩, l4, S⟩
   ·refine wl_skip rfl rfl rfl rfl (ne_tf hc1) F rfl rfl ?_; clear F a; intro a F
    refine wl_skip rfl rfl rfl rfl (ne_tf hc1) F rfl rfl ?_; clear F a; intro a F
    refine wl_skip rfl rfl rfl rfl (ne_tf hc1) F rfl rfl ?_; clear F a; intro a F
    refine wE (ev_pickF rfl hc1 rfl) F S rfl fun a F=>?_
    obtain rfl := sinj hm
    refine wpList_nil (then_n ?_); exact ⟨g1, F.sub ⟨rfl, rfl, rfl, rfl, trivial⟩, (Le.refl _), S⟩
  clear F S; rintro a w ⟨g3, F, l3, S⟩
  refine wpList_nil ?_
  refine then_n ?_
  obtain ⟨hc2, hm⟩ | ⟨hc2, hm⟩ := ite_or hm
  ·refine wp_condT F rfl hc2 ?_
   refine wp_region_lit ?_
   refine wE (ev_move rfl) F S rfl fun a F=>?_
   obtain ⟨y3, hy3, hm⟩ := bind_some hm
   refine wl_call0 (wn rfl) rfl F rfl (changeforgeref1_LinesCode_ok (fr := (fl [[bx b2 #[.i6 y1.Code, .i6 y1.Index] 32], [bx b1 #[.i6 0, .i6 0] 32]] fr)) b_ vb_1 (hb_1.mono (l1.trans l3)) S hy3) rfl tc49 rfl rfl ?_; clear F a S
   rintro _ a w ⟨g5, l5, S, rfl⟩ F; replace S : St g5 [[bx b2 #[.i6 y1.Code, .i6 y1.Index] 32], [bx b1 #[.i6 0, .i6 0] 32]] fr w := S
   obtain ⟨y4, hy4, hm⟩ := bind_some hm
   refine wl_call0 (wn rfl) rfl F rfl (changeforgeref1_At_ok (fr := (fl [[bx b2 #[.i6 y1.Code, .i6 y1.Index] 32], [bx b1 #[.i6 0, .i6 0] 32]] fr)) y3 (-2) S hy4) rfl tc47 rfl rfl ?_; clear F a S
   rintro _ a w ⟨g6, l6, S, rfl⟩ F; replace S : St g6 [[bx b2 #[.i6 y1.Code, .i6 y1.Index] 32], [bx b1 #[.i6 0, .i6 0] 32]] fr w := S
   refine wl_storeC (wn rfl) rfl F S rfl rfl (vs := [.i6 y4.Code, .i6 y4.Index]) rfl ts32 (one_cons rfl (one_cons rfl one_nil)) (k := 0) rfl (lb rfl) (c' := #[.i6 y4.Code, .i6 y4.Index]) rfl rfl ?_; clear S; intro w S
   refine wpList_nil ?_
   refine then_n ?_
   exact ⟨y4.Code, y4.Index, g6, F.sub ⟨rfl, rfl, trivial⟩, ((l3.trans l5).trans l6), S, hm⟩
  ·refine wp_condF F rfl hc2 ?_
   refine wp_skip ?_
   refine then_n ?_
   exact ⟨y1.Code, y1.Index, g3, F.sub ⟨rfl, rfl, trivial⟩, l3, S, hm⟩
 ·clear F S hm; rintro a w ⟨x1, x2, g2, F, l2, S, hm⟩
  refine wp_seq ?_
  refine wp_region_lit ?_
  refine wE (ev_loadA tu32 rfl (cs := [.i6 x1, .i6 x2]) ts32 rfl (box_ptr (cells := [.i6 x1, .i6 x2]) 0 rfl 0 rfl (lb rfl))) F S rfl fun a F=>?_
  refine wl_storeC (wn rfl) rfl F S rfl rfl (vs := [.i6 x1, .i6 x2]) rfl ts32 (one_cons rfl (one_cons rfl one_nil)) (k := 1) rfl (lb rfl) (c' := #[.i6 x1, .i6 x2]) rfl rfl ?_; clear S; intro w S
  refine wpList_nil ?_
  refine then_n ?_
  refine wp_ret ?_
  obtain rfl := sinj hm
  refine post_r _ F rfl (ar_cons (resA rfl tu32 rfl (box_ptr (cells := [.i6 x1, .i6 x2]) 1 rfl 0 rfl (lb rfl) w S) ts32) ar_nil) ?_
  replace S : St g2 [] fr w := St.tail [] _ S
  exact ⟨_, rfl, g2, (l1.trans l2), S, rfl⟩

theorem changeforgeequal_Ints_ok {g : Gh} {fr : Hl} {w : World} {r : Bool} (a_ : (List Int)) (va_1 : Value) (ha_1 : RepSl g a_ va_1) (b_ : (List Int)) (vb_1 : Value) (hb_1 : RepSl g b_ vb_1) (S : St g [] fr w) (hm : changeforgeequal_Ints a_ b_ = some r) :
  Calls Tryz.prog 16 [va_1, vb_1].toArray w (fun en w' => ∃ v, en = .returned v ∧ ∃ (g' : Gh), Le g g' ∧ St g' [] fr w' ∧ .bool r = v) := by
 unfold changeforgeequal_Ints at hm
 refine calls_enter (fn := Tryz.f16) Tryz.func16 rfl Tryz.ntmps16 (lb rfl) ?_
 intro a F
 replace F : Fr 26 a [(0, va_1), (1, vb_1)] := F
 refine wp_seq ?_
 refine wp_region_lit ?_
 refine wE (ev_assign rfl) F S rfl fun a F=>?_
 refine wpList_nil ?_
 refine then_n ?_
 refine wp_seq ?_
 refine wp_seq ?_
 refine wp_region_lit ?_
 refine wE (ev_move rfl) F S rfl fun a F=>?_
 refine wE (ev_lenSh ha_1 rfl tu47) F S rfl fun a F=>?_
 refine wE (ev_move rfl) F S rfl fun a F=>?_
 refine wE (ev_lenSh hb_1 rfl tu47) F S rfl fun a F=>?_
 refine wE (ev_int rfl rfl (bo_neq _ _ _ _)) F S rfl fun a F=>?_
 refine wpList_nil ?_
 refine then_n ?_
 obtain ⟨hc1, hm⟩ | ⟨hc1, hm⟩ := ite_or hm
 ·refine wp_condT F rfl hc1 ?_
  refine wp_seq ?_
  refine wp_region_lit ?_
  refine wE (ev_assign rfl) F S rfl fun a F=>?_
  refine wpList_nil ?_
  refine then_n ?_
  refine wp_ret ?_
  refine then_r ?_
  obtain rfl := sinj hm
  refine post_r _ F rfl (ar_cons (resT rfl) ar_nil) ?_
  exact ⟨_, rfl, g, (Le.refl _), S, rfl⟩
 ·refine wp_condF F rfl hc1 ?_
  refine wp_skip ?_
  refine then_n ?_
  refine wp_cut (fun a w => ∃ (g1 : Gh), Fr 26 a [] ∧ Le g g1 ∧ St g1 [] fr w ∧ changeforgeequal_Ints.j1 = some r) ?_ ?_
  ·refine wp_seq ?_
   refine wp_region_lit ?_
   refine wE (ev_assign rfl) F S rfl fun a F=>?_
   refine wpList_nil ?_
   refine then_n ?_
   refine wp_block ?_
   obtain ⟨r1, hr1, hm⟩ := bind_some hm
   have hmo1 := hm; clear hm
   refine wp_iter (σ := Int) (ρ := Bool ⊕ Unit) (m := fun s => changeforgeequal_Ints.l1 a_ b_ s) (I := fun x1 a w => ∃ (g2 : Gh), Fr 26 a [(5, .i6 x1), (0, va_1), (1, vb_1)] ∧ Le g g2 ∧ St g2 [] fr w) hr1 ?_ ?_
   ·exact ⟨g, F.sub ⟨rfl, rfl, rfl, trivial⟩, (Le.refl _), S⟩
   ·clear F S; rintro x1 a w x2 ⟨g2, F, l2, S⟩ hx1 hfin1
    have hm : changeforgeequal_Ints.l1 a_ b_ x1 = some x2 := hx1; clear hx1
    unfold changeforgeequal_Ints.l1 at hm
    refine wp_seq ?_
    refine wp_seq ?_
    refine wp_region_lit ?_
    refine wE (ev_move rfl) F S rfl fun a F=>?_
    refine wE (ev_move rfl) F S rfl fun a F=>?_
    refine wE (ev_lenSh ha_1 rfl tu47) F S rfl fun a F=>?_
    refine wE (ev_int rfl rfl (bo_lss _ _ _ _)) F S rfl fun a F=>?_
    refine wpList_nil ?_
    refine then_n ?_
    obtain ⟨hc2, hm⟩ | ⟨hc2, hm⟩ := ite_or hm
    ·refine wp_condT F rfl hc2 ?_
     refine wp_skip ?_
     refine then_n ?_
     refine wp_seq ?_
     refine wp_block ?_
     refine wp_seq ?_
     refine wp_quiet mo (by kernel_rfl) S ?_
     refine wq_ev (wn rfl) (ev_move rfl) F rfl rfl ?_; clear F a; intro a F
     refine wq_ev (wn rfl) (ev_move rfl) F rfl rfl ?_; clear F a; intro a F
     obtain ⟨y1, hy1, hm⟩ := bind_some hm
     obtain ⟨cs1, hr2, hp1⟩ := elemS (ha_1.mono l2) hy1
     obtain rfl := rep_int hr2
     refine wq_ev (wn rfl) (ev_idxS (ha_1.mono l2) hy1 tu47 ts3 rfl rfl) F rfl rfl ?_; clear F a; intro a F
     refine wq_ev (wn rfl) (ev_load1 tu3 rfl rfl (ptr_mono (cks := []) (fr := fr) hp1 (Le.refl _))) F rfl rfl ?_; clear F a; intro a F
     refine wq_ev (wn rfl) (ev_move rfl) F rfl rfl ?_; clear F a; intro a F
     refine wq_ev (wn rfl) (ev_move rfl) F rfl rfl ?_; clear F a; intro a F
     obtain ⟨y2, hy2, hm⟩ := bind_some hm
     obtain ⟨cs2, hr3, hp2⟩ := elemS (hb_1.mono l2) hy2
     obtain rfl := rep_int hr3
     refine wq_ev (wn rfl) (ev_idxS (hb_1.mono l2) hy2 tu47 ts3 rfl rfl) F rfl rfl ?_; clear F a; intro a F
     refine wq_ev (wn rfl) (ev_load1 tu3 rfl rfl (ptr_mono (cks := []) (fr := fr) hp2 (Le.refl _))) F rfl rfl ?_; clear F a; intro a F
     refine wq_ev (wn rfl) (ev_int rfl rfl (bo_neq _ _ _ _)) F rfl rfl ?_; clear F a; intro a F
     refine wq_nil ?_; clear S; intro w S
     refine then_n ?_
     obtain ⟨hc3, hm⟩ | ⟨hc3, hm⟩ := ite_or hm
     ·refine wp_condT F rfl hc3 ?_
      refine wp_seq ?_
      refine wp_region_lit ?_
      refine wE (ev_assign rfl) F S rfl fun a F=>?_
      refine wpList_nil ?_
      refine then_n ?_
      refine wp_ret ?_
      refine inb_r ?_
      refine then_r ?_
      refine then_r ?_
      refine inb_r ?_
      refine then_r ?_
      obtain rfl := sinj hm
      obtain rfl := hfin1 _ rfl
      clear hm
      have hm : (some false : Option Bool) = some _ := hmo1
      obtain rfl := sinj hm
      refine post_r _ F rfl (ar_cons (resT rfl) ar_nil) ?_
      exact ⟨_, rfl, g2, l2, S, rfl⟩
     ·refine wp_condF F rfl hc3 ?_
      refine wp_skip ?_
      refine inb_n ?_
      refine then_n ?_
      refine wp_region_lit ?_
      refine wE (ev_move rfl) F S rfl fun a F=>?_
      obtain ⟨z1, hz1, hm⟩ := bind_some hm
      refine wE (ev_int rfl rfl (bo_add hz1)) F S rfl fun a F=>?_
      refine wE (ev_assign rfl) F S rfl fun a F=>?_
      refine wpList_nil ?_
      refine then_n ?_
      obtain rfl := sinj hm
      refine ⟨_, rfl, ?_⟩
      exact ⟨g2, F.sub ⟨rfl, rfl, rfl, trivial⟩, l2, S⟩
    ·refine wp_condF F rfl hc2 ?_
     refine wp_exit ?_
     refine then_e ?_
     refine then_e ?_
     refine inb_x ?_
     refine then_n ?_
     obtain rfl := sinj hm
     obtain rfl := hfin1 _ rfl
     clear hm
     have hm : (changeforgeequal_Ints.j1 : Option Bool) = some _ := hmo1
     exact ⟨g2, F.sub trivial, l2, S, hm⟩
  ·clear F S hm; rintro a w ⟨g1, F, l1, S, hm⟩
   refine wp_seq ?_
   refine wp_region_lit ?_
   refine wE (ev_assign rfl) F S rfl fun a F=>?_
   refine wpList_nil ?_
   refine then_n ?_
   refine wp_ret ?_
   obtain rfl := sinj hm
   refine post_r _ F rfl (ar_cons (resT rfl) ar_nil) ?_
   exact ⟨_, rfl, g1, l1, S, rfl⟩

theorem changeforgeref1_times_ok {g : Gh} {fr : Hl} {w : World} {r : Int} (a_ : Int) (b_ : Int) (S : St g [] fr w) (hm : changeforgeref1_times a_ b_ = some r) :
  Calls Tryz.prog 91 [.i6 a_, .i6 b_].toArray w (fun en w' => ∃ v, en = .returned v ∧ ∃ (g' : Gh), Le g g' ∧ St g' [] fr w' ∧ .i6 r = v) := by
 unfold changeforgeref1_times at hm
 refine calls_enter (fn := Tryz.f91) Tryz.func91 rfl Tryz.ntmps91 (lb rfl) ?_
 intro a F
 replace F : Fr 22 a [(0, .i6 a_), (1, .i6 b_)] := F
 refine wp_seq ?_
 refine wp_region_lit ?_
 refine wE (ev_assign rfl) F S rfl fun a F=>?_
 refine wpList_nil ?_
 refine then_n ?_
 refine wp_seq ?_
 refine wp_region_lit ?_
 refine wE (ev_assign rfl) F S rfl fun a F=>?_
 refine wpList_nil ?_
 refine then_n ?_
 refine wp_cut (fun a w => ∃ (x1 : Int) (g1 : Gh), Fr 22 a [(5, .i6 x1)] ∧ Le g g1 ∧ St g1 [] fr w ∧ changeforgeref1_times.j1 x1 = some r) ?_ ?_
 ·refine wp_block ?_
  obtain ⟨r1, hr1, hm⟩ := bind_some hm
  have hmo1 := hm; clear hm
  refine wp_iter (σ := Int × Int × Int) (ρ := Int) (m := fun s => changeforgeref1_times.l1 s.1 s.2.1 s.2.2) (I := fun s a w => match s with | (x2, x3, x4) => ∃ (g2 : Gh), Fr 22 a [(5, .i6 x2), (0, .i6 x3), (1, .i6 x4)] ∧ Le g g2 ∧ St g2 [] fr w) hr1 ?_ ?_
  ·dsimp only
   exact ⟨g, F.sub ⟨rfl, rfl, rfl, trivial⟩, (Le.refl _), S⟩
  ·clear F S; rintro ⟨x2, x3, x4⟩ a w x5 ⟨g2, F, l2, S⟩ hx1 hfin1
   have hm : changeforgeref1_times.l1 x2 x3 x4 = some x5 := hx1; clear hx1
   unfold changeforgeref1_times.l1 at hm
   refine wp_seq ?_
   refine wp_seq ?_
   refine wp_region_lit ?_
   refine wE (ev_move rfl) F S rfl fun a F=>?_
   refine wE (ev_int rfl rfl (bo_gtr _ _ _ _)) F S rfl fun a F=>?_
   refine wpList_nil ?_
   refine then_n ?_
   obtain ⟨hc1, hm⟩ | ⟨hc1, hm⟩ := ite_or hm
   ·refine wp_condT F rfl hc1 ?_
    refine wp_skip ?_
    refine then_n ?_
    refine wp_block ?_
    refine wp_cut (fun a w => ∃ (x6 : Int) (g3 : Gh), Fr 22 a [(5, .i6 x6), (0, .i6 x3), (1, .i6 x4)] ∧ Le g2 g3 ∧ St g3 [] fr w ∧ changeforgeref1_times.j2 x3 x4 x6 = some x5) ?_ ?_
    ·refine wp_seq ?_
     refine wp_region_lit ?_
     refine wE (ev_move rfl) F S rfl fun a F=>?_
     obtain ⟨z4, hz4, hm⟩ := bind_some hm
     refine wE (ev_int rfl rfl (bo_rem hz4)) F S rfl fun a F=>?_
     refine wE (ev_int rfl rfl (bo_eql _ _ _ _)) F S rfl fun a F=>?_
     refine wpList_nil ?_
     refine then_n ?_
     obtain ⟨hc2, hm⟩ | ⟨hc2, hm⟩ := ite_or hm
     ·refine wp_condT F rfl hc2 ?_
      refine wp_region_lit ?_
      refine wE (ev_move rfl) F S rfl fun a F=>?_
      refine wE (ev_move rfl) F S rfl fun a F=>?_
      obtain ⟨z5, hz5, hm⟩ := bind_some hm
      refine wE (ev_int rfl rfl (bo_add hz5)) F S rfl fun a F=>?_
      obtain ⟨z6, hz6, hm⟩ := bind_some hm
      refine wE (ev_int rfl rfl (bo_rem hz6)) F S rfl fun a F=>?_
      refine wE (ev_assign rfl) F S rfl fun a F=>?_
      refine wpList_nil ?_
      refine then_n ?_
      exact ⟨z6, g2, F.sub ⟨rfl, rfl, rfl, trivial⟩, (Le.refl _), S, hm⟩
     ·refine wp_condF F rfl hc2 ?_
      refine wp_skip ?_
      refine then_n ?_
      exact ⟨x2, g2, F.sub ⟨rfl, rfl, rfl, trivial⟩, (Le.refl _), S, hm⟩
    ·clear F S hm; rintro a w ⟨x6, g3, F, l3, S, hm⟩
     refine wp_seq ?_
     refine wp_region_lit ?_
     refine wE (ev_move rfl) F S rfl fun a F=>?_
     refine wE (ev_move rfl) F S rfl fun a F=>?_
     obtain ⟨z1, hz1, hm⟩ := bind_some hm
     refine wE (ev_int rfl rfl (bo_add hz1)) F S rfl fun a F=>?_
     obtain ⟨z2, hz2, hm⟩ := bind_some hm
     refine wE (ev_int rfl rfl (bo_rem hz2)) F S rfl fun a F=>?_
     refine wE (ev_assign rfl) F S rfl fun a F=>?_
     refine wpList_nil ?_
     refine then_n ?_
     refine wp_region_lit ?_
     refine wE (ev_move rfl) F S rfl fun a F=>?_
     obtain ⟨z3, hz3, hm⟩ := bind_some hm
     refine wE (ev_int rfl rfl (bo_quo hz3)) F S rfl fun a F=>?_
     refine wE (ev_assign rfl) F S rfl fun a F=>?_
     refine wpList_nil ?_
     refine inb_n ?_
     refine then_n ?_
     obtain rfl := sinj hm
     refine ⟨_, rfl, ?_⟩
     dsimp only
     exact ⟨g3, F.sub ⟨rfl, rfl, rfl, trivial⟩, (l2.trans l3), S⟩
   ·refine wp_condF F rfl hc1 ?_
    refine wp_exit ?_
    refine then_e ?_
    refine then_e ?_
    refine inb_x ?_
    refine then_n ?_
    obtain rfl := sinj hm
    obtain rfl := hfin1 _ rfl
    clear hm
    have hm : (changeforgeref1_times.j1 x2 : Option Int) = some _ := hmo1
    exact ⟨x2, g2, F.sub ⟨rfl, trivial⟩, l2, S, hm⟩
 ·clear F S hm; rintro a w ⟨x1, g1, F, l1, S, hm⟩
  refine wp_seq ?_
  refine wp_region_lit ?_
  refine wE (ev_move rfl) F S rfl fun a F=>?_
  refine wE (ev_assign rfl) F S rfl fun a F=>?_
  refine wpList_nil ?_
  refine then_n ?_
  refine wp_ret ?_
  obtain rfl := sinj hm
  refine post_r _ F rfl (ar_cons (resT rfl) ar_nil) ?_
  exact ⟨_, rfl, g1, l1, S, rfl⟩

theorem changeforgeref1_DigestPair_ok {g : Gh} {fr : Hl} {w : World} {r : Int} (a_ : Int) (b_ : Int) (S : St g [] fr w) (hm : changeforgeref1_DigestPair a_ b_ = some r) :
  Calls Tryz.prog 50 [.i6 a_, .i6 b_].toArray w (fun en w' => ∃ v, en = .returned v ∧ ∃ (g' : Gh), Le g g' ∧ St g' [] fr w' ∧ .i6 r = v) := by
 unfold changeforgeref1_DigestPair at hm
 refine calls_enter (fn := Tryz.f50) Tryz.func50 rfl Tryz.ntmps50 (lb rfl) ?_
 intro a F
 replace F : Fr 12 a [(0, .i6 a_), (1, .i6 b_)] := F
 refine wp_seq ?_
 refine wp_region_lit ?_
 refine wE (ev_assign rfl) F S rfl fun a F=>?_
 refine wpList_nil ?_
 refine then_n ?_
 refine wp_seq ?_
 refine wp_region_lit ?_
 refine wE (ev_move rfl) F S rfl fun a F=>?_
 obtain ⟨y1, hy1, hm⟩ := bind_some hm
 refine wl_call0 (wn rfl) rfl F rfl (changeforgeref1_times_ok a_ 1000003 S hy1) rfl tc91 rfl rfl ?_; clear F a S
 rintro _ a w ⟨g1, l1, S, rfl⟩ F; replace S : St g1 [] fr w := S
 refine wE (ev_move rfl) F S rfl fun a F=>?_
 obtain ⟨y2, hy2, hm⟩ := bind_some hm
 refine wl_call0 (wn rfl) rfl F rfl (changeforgeref1_times_ok b_ 31 S hy2) rfl tc91 rfl rfl ?_; clear F a S
 rintro _ a w ⟨g2, l2, S, rfl⟩ F; replace S : St g2 [] fr w := S
 obtain ⟨z1, hz1, hm⟩ := bind_some hm
 refine wE (ev_int rfl rfl (bo_add hz1)) F S rfl fun a F=>?_
 obtain ⟨z2, hz2, hm⟩ := bind_some hm
 refine wE (ev_int rfl rfl (bo_add hz2)) F S rfl fun a F=>?_
 obtain ⟨z3, hz3, hm⟩ := bind_some hm
 refine wE (ev_int rfl rfl (bo_rem hz3)) F S rfl fun a F=>?_
 refine wE (ev_assign rfl) F S rfl fun a F=>?_
 refine wpList_nil ?_
 refine then_n ?_
 refine wp_ret ?_
 obtain rfl := sinj hm
 refine post_r _ F rfl (ar_cons (resT rfl) ar_nil) ?_
 exact ⟨_, rfl, g2, (l1.trans l2), S, rfl⟩

theorem changeforgeref1_DigestOf_ok {g : Gh} {fr : Hl} {w : World} {r : Int} (data : (List UInt8)) (vdata1 : Value) (hdata1 : RepSl g data vdata1) (S : St g [] fr w) (hm : changeforgeref1_DigestOf data = some r) :
  Calls Tryz.prog 51 [vdata1].toArray w (fun en w' => ∃ v, en = .returned v ∧ ∃ (g' : Gh), Le g g' ∧ St g' [] fr w' ∧ .i6 r = v) := by
 unfold changeforgeref1_DigestOf at hm
 refine calls_enter (fn := Tryz.f51) Tryz.func51 rfl Tryz.ntmps51 (lb rfl) ?_
 intro a F
 replace F : Fr 22 a [(0, vdata1)] := F
 refine wp_seq ?_
 refine wp_region_lit ?_
 refine wE (ev_assign rfl) F S rfl fun a F=>?_
 refine wpList_nil ?_
 refine then_n ?_
 refine wp_seq ?_
 refine wp_region_lit ?_
 refine wE (ev_assign rfl) F S rfl fun a F=>?_
 refine wpList_nil ?_
 refine then_n ?_
 refine wp_cut (fun a w => ∃ (x1 : Int) (g1 : Gh), Fr 22 a [(3, .i6 x1)] ∧ Le g g1 ∧ St g1 [] fr w ∧ changeforgeref1_DigestOf.j1 x1 = some r) ?_ ?_
 ·refine wp_seq ?_
  refine wp_region_lit ?_
  refine wE (ev_assign rfl) F S rfl fun a F=>?_
  refine wpList_nil ?_
  refine then_n ?_
  refine wp_block ?_
  obtain ⟨r1, hr1, hm⟩ := bind_some hm
  have hmo1 := hm; clear hm
  refine wp_iter (σ := Int × Int) (ρ := Int) (m := fun s => changeforgeref1_DigestOf.l1 data s.1 s.2) (I := fun s a w => match s with | (x2, x3) => ∃ (g2 : Gh), Fr 22 a [(4, .i6 x2), (3, .i6 x3), (0, vdata1)] ∧ Le g g2 ∧ St g2 [] fr w) hr1 ?_ ?_
  ·dsimp only
   exact ⟨g, F.sub ⟨rfl, rfl, rfl, trivial⟩, (Le.refl _), S⟩
  ·clear F S; rintro ⟨x2, x3⟩ a w x4 ⟨g2, F, l2, S⟩ hx1 hfin1
   have hm : changeforgeref1_DigestOf.l1 data x2 x3 = some x4 := hx1; clear hx1
   unfold changeforgeref1_DigestOf.l1 at hm
   refine wp_seq ?_
   refine wp_seq ?_
   refine wp_region_lit ?_
   refine wE (ev_move rfl) F S rfl fun a F=>?_
   refine wE (ev_move rfl) F S rfl fun a F=>?_
   refine wE (ev_lenSh hdata1 rfl tu93) F S rfl fun a F=>?_
   refine wE (ev_int rfl rfl (bo_lss _ _ _ _)) F S rfl fun a F=>?_
   refine wpList_nil ?_
   refine then_n ?_
   obtain ⟨hc1, hm⟩ | ⟨hc1, hm⟩ := ite_or hm
   ·refine wp_condT F rfl hc1 ?_
    refine wp_skip ?_
    refine then_n ?_
    refine wp_seq ?_
    refine wp_block ?_
    refine wp_dv [10] mo S ?_; clear S; intro ok1 w S
    refine dv_et ok1 0 rfl (ev_move rfl) F rfl fun a F=>?_
    refine dv_et ok1 2 rfl (ev_move rfl) F rfl fun a F=>?_
    refine dv_et ok1 3 rfl (ev_move rfl) F rfl fun a F=>?_
    obtain ⟨y1, hy1, hm⟩ := bind_some hm
    obtain ⟨cs1, hr2, hp1⟩ := elemS (hdata1.mono l2) hy1
    obtain rfl := rep_u8 hr2
    refine dv_et ok1 4 rfl (ev_idxS (hdata1.mono l2) hy1 tu93 ts5 rfl rfl) F rfl fun a F=>?_
    refine dv_ev ok1 5 rfl (ev_load1 tu5 rfl rfl (ptr_mono (cks := []) (fr := fr) hp1 (Le.refl _))) F S rfl fun a F=>?_
    obtain ⟨z1, hz1, hm⟩ := bind_some hm
    refine dv_et ok1 6 rfl (ev_conv hz1 tu5 tu3 rfl) F rfl fun a F=>?_
    refine dv_op ok1 1 rfl [(5, .int .u8 (y1.toNat : Int))] ?_
    obtain ⟨y2, hy2, hm⟩ := bind_some hm
    refine wl_call0 (wn rfl) rfl F rfl (changeforgeref1_times_ok x3 257 S hy2) rfl tc91 rfl rfl ?_; clear F a S
    rintro _ a w ⟨g3, l3, S, rfl⟩ F; replace S : St g3 [] fr w := S
    refine dv_nx ⟨yl_ev rfl rfl (ev_load1 tu5 rfl rfl (ptr_mono (cks := []) (fr := fr) hp1 l3)) F S, trivial⟩ ?_
    obtain ⟨z2, hz2, hm⟩ := bind_some hm
    refine dv_et ok1 7 rfl (ev_int rfl rfl (bo_add hz2)) F rfl fun a F=>?_
    obtain ⟨z3, hz3, hm⟩ := bind_some hm
    refine dv_et ok1 8 rfl (ev_int rfl rfl (bo_add hz3)) F rfl fun a F=>?_
    obtain ⟨z4, hz4, hm⟩ := bind_some hm
    refine dv_et ok1 9 rfl (ev_int rfl rfl (bo_rem hz4)) F rfl fun a F=>?_
    refine dv_op ok1 10 rfl [] ?_
    refine wE (ev_assign rfl) F S rfl fun a F=>?_
    refine dv_nx trivial ?_
    refine dv_fin ok1 ?_
    refine inb_n ?_
    refine then_n ?_
    refine wp_region_lit ?_
    refine wE (ev_move rfl) F S rfl fun a F=>?_
    obtain ⟨z5, hz5, hm⟩ := bind_some hm
    refine wE (ev_int rfl rfl (bo_add hz5)) F S rfl fun a F=>?_
    refine wE (ev_assign rfl) F S rfl fun a F=>?_
    refine wpList_nil ?_
    refine then_n ?_
    obtain rfl := sinj hm
    refine ⟨_, rfl, ?_⟩
    dsimp only
    exact ⟨g3, F.sub ⟨rfl, rfl, rfl, trivial⟩, (l2.trans l3), S⟩
   ·refine wp_condF F rfl hc1 ?_
    refine wp_exit ?_
    refine then_e ?_
    refine then_e ?_
    refine inb_x ?_
    refine then_n ?_
    obtain rfl := sinj hm
    obtain rfl := hfin1 _ rfl
    clear hm
    have hm : (changeforgeref1_DigestOf.j1 x3 : Option Int) = some _ := hmo1
    exact ⟨x3, g2, F.sub ⟨rfl, trivial⟩, l2, S, hm⟩
 ·clear F S hm; rintro a w ⟨x1, g1, F, l1, S, hm⟩
  refine wp_seq ?_
  refine wp_region_lit ?_
  refine wE (ev_move rfl) F S rfl fun a F=>?_
  refine wE (ev_assign rfl) F S rfl fun a F=>?_
  refine wpList_nil ?_
  refine then_n ?_
  refine wp_ret ?_
  obtain rfl := sinj hm
  refine post_r _ F rfl (ar_cons (resT rfl) ar_nil) ?_
  exact ⟨_, rfl, g1, l1, S, rfl⟩

theorem changeforgeref2_Sketched_ok {g : Gh} {fr : Hl} {w : World} {r : (List Int)} (l_ : (List ByteArray)) (vl_1 : Value) (hl_1 : RepSl g l_ vl_1) (S : St g [] fr w) (hm : changeforgeref2_Sketched l_ = some r) :
  Calls Tryz.prog 17 [vl_1].toArray w (fun en w' => ∃ v, en = .returned v ∧ ∃ (g' : Gh) (v1 : Value) (c1 : Hl), Le g g' ∧ St g' [c1] fr w' ∧ OwnS g' r v1 c1 ∧ v1 = v) := by
 unfold changeforgeref2_Sketched at hm
 refine calls_enter (fn := Tryz.f17) Tryz.func17 rfl Tryz.ntmps17 (lb rfl) ?_
 intro a F
 replace F : Fr 47 a [(0, vl_1)] := F
 refine wp_seq ?_
 refine wp_region_lit ?_
 refine wE (ev_assign rfl) F S rfl fun a F=>?_
 refine wpList_nil ?_
 refine then_n ?_
 refine wp_seq ?_
 refine wp_region_lit ?_
 refine wE (ev_assign rfl) F S rfl fun a F=>?_
 refine wpList_nil ?_
 refine then_n ?_
 refine wp_cut (fun a w => ∃ (x1 : List Int) (v1 : Value) (c1 : Hl) (g1 : Gh), Fr 47 a [(3, v1)] ∧ Le g g1 ∧ St g1 [c1] fr w ∧ OwnS g1 x1 v1 c1 ∧ changeforgeref2_Sketched.j1 x1 = some r) ?_ ?_
 ·refine wp_seq ?_
  refine wp_region_lit ?_
  refine wE (ev_assign rfl) F S rfl fun a F=>?_
  refine wpList_nil ?_
  refine then_n ?_
  refine wp_block ?_
  obtain ⟨r1, hr1, hm⟩ := bind_some hm
  have hmo1 := hm; clear hm
  refine wp_iter (σ := Int × (List Int)) (ρ := (List Int)) (m := fun s => changeforgeref2_Sketched.l1 l_ s.1 s.2) (I := fun s a w => match s with | (x2, x3) => ∃ (v2 : Value) (c2 : Hl) (g2 : Gh), Fr 47 a [(4, .i6 x2), (3, v2), (0, vl_1)] ∧ Le g g2 ∧ St g2 [c2] fr w ∧ OwnS g2 x3 v2 c2) hr1 ?_ ?_
  ·dsimp only
   replace S : St g [[]] fr w := S
   exact ⟨(nilS), [], g, F.sub ⟨rfl, rfl, rfl, trivial⟩, (Le.refl _), S, (OwnS.nil _)⟩
  ·clear F S; rintro ⟨x2, x3⟩ a w x4 ⟨v2, c2, g2, F, l2, S, h2⟩ hx1 hfin1
   have hm : changeforgeref2_Sketched.l1 l_ x2 x3 = some x4 := hx1; clear hx1
   unfold changeforgeref2_Sketched.l1 at hm
   refine wp_seq ?_
   refine wp_seq ?_
   refine wp_region_lit ?_
   refine wE (ev_move rfl) F S rfl fun a F=>?_
   refine wE (ev_int rfl rfl (bo_leq _ _ _ _)) F S rfl fun a F=>?_
   refine wE (ev_move rfl) F S rfl fun a F=>?_
   obtain ⟨x5, hx2, hm⟩ := bind_some hm
   refine wl_cut 4 (fun a w' => w = w' ∧ Fr 47 a [(14, .bool x5), (4, .i6 x2), (3, v2), (0, vl_1)]) ?_ ?_
   ·clear hm; obtain ⟨hc1, hm⟩ | ⟨hc1, hm⟩ := ite_or hx2
    ·refine wl_ev (wg F rfl rfl rfl rfl hc1) (ev_move rfl) F S rfl rfl ?_; clear F a; intro a F
     refine wl_ev (wg F rfl rfl rfl rfl hc1) (ev_lenSh hl_1 rfl tu28) F S rfl rfl ?_; clear F a; intro a F
     refine wl_ev (wg F rfl rfl rfl rfl hc1) (ev_int rfl rfl (bo_gtr _ _ _ _)) F S rfl rfl ?_; clear F a; intro a F
     refine wE (ev_pickT rfl hc1 rfl) F S rfl fun a F=>?_
     obtain rfl := sinj hm
     refine wpList_nil (then_n ?_); exact ⟨rfl, F.sub ⟨rfl, rfl, rfl, rfl, trivial⟩⟩
    ·refine wl_skip rfl rfl rfl rfl (ne_tf hc1) F rfl rfl ?_; clear F a; intro a F
     refine wl_skip rfl rfl rfl rfl (ne_tf hc1) F rfl rfl ?_; clear F a; intro a F
     refine wl_skip rfl rfl rfl rfl (ne_tf hc1) F rfl rfl ?_; clear F a; intro a F
     refine wE (ev_pickF rfl hc1 rfl) F S rfl fun a F=>?_
     obtain rfl := sinj hm
     refine wpList_nil (then_n ?_); exact ⟨rfl, F.sub ⟨rfl, rfl, rfl, rfl, trivial⟩⟩
   clear F; rintro a w' ⟨rfl, F⟩
   refine wpList_nil ?_
   refine then_n ?_
   obtain ⟨hc2, hm⟩ | ⟨hc2, hm⟩ := ite_or hm
   ·refine wp_condT F rfl hc2 ?_
    refine wp_skip ?_
    refine then_n ?_
    refine wp_cut (fun a w => ∃ (x6 : List Int) (v3 : Value) (c3 : Hl) (g3 : Gh), Fr 47 a [(3, v3), (4, .i6 x2), (0, vl_1)] ∧ Le g2 g3 ∧ St g3 [c3] fr w ∧ OwnS g3 x6 v3 c3 ∧ changeforgeref2_Sketched.j2 x2 x6 = some x4) ?_ ?_
    ·refine wp_block ?_
     refine wp_seq ?_
     refine wp_region_lit ?_
     refine wE (ev_move rfl) F S rfl fun a F=>?_
     refine wE (ev_move rfl) F S rfl fun a F=>?_
     obtain ⟨y1, hy1, hm⟩ := bind_some hm
     obtain ⟨cs1, hr2, hp1⟩ := elemS (hl_1.mono l2) hy1
     obtain rfl := rep_str hr2
     refine wE (ev_idxS (hl_1.mono l2) hy1 tu28 ts9 rfl rfl) F S rfl fun a F=>?_
     refine wE (ev_load1 tu9 rfl rfl (ptr_mono (cks := [c2]) (fr := fr) hp1 (Le.refl _))) F S rfl fun a F=>?_
     refine wl_s2b (wn rfl) rfl tu9 tu93 tu5 rfl F S rfl rfl ?_; clear F a S; rintro g4 v4 a w l4 h4 F S
     replace S : St g4 [c2] fr w := S
     obtain ⟨y2, hy2, hm⟩ := bind_some hm
     refine wl_call0 (wn rfl) rfl F rfl (changeforgeref1_DigestOf_ok (fr := (fl [c2] fr)) y1.data.toList v4 h4 S hy2) rfl tc51 rfl rfl ?_; clear F a S
     rintro _ a w ⟨g5, l5, S, rfl⟩ F; replace S : St g5 [c2] fr w := S
     obtain ⟨y3, hy3, hm⟩ := bind_some hm
     refine wl_call0 (wn rfl) rfl F rfl (changeforgeref1_DigestPair_ok (fr := (fl [c2] fr)) x2 y2 S hy3) rfl tc50 rfl rfl ?_; clear F a S
     rintro _ a w ⟨g6, l6, S, rfl⟩ F; replace S : St g6 [c2] fr w := S
     refine wE (ev_assign rfl) F S rfl fun a F=>?_
     refine wpList_nil ?_
     refine then_n ?_
     refine wp_cut (fun a w => ∃ (x7 : Int) (g7 : Gh), Fr 47 a [(5, .i6 x7), (4, .i6 x2), (3, v2), (0, vl_1)] ∧ Le g6 g7 ∧ St g7 [c2] fr w ∧ changeforgeref2_Sketched.j3 x2 x3 x7 = some x4) ?_ ?_
     ·refine wp_seq ?_
      refine wp_region_lit ?_
      refine wE (ev_assign rfl) F S rfl fun a F=>?_
      refine wpList_nil ?_
      refine then_n ?_
      refine wp_block ?_
      obtain ⟨r2, hr4, hm⟩ := bind_some hm
      have hmo2 := hm; clear hm
      refine wp_iter (σ := Int × Int) (ρ := Int) (m := fun s => changeforgeref2_Sketched.l2 l_ x2 s.1 s.2) (I := fun s a w => match s with | (x8, x9) => ∃ (g8 : Gh), Fr 47 a [(6, .i6 x8), (5, .i6 x9), (4, .i6 x2), (3, v2), (0, vl_1)] ∧ Le g6 g8 ∧ St g8 [c2] fr w) hr4 ?_ ?_
      ·dsimp only
       exact ⟨g6, F.sub ⟨rfl, rfl, rfl, rfl, rfl, trivial⟩, (Le.refl _), S⟩
      ·clear F S; rintro ⟨x8, x9⟩ a w x10 ⟨g8, F, l8, S⟩ hx3 hfin2
       have hm : changeforgeref2_Sketched.l2 l_ x2 x8 x9 = some x10 := hx3; clear hx3
       unfold changeforgeref2_Sketched.l2 at hm
       refine wp_seq ?_
       refine wp_seq ?_
       refine wp_region_lit ?_
       refine wE (ev_move rfl) F S rfl fun a F=>?_
       refine wE (ev_move rfl) F S rfl fun a F=>?_
       refine wE (ev_lenSh hl_1 rfl tu28) F S rfl fun a F=>?_
       refine wE (ev_int rfl rfl (bo_lss _ _ _ _)) F S rfl fun a F=>?_
       refine wpList_nil ?_
       refine then_n ?_
       obtain ⟨hc3, hm⟩ | ⟨hc3, hm⟩ := ite_or hm
       ·refine wp_condT F rfl hc3 ?_
        refine wp_skip ?_
        refine then_n ?_
        refine wp_cut (fun a w => ∃ (x11 : Int) (g9 : Gh), Fr 47 a [(5, .i6 x11), (6, .i6 x8), (4, .i6 x2), (3, v2), (0, vl_1)] ∧ Le g8 g9 ∧ St g9 [c2] fr w ∧ changeforgeref2_Sketched.j4 x8 x11 = some x10) ?_ ?_
        ·refine wp_block ?_
         refine wp_seq ?_
         refine wp_region_lit ?_
         refine wE (ev_move rfl) F S rfl fun a F=>?_
         refine wE (ev_move rfl) F S rfl fun a F=>?_
         refine wE (ev_move rfl) F S rfl fun a F=>?_
         obtain ⟨y5, hy5, hm⟩ := bind_some hm
         obtain ⟨cs3, hr5, hp2⟩ := elemS (hl_1.mono ((((l2.trans l4).trans l5).trans l6).trans l8)) hy5
         obtain rfl := rep_str hr5
         refine wE (ev_idxS (hl_1.mono ((((l2.trans l4).trans l5).trans l6).trans l8)) hy5 tu28 ts9 rfl rfl) F S rfl fun a F=>?_
         refine wE (ev_load1 tu9 rfl rfl (ptr_mono (cks := [c2]) (fr := fr) hp2 (Le.refl _))) F S rfl fun a F=>?_
         refine wl_s2b (wn rfl) rfl tu9 tu93 tu5 rfl F S rfl rfl ?_; clear F a S; rintro g10 v7 a w l10 h7 F S
         replace S : St g10 [c2] fr w := S
         obtain ⟨y6, hy6, hm⟩ := bind_some hm
         refine wl_call0 (wn rfl) rfl F rfl (changeforgeref1_DigestOf_ok (fr := (fl [c2] fr)) y5.data.toList v7 h7 S hy6) rfl tc51 rfl rfl ?_; clear F a S
         rintro _ a w ⟨g11, l11, S, rfl⟩ F; replace S : St g11 [c2] fr w := S
         obtain ⟨y7, hy7, hm⟩ := bind_some hm
         refine wl_call0 (wn rfl) rfl F rfl (changeforgeref1_DigestPair_ok (fr := (fl [c2] fr)) x2 y6 S hy7) rfl tc50 rfl rfl ?_; clear F a S
         rintro _ a w ⟨g12, l12, S, rfl⟩ F; replace S : St g12 [c2] fr w := S
         refine wE (ev_assign rfl) F S rfl fun a F=>?_
         refine wpList_nil ?_
         refine then_n ?_
         refine wp_seq ?_
         refine wp_region_lit ?_
         refine wE (ev_move rfl) F S rfl fun a F=>?_
         refine wE (ev_move rfl) F S rfl fun a F=>?_
         refine wE (ev_int rfl rfl (bo_lss _ _ _ _)) F S rfl fun a F=>?_
         refine wpList_nil ?_
         refine then_n ?_
         obtain ⟨hc4, hm⟩ | ⟨hc4, hm⟩ := ite_or hm
         ·refine wp_condT F rfl hc4 ?_
          refine wp_region_lit ?_
          refine wE (ev_move rfl) F S rfl fun a F=>?_
          refine wE (ev_assign rfl) F S rfl fun a F=>?_
          refine wpList_nil ?_
          refine inb_n ?_
          refine then_n ?_
          exact ⟨y7, g12, F.sub ⟨rfl, rfl, rfl, rfl, rfl, trivial⟩, ((l10.trans l11).trans l12), S, hm⟩
         ·refine wp_condF F rfl hc4 ?_
          refine wp_skip ?_
          refine inb_n ?_
          refine then_n ?_
          exact ⟨x9, g12, F.sub ⟨rfl, rfl, rfl, rfl, rfl, trivial⟩, ((l10.trans l11).trans l12), S, hm⟩
        ·clear F S hm; rintro a w ⟨x11, g9, F, l9, S, hm⟩
         refine wp_region_lit ?_
         refine wE (ev_move rfl) F S rfl fun a F=>?_
         obtain ⟨z2, hz2, hm⟩ := bind_some hm
         refine wE (ev_int rfl rfl (bo_add hz2)) F S rfl fun a F=>?_
         refine wE (ev_assign rfl) F S rfl fun a F=>?_
         refine wpList_nil ?_
         refine then_n ?_
         obtain rfl := sinj hm
         refine ⟨_, rfl, ?_⟩
         dsimp only
         exact ⟨g9, F.sub ⟨rfl, rfl, rfl, rfl, rfl, trivial⟩, (l8.trans l9), S⟩
       ·refine wp_condF F rfl hc3 ?_
        refine wp_exit ?_
        refine then_e ?_
        refine then_e ?_
        refine inb_x ?_
        refine then_n ?_
        obtain rfl := sinj hm
        obtain rfl := hfin2 _ rfl
        clear hm
        have hm : (changeforgeref2_Sketched.j3 x2 x3 x9 : Option (Step (Int × (List Int)) (List Int))) = some _ := hmo2
        exact ⟨x9, g8, F.sub ⟨rfl, rfl, rfl, rfl, trivial⟩, l8, S, hm⟩
     ·clear F S hm; rintro a w ⟨x7, g7, F, l7, S, hm⟩
      refine wp_region_lit ?_
      refine wE (ev_move rfl) F S rfl fun a F=>?_
      refine wE (ev_move rfl) F S rfl fun a F=>?_
      refine wl_lit (l := ([x7] : List Int)) (vs := [.i6 x7]) (parts := [(0, .tmp 43)]) (wn rfl) rfl rfl rfl tu47 te3 (sz_cons rfl sz_nil) rfl (Cat.cons (show Rep.rep _ x7 _ from rfl) (Cat.nil _)) (coa_cons rfl coa_nil) rfl F S rfl rfl ?_; clear F a S
      rintro v5 c4 a w h5 F S
      obtain ⟨cs2, hk1, hr3⟩ := OwnS.reads h5
      obtain ⟨y4, hy4, hm⟩ := bind_some hm
      refine wl_append (wn rfl) rfl tu47 tu47 te3 (by decide) (by decide) F S rfl rfl (k := 1) rfl (h2.mono (((l4.trans l5).trans l6).trans l7)) hk1 rfl (hr3 _ _ _ 0 rfl S) hy4 rfl rfl ?_; clear F a S
      rintro v6 c5 a w h6 S F; replace S : St g7 [c4, c5] fr w := S
      refine wE (ev_assign rfl) F S rfl fun a F=>?_
      refine wpList_nil ?_
      refine inb_n ?_
      refine then_n ?_
      replace S : St g7 [c5] fr w := St.tail [c5] _ (S.frontC 1 rfl)
      exact ⟨y4, v6, c5, g7, F.sub ⟨rfl, rfl, rfl, trivial⟩, (((l4.trans l5).trans l6).trans l7), S, h6, hm⟩
    ·clear F S hm; rintro a w ⟨x6, v3, c3, g3, F, l3, S, h3, hm⟩
     refine wp_region_lit ?_
     refine wE (ev_move rfl) F S rfl fun a F=>?_
     obtain ⟨z1, hz1, hm⟩ := bind_some hm
     refine wE (ev_int rfl rfl (bo_add hz1)) F S rfl fun a F=>?_
     refine wE (ev_assign rfl) F S rfl fun a F=>?_
     refine wpList_nil ?_
     refine then_n ?_
     obtain rfl := sinj hm
     refine ⟨_, rfl, ?_⟩
     dsimp only
     exact ⟨v3, c3, g3, F.sub ⟨rfl, rfl, rfl, trivial⟩, (l2.trans l3), S, h3⟩
   ·refine wp_condF F rfl hc2 ?_
    refine wp_exit ?_
    refine then_e ?_
    refine then_e ?_
    refine inb_x ?_
    refine then_n ?_
    obtain rfl := sinj hm
    obtain rfl := hfin1 _ rfl
    clear hm
    have hm : (changeforgeref2_Sketched.j1 x3 : Option (List Int)) = some _ := hmo1
    exact ⟨x3, v2, c2, g2, F.sub ⟨rfl, trivial⟩, l2, S, h2, hm⟩
 ·clear F S hm; rintro a w ⟨x1, v1, c1, g1, F, l1, S, h1, hm⟩
  refine wp_seq ?_
  refine wp_region_lit ?_
  refine wE (ev_move rfl) F S rfl fun a F=>?_
  refine wE (ev_assign rfl) F S rfl fun a F=>?_
  refine wpList_nil ?_
  refine then_n ?_
  refine wp_ret ?_
  obtain rfl := sinj hm
  refine post_r _ F rfl (ar_cons (resT rfl) ar_nil) ?_
  exact ⟨_, rfl, g1, v1, c1, l1, S, h1, rfl⟩

theorem changeforgelaw2_half_ok {g : Gh} {fr : Hl} {w : World} {r : Bool}  (S : St g [] fr w) (hm : changeforgelaw2_half = some r) :
  Calls Tryz.prog 18 [].toArray w (fun en w' => ∃ v, en = .returned v ∧ ∃ (g' : Gh), Le g g' ∧ St g' [] fr w' ∧ .bool r = v) := by
 unfold changeforgelaw2_half at hm
 refine calls_enter (fn := Tryz.f18) Tryz.func18 rfl Tryz.ntmps18 (lb rfl) ?_
 intro a F
 replace F : Fr 16 a [] := F
 refine wp_seq ?_
 refine wp_region_lit ?_
 refine wE (ev_assign rfl) F S rfl fun a F=>?_
 refine wpList_nil ?_
 refine then_n ?_
 refine wp_seq ?_
 refine wp_region_lit ?_
 refine wl_lit (l := ([(⟨#[120]⟩ : ByteArray), (⟨#[121]⟩ : ByteArray)] : List ByteArray)) (vs := [.string (⟨#[120]⟩ : ByteArray), .string (⟨#[121]⟩ : ByteArray)]) (parts := [(0, .const (.string (⟨#[120]⟩ : ByteArray))), (1, .const (.string (⟨#[121]⟩ : ByteArray)))]) (wn rfl) rfl rfl rfl tu28 te9 (sz_cons rfl (sz_cons rfl sz_nil)) rfl (Cat.cons (show Rep.rep _ (⟨#[120]⟩ : ByteArray) _ from rfl) (Cat.cons (show Rep.rep _ (⟨#[121]⟩ : ByteArray) _ from rfl) (Cat.nil _))) (coa_cons rfl (coa_cons rfl coa_nil)) rfl F S rfl rfl ?_; clear F a S
 rintro v1 c1 a w h1 F S
 refine wl_lit (l := ([(⟨#[121]⟩ : ByteArray), (⟨#[122]⟩ : ByteArray)] : List ByteArray)) (vs := [.string (⟨#[121]⟩ : ByteArray), .string (⟨#[122]⟩ : ByteArray)]) (parts := [(0, .const (.string (⟨#[121]⟩ : ByteArray))), (1, .const (.string (⟨#[122]⟩ : ByteArray)))]) (wn rfl) rfl rfl rfl tu28 te9 (sz_cons rfl (sz_cons rfl sz_nil)) rfl (Cat.cons (show Rep.rep _ (⟨#[121]⟩ : ByteArray) _ from rfl) (Cat.cons (show Rep.rep _ (⟨#[122]⟩ : ByteArray) _ from rfl) (Cat.nil _))) (coa_cons rfl (coa_cons rfl coa_nil)) rfl F S rfl rfl ?_; clear F a S
 rintro v2 c2 a w h2 F S
 obtain ⟨g1, l1, S, h3⟩ : ∃ gz, Le g gz ∧ St gz [c2] fr w ∧ RepSl gz ([(⟨#[120]⟩ : ByteArray), (⟨#[121]⟩ : ByteArray)] : List ByteArray) v1 := ⟨_, Le.add _ _, S.freeze 1 rfl, OwnS.freeze (S.front 1 rfl) h1⟩
 obtain ⟨g2, l2, S, h4⟩ : ∃ gz, Le g1 gz ∧ St gz [] fr w ∧ RepSl gz ([(⟨#[121]⟩ : ByteArray), (⟨#[122]⟩ : ByteArray)] : List ByteArray) v2 := ⟨_, Le.add _ _, S.freeze 0 rfl, OwnS.freeze (S.front 0 rfl) (h2.mono l1)⟩
 obtain ⟨y1, hy1, hm⟩ := bind_some hm
 refine wl_call0 (wn rfl) rfl F rfl (rename_Similarity_ok ([(⟨#[120]⟩ : ByteArray), (⟨#[121]⟩ : ByteArray)] : List ByteArray) v1 (h3.mono l2) ([(⟨#[121]⟩ : ByteArray), (⟨#[122]⟩ : ByteArray)] : List ByteArray) v2 h4 S hy1) rfl tc11 rfl rfl ?_; clear F a S
 rintro _ a w ⟨g3, l3, S, rfl⟩ F; replace S : St g3 [] fr w := S
 refine wE (ev_move rfl) F S rfl fun a F=>?_
 refine wE (ev_extract rfl rfl) F S rfl fun a F=>?_
 refine wE (ev_extract rfl rfl) F S rfl fun a F=>?_
 refine wl_alloc (wn rfl) rfl tz32 (cs := [.i6 0, .i6 0]) rfl F S rfl rfl ?_; clear F a S; rintro b1 a w F S
 refine wE (ev_assign rfl) F S rfl fun a F=>?_
 refine wl_storeC (wn rfl) rfl F S rfl rfl (vs := [.i6 y1.2.Code, .i6 y1.2.Index]) rfl ts32 (one_cons rfl (one_cons rfl one_nil)) (k := 0) rfl (lb rfl) (c' := #[.i6 y1.2.Code, .i6 y1.2.Index]) rfl rfl ?_; clear S; intro w S
 refine wpList_nil ?_
 refine then_n ?_
 refine wp_seq ?_
 refine wp_region_lit ?_
 refine wE (ev_fieldAddr' tu32 tf32_0 (z := 0) ts3 rfl ⟨_, rfl⟩ rfl) F S rfl fun a F=>?_
 refine wE (ev_load1 tu3 rfl rfl (box_ptr (cells := [.i6 y1.2.Code]) 0 rfl 0 rfl (lb rfl))) F S rfl fun a F=>?_
 refine wE (ev_int rfl rfl (bo_eql _ _ _ _)) F S rfl fun a F=>?_
 refine wE (ev_move rfl) F S rfl fun a F=>?_
 obtain ⟨x1, hx1, hm⟩ := bind_some hm
 refine wl_cut 3 (fun a w' => w = w' ∧ Fr 16 a [(15, .bool x1), (0, .bool false)]) ?_ ?_
 ·clear hm; obtain ⟨hc1, hm⟩ | ⟨hc1, hm⟩ := ite_or hx1
  ·refine wl_ev (wg F rfl rfl rfl rfl hc1) (ev_move rfl) F S rfl rfl ?_; clear F a; intro a F
   refine wl_ev (wg F rfl rfl rfl rfl hc1) (ev_int rfl rfl (bo_eql _ _ _ _)) F S rfl rfl ?_; clear F a; intro a F
   refine wE (ev_pickT rfl hc1 rfl) F S rfl fun a F=>?_
   obtain rfl := sinj hm
   refine wpList_nil (then_n ?_); exact ⟨rfl, F.sub ⟨rfl, rfl, trivial⟩⟩
  ·refine wl_skip rfl rfl rfl rfl (ne_tf hc1) F rfl rfl ?_; clear F a; intro a F
   refine wl_skip rfl rfl rfl rfl (ne_tf hc1) F rfl rfl ?_; clear F a; intro a F
   refine wE (ev_pickF rfl hc1 rfl) F S rfl fun a F=>?_
   obtain rfl := sinj hm
   refine wpList_nil (then_n ?_); exact ⟨rfl, F.sub ⟨rfl, rfl, trivial⟩⟩
 clear F; rintro a w' ⟨rfl, F⟩
 refine wE (ev_assign rfl) F S rfl fun a F=>?_
 refine wpList_nil ?_
 refine then_n ?_
 refine wp_ret ?_
 obtain rfl := sinj hm
 refine post_r _ F rfl (ar_cons (resT rfl) ar_nil) ?_
 replace S : St g3 [] fr w := St.tail [] _ S
 exact ⟨_, rfl, g3, ((l1.trans l2).trans l3), S, rfl⟩
end Go.Dc
