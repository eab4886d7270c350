/- Walks: each function comes to what its model says. -/
import Derived.Test.YthpkobkngplbbaaGreatDoorDcTab
import Derived.Test.YthpkobkngplbbaaGreatDoorDcM
import Derived.Test.YthpkobkngplbbaaGreatDoorDcW1
namespace Go.Dc
open Go Go.Proofs
set_option maxRecDepth 100000
set_option maxHeartbeats 4000000
set_option linter.unusedVariables false
theorem digest_mul_ok {g : Gh} {fr : Hl} {w : World} {r : Int} (a_ : Int) (b_ : Int) (S : St g [] fr w) (hm : digest_mul a_ b_ = some r) :
  Calls Tryz.prog 127 [.i6 a_, .i6 b_].toArray w (fun en w' => ∃ v, en = .returned v ∧ ∃ (g' : Gh), Le g g' ∧ St g' [] fr w' ∧ .i6 r = v) := by
 unfold digest_mul at hm
 refine calls_enter (fn := Tryz.f127) Tryz.func127 rfl Tryz.ntmps127 (lb rfl) ?_
 intro a F
 replace F : Fr 21 a [(0, .i6 a_), (1, .i6 b_)] := F
 refine wp_seq ?_
 refine wp_region_lit ?_
 refine wE (ev_assign rfl) F S rfl fun a F=>?_
 refine wpList_nil ?_
 refine then_n ?_
 refine wp_seq ?_
 refine wp_region_lit ?_
 refine wE (ev_assign rfl) F S rfl fun a F=>?_
 refine wpList_nil ?_
 refine then_n ?_
 refine wp_cut (fun a w => ∃ (x1 : Int) (g1 : Gh), Fr 21 a [(5, .i6 x1)] ∧ Le g g1 ∧ St g1 [] fr w ∧ digest_mul.j1 x1 = some r) ?_ ?_
 ·refine wp_block ?_
  obtain ⟨r1, hr1, hm⟩ := bind_some hm
  have hmo1 := hm; clear hm
  refine wp_iter (σ := Int × Int × Int) (ρ := Int) (m := fun s => digest_mul.l1 s.1 s.2.1 s.2.2) (I := fun s a w => match s with | (x2, x3, x4) => ∃ (g2 : Gh), Fr 21 a [(5, .i6 x2), (0, .i6 x3), (1, .i6 x4)] ∧ Le g g2 ∧ St g2 [] fr w) hr1 ?_ ?_
  ·dsimp only
   exact ⟨g, F.sub ⟨rfl, rfl, rfl, trivial⟩, (Le.refl _), S⟩
  ·clear F S; rintro ⟨x2, x3, x4⟩ a w x5 ⟨g2, F, l2, S⟩ hx1 hfin1
   have hm : digest_mul.l1 x2 x3 x4 = some x5 := hx1; clear hx1
   unfold digest_mul.l1 at hm
   refine wp_seq ?_
   refine wp_seq ?_
   refine wp_region_lit ?_
   refine wE (ev_move rfl) F S rfl fun a F=>?_
   refine wE (ev_int rfl rfl (bo_gtr _ _ _ _)) F S rfl fun a F=>?_
   refine wpList_nil ?_
   refine then_n ?_
   obtain ⟨hc1, hm⟩ | ⟨hc1, hm⟩ := ite_or hm
   ·refine wp_condT F rfl hc1 ?_
    refine wp_skip ?_
    refine then_n ?_
    refine wp_seq ?_
    refine wp_block ?_
    refine wp_cut (fun a w => ∃ (x6 : Int) (g3 : Gh), Fr 21 a [(5, .i6 x6), (0, .i6 x3), (1, .i6 x4)] ∧ Le g2 g3 ∧ St g3 [] fr w ∧ digest_mul.j2 x3 x4 x6 = some x5) ?_ ?_
    ·refine wp_seq ?_
     refine wp_region_lit ?_
     refine wE (ev_move rfl) F S rfl fun a F=>?_
     refine wE (ev_int rfl rfl (bo_and _ _ _ _)) F S rfl fun a F=>?_
     refine wE (ev_int rfl rfl (bo_eql _ _ _ _)) F S rfl fun a F=>?_
     refine wpList_nil ?_
     refine then_n ?_
     obtain ⟨hc2, hm⟩ | ⟨hc2, hm⟩ := ite_or hm
     ·refine wp_condT F rfl hc2 ?_
      refine wp_region_lit ?_
      refine wE (ev_move rfl) F S rfl fun a F=>?_
      refine wE (ev_move rfl) F S rfl fun a F=>?_
      obtain ⟨z4, hz4, hm⟩ := bind_some hm
      refine wE (ev_int rfl rfl (bo_add hz4)) F S rfl fun a F=>?_
      obtain ⟨z5, hz5, hm⟩ := bind_some hm
      refine wE (ev_int rfl rfl (bo_rem hz5)) F S rfl fun a F=>?_
      refine wE (ev_assign rfl) F S rfl fun a F=>?_
      refine wpList_nil ?_
      refine then_n ?_
      exact ⟨z5, g2, F.sub ⟨rfl, rfl, rfl, trivial⟩, (Le.refl _), S, hm⟩
     ·refine wp_condF F rfl hc2 ?_
      refine wp_skip ?_
      refine then_n ?_
      exact ⟨x2, g2, F.sub ⟨rfl, rfl, rfl, trivial⟩, (Le.refl _), S, hm⟩
    ·clear F S hm; rintro a w ⟨x6, g3, F, l3, S, hm⟩
     refine wp_region_lit ?_
     refine wE (ev_move rfl) F S rfl fun a F=>?_
     obtain ⟨z1, hz1, hm⟩ := bind_some hm
     refine wE (ev_int rfl rfl (bo_mul hz1)) F S rfl fun a F=>?_
     obtain ⟨z2, hz2, hm⟩ := bind_some hm
     refine wE (ev_int rfl rfl (bo_rem hz2)) F S rfl fun a F=>?_
     refine wE (ev_assign rfl) F S rfl fun a F=>?_
     refine wpList_nil ?_
     refine inb_n ?_
     refine then_n ?_
     refine wp_region_lit ?_
     refine wE (ev_move rfl) F S rfl fun a F=>?_
     obtain ⟨z3, hz3, hm⟩ := bind_some hm
     refine wE (ev_shr hz3 rfl rfl) F S rfl fun a F=>?_
     refine wE (ev_assign rfl) F S rfl fun a F=>?_
     refine wpList_nil ?_
     refine then_n ?_
     obtain rfl := sinj hm
     refine ⟨_, rfl, ?_⟩
     dsimp only
     exact ⟨g3, F.sub ⟨rfl, rfl, rfl, trivial⟩, (l2.trans l3), S⟩
   ·refine wp_condF F rfl hc1 ?_
    refine wp_exit ?_
    refine then_e ?_
    refine then_e ?_
    refine inb_x ?_
    refine then_n ?_
    obtain rfl := sinj hm
    obtain rfl := hfin1 _ rfl
    clear hm
    have hm : (digest_mul.j1 x2 : Option Int) = some _ := hmo1
    exact ⟨x2, g2, F.sub ⟨rfl, trivial⟩, l2, S, hm⟩
 ·clear F S hm; rintro a w ⟨x1, g1, F, l1, S, hm⟩
  refine wp_seq ?_
  refine wp_region_lit ?_
  refine wE (ev_move rfl) F S rfl fun a F=>?_
  refine wE (ev_assign rfl) F S rfl fun a F=>?_
  refine wpList_nil ?_
  refine then_n ?_
  refine wp_ret ?_
  obtain rfl := sinj hm
  refine post_r _ F rfl (ar_cons (resT rfl) ar_nil) ?_
  exact ⟨_, rfl, g1, l1, S, rfl⟩

theorem digest_next_ok {g : Gh} {fr : Hl} {w : World} {r : Int} (s_ : Step_digest) (factor : Int) (S : St g [] fr w) (hm : digest_next s_ factor = some r) :
  Calls Tryz.prog 85 [.agg #[.i6 s_.e0, .i6 s_.e1], .i6 factor].toArray w (fun en w' => ∃ v, en = .returned v ∧ ∃ (g' : Gh), Le g g' ∧ St g' [] fr w' ∧ .i6 r = v) := by
 unfold digest_next at hm
 refine calls_enter (fn := Tryz.f85) Tryz.func85 rfl Tryz.ntmps85 (lb rfl) ?_
 intro a F
 replace F : Fr 13 a [(0, .agg #[.i6 s_.e0, .i6 s_.e1]), (1, .i6 factor)] := F
 refine wp_seq ?_
 refine wp_region_lit ?_
 refine wl_boxC (wn rfl) rfl rfl rfl F S rfl rfl ?_; clear F a S; rintro b1 a w F S
 refine wE (ev_assign rfl) F S rfl fun a F=>?_
 refine wpList_nil ?_
 refine then_n ?_
 refine wp_seq ?_
 refine wp_quiet mo (by kernel_rfl) S ?_
 refine wq_ev (wn rfl) (ev_idxBox tu137 ts3 (by decide) (off' := 0) rfl rfl rfl) F rfl rfl ?_; clear F a; intro a F
 refine wq_ev (wn rfl) (ev_load1 tu3 rfl rfl (box_ptr (cells := [.i6 s_.e0]) 0 rfl 0 rfl (lb rfl))) F rfl rfl ?_; clear F a; intro a F
 refine wq_ev (wn rfl) (ev_move rfl) F rfl rfl ?_; clear F a; intro a F
 obtain ⟨y1, hy1, hm⟩ := bind_some hm
 refine wq_call (wn rfl) rfl (xs := [.tmp 6, .tmp 7]) (vs := [.i6 s_.e0, .i6 factor]) (cap := []) F rfl rfl tc127 (v := .i6 y1) (fun w S => (digest_mul_ok (g := g) (fr := (fl [[bx b1 #[.i6 s_.e0, .i6 s_.e1] 137]] fr)) (w := w) s_.e0 factor S hy1).mono (by rintro en w' ⟨_, rfl, g2, l2, S2, rfl⟩; exact ⟨rfl, S2.weak l2⟩)) rfl rfl ?_; clear F a; intro a F
 refine wq_ev (wn rfl) (ev_idxBox tu137 ts3 (by decide) (off' := 1) rfl rfl rfl) F rfl rfl ?_; clear F a; intro a F
 refine wq_ev (wn rfl) (ev_load1 tu3 rfl rfl (box_ptr (cells := [.i6 s_.e1]) 0 rfl 1 rfl (lb rfl))) F rfl rfl ?_; clear F a; intro a F
 obtain ⟨z1, hz1, hm⟩ := bind_some hm
 refine wq_ev (wn rfl) (ev_int rfl rfl (bo_add hz1)) F rfl rfl ?_; clear F a; intro a F
 obtain ⟨z2, hz2, hm⟩ := bind_some hm
 refine wq_ev (wn rfl) (ev_int rfl rfl (bo_rem hz2)) F rfl rfl ?_; clear F a; intro a F
 refine wq_ev (wn rfl) (ev_assign rfl) F rfl rfl ?_; clear F a; intro a F
 refine wq_nil ?_; clear S; intro w S
 refine then_n ?_
 refine wp_ret ?_
 obtain rfl := sinj hm
 refine post_r _ F rfl (ar_cons (resT rfl) ar_nil) ?_
 replace S : St g [] fr w := St.tail [] _ S
 exact ⟨_, rfl, g, (Le.refl _), S, rfl⟩

theorem digest_Of_ok {g : Gh} {fr : Hl} {w : World} {r : Int × Fault} (data : (List UInt8)) (vdata1 : Value) (hdata1 : RepSl g data vdata1) (S : St g [] fr w) (hm : digest_Of data = some r) :
  Calls Tryz.prog 43 [vdata1].toArray w (fun en w' => ∃ v, en = .returned v ∧ ∃ (g' : Gh), Le g g' ∧ St g' [] fr w' ∧ .tuple #[.i6 r.1, .agg #[.i6 r.2.Code, .i6 r.2.Index]] = v) := by
 unfold digest_Of at hm
 refine calls_enter (fn := Tryz.f43) Tryz.func43 rfl Tryz.ntmps43 (lb rfl) ?_
 intro a F
 replace F : Fr 26 a [(0, vdata1)] := F
 refine wp_seq ?_
 refine wp_region_lit ?_
 refine wE (ev_assign rfl) F S rfl fun a F=>?_
 refine wl_alloc (wn rfl) rfl tz32 (cs := [.i6 0, .i6 0]) rfl F S rfl rfl ?_; clear F a S; rintro b1 a w F S
 refine wpList_nil ?_
 refine then_n ?_
 refine wp_seq ?_
 refine wp_seq ?_
 refine wp_region_lit ?_
 refine wE (ev_move rfl) F S rfl fun a F=>?_
 refine wE (ev_lenSh hdata1 rfl tu93) F S rfl fun a F=>?_
 refine wE (ev_int rfl rfl (bo_gtr _ _ _ _)) F S rfl fun a F=>?_
 refine wpList_nil ?_
 refine then_n ?_
 obtain ⟨hc1, hm⟩ | ⟨hc1, hm⟩ := ite_or hm
 ·refine wp_condT F rfl hc1 ?_
  refine wp_seq ?_
  refine wp_region_lit ?_
  refine wE (ev_build (parts := [(0, .const (.i6 2))]) (vs := [(0, .i6 2)]) rfl (fun w => tb32_0 2 w)) F S rfl fun a F=>?_
  refine wE (ev_assign rfl) F S rfl fun a F=>?_
  refine wl_storeC (wn rfl) rfl F S rfl rfl (vs := [.i6 2, .i6 0]) rfl ts32 (one_cons rfl (one_cons rfl one_nil)) (k := 0) rfl (lb rfl) (c' := #[.i6 2, .i6 0]) rfl rfl ?_; clear S; intro w S
  refine wpList_nil ?_
  refine then_n ?_
  refine wp_ret ?_
  refine then_r ?_
  obtain rfl := sinj hm
  refine post_r _ F rfl (ar_cons (resT rfl) (ar_cons (resA rfl tu32 rfl (box_ptr (cells := [.i6 2, .i6 0]) 0 rfl 0 rfl (lb rfl) w S) ts32) ar_nil)) ?_
  replace S : St g [] fr w := St.tail [] _ S
  exact ⟨_, rfl, g, (Le.refl _), S, rfl⟩
 ·refine wp_condF F rfl hc1 ?_
  refine wp_skip ?_
  refine then_n ?_
  refine wp_seq ?_
  refine wp_region_lit ?_
  refine wE (ev_assign rfl) F S rfl fun a F=>?_
  refine wpList_nil ?_
  refine then_n ?_
  refine wp_cut (fun a w => ∃ (x1 : Int) (g1 : Gh), Fr 26 a [(4, .i6 x1), (3, bp b1 0)] ∧ Le g g1 ∧ St g1 [[bx b1 #[.i6 0, .i6 0] 32]] fr w ∧ digest_Of.j1 x1 = some r) ?_ ?_
  ·refine wp_seq ?_
   refine wp_region_lit ?_
   refine wE (ev_move rfl) F S rfl fun a F=>?_
   refine wE (ev_lenSh hdata1 rfl tu93) F S rfl fun a F=>?_
   refine wE (ev_move rfl) F S rfl fun a F=>?_
   refine wpList_nil ?_
   refine then_n ?_
   refine wp_block ?_
   obtain ⟨r1, hr1, hm⟩ := bind_some hm
   have hmo1 := hm; clear hm
   refine wp_iter (σ := Int × Int) (ρ := Int) (m := fun s => digest_Of.l1 data s.1 s.2) (I := fun s a w => match s with | (x2, x3) => ∃ (g2 : Gh), Fr 26 a [(13, .i6 x2), (12, .i6 (data.length : Int)), (11, vdata1), (4, .i6 x3), (3, bp b1 0)] ∧ Le g g2 ∧ St g2 [[bx b1 #[.i6 0, .i6 0] 32]] fr w) hr1 ?_ ?_
   ·dsimp only
    exact ⟨g, F.sub ⟨rfl, rfl, rfl, rfl, rfl, trivial⟩, (Le.refl _), S⟩
   ·clear F S; rintro ⟨x2, x3⟩ a w x4 ⟨g2, F, l2, S⟩ hx1 hfin1
    have hm : digest_Of.l1 data x2 x3 = some x4 := hx1; clear hx1
    unfold digest_Of.l1 at hm
    refine wp_seq ?_
    refine wp_region_lit ?_
    refine wE (ev_int rfl rfl (bo_lss _ _ _ _)) F S rfl fun a F=>?_
    refine wpList_nil ?_
    refine then_n ?_
    refine wp_seq ?_
    obtain ⟨hc2, hm⟩ | ⟨hc2, hm⟩ := ite_or hm
    ·refine wp_condT F rfl hc2 ?_
     refine wp_skip ?_
     refine then_n ?_
     refine wp_seq ?_
     refine wp_block ?_
     refine wp_seq ?_
     refine wp_region_lit ?_
     obtain ⟨y1, hy1, hm⟩ := bind_some hm
     obtain ⟨cs1, hr2, hp1⟩ := elemS (hdata1.mono l2) hy1
     obtain rfl := rep_u8 hr2
     refine wE (ev_idxS (hdata1.mono l2) hy1 tu93 ts5 rfl rfl) F S rfl fun a F=>?_
     refine wE (ev_load1 tu5 rfl rfl (ptr_mono (cks := [[bx b1 #[.i6 0, .i6 0] 32]]) (fr := fr) hp1 (Le.refl _))) F S rfl fun a F=>?_
     refine wE (ev_assign rfl) F S rfl fun a F=>?_
     refine wpList_nil ?_
     refine then_n ?_
     refine wp_region_lit ?_
     refine wE (ev_move rfl) F S rfl fun a F=>?_
     refine wE (ev_move rfl) F S rfl fun a F=>?_
     obtain ⟨z1, hz1, hm⟩ := bind_some hm
     refine wE (ev_conv hz1 tu5 tu3 rfl) F S rfl fun a F=>?_
     obtain ⟨z2, hz2, hm⟩ := bind_some hm
     refine wE (ev_int rfl rfl (bo_add hz2)) F S rfl fun a F=>?_
     refine wE (ev_build (parts := [(0, .tmp 17), (1, .tmp 20)]) (vs := [(0, .i6 x3), (1, .i6 z2)]) rfl (fun w => tb137_0_1 x3 z2 w)) F S rfl fun a F=>?_
     obtain ⟨y2, hy2, hm⟩ := bind_some hm
     refine wl_call0 (wn rfl) rfl F rfl (digest_next_ok (fr := (fl [[bx b1 #[.i6 0, .i6 0] 32]] fr)) ({ e0 := x3, e1 := z2 } : Step_digest) 257 S hy2) rfl tc85 rfl rfl ?_; clear F a S
     rintro _ a w ⟨g3, l3, S, rfl⟩ F; replace S : St g3 [[bx b1 #[.i6 0, .i6 0] 32]] fr w := S
     refine wE (ev_assign rfl) F S rfl fun a F=>?_
     refine wpList_nil ?_
     refine inb_n ?_
     refine then_n ?_
     refine wp_region_lit ?_
     obtain ⟨z3, hz3, hm⟩ := bind_some hm
     refine wE (ev_int rfl rfl (bo_add hz3)) F S rfl fun a F=>?_
     refine wE (ev_move rfl) F S rfl fun a F=>?_
     refine wpList_nil ?_
     refine then_n ?_
     obtain rfl := sinj hm
     refine ⟨_, rfl, ?_⟩
     dsimp only
     exact ⟨g3, F.sub ⟨rfl, rfl, rfl, rfl, rfl, trivial⟩, (l2.trans l3), S⟩
    ·refine wp_condF F rfl hc2 ?_
     refine wp_exit ?_
     refine then_e ?_
     refine then_e ?_
     refine inb_x ?_
     refine then_n ?_
     obtain rfl := sinj hm
     obtain rfl := hfin1 _ rfl
     clear hm
     have hm : (digest_Of.j1 x3 : Option (Int × Fault)) = some _ := hmo1
     exact ⟨x3, g2, F.sub ⟨rfl, rfl, trivial⟩, l2, S, hm⟩
  ·clear F S hm; rintro a w ⟨x1, g1, F, l1, S, hm⟩
   refine wp_seq ?_
   refine wp_region_lit ?_
   refine wE (ev_move rfl) F S rfl fun a F=>?_
   refine wE (ev_build (parts := []) (vs := []) rfl (fun w => tb32_  w)) F S rfl fun a F=>?_
   refine wE (ev_assign rfl) F S rfl fun a F=>?_
   refine wl_storeC (wn rfl) rfl F S rfl rfl (vs := [.i6 0, .i6 0]) rfl ts32 (one_cons rfl (one_cons rfl one_nil)) (k := 0) rfl (lb rfl) (c' := #[.i6 0, .i6 0]) rfl rfl ?_; clear S; intro w S
   refine wpList_nil ?_
   refine then_n ?_
   refine wp_ret ?_
   obtain rfl := sinj hm
   refine post_r _ F rfl (ar_cons (resT rfl) (ar_cons (resA rfl tu32 rfl (box_ptr (cells := [.i6 0, .i6 0]) 0 rfl 0 rfl (lb rfl) w S) ts32) ar_nil)) ?_
   replace S : St g1 [] fr w := St.tail [] _ S
   exact ⟨_, rfl, g1, l1, S, rfl⟩

theorem digest_is_ok {g : Gh} {fr : Hl} {w : World} {r : Bool} (a_ : Int) (S : St g [] fr w) (hm : digest_is a_ = some r) :
  Calls Tryz.prog 86 [.i6 a_].toArray w (fun en w' => ∃ v, en = .returned v ∧ ∃ (g' : Gh), Le g g' ∧ St g' [] fr w' ∧ .bool r = v) := by
 unfold digest_is at hm
 refine calls_enter (fn := Tryz.f86) Tryz.func86 rfl Tryz.ntmps86 (lb rfl) ?_
 intro a F
 replace F : Fr 9 a [(0, .i6 a_)] := F
 refine wp_seq ?_
 refine wp_region_lit ?_
 refine wE (ev_assign rfl) F S rfl fun a F=>?_
 refine wpList_nil ?_
 refine then_n ?_
 refine wp_seq ?_
 refine wp_region_lit ?_
 refine wE (ev_move rfl) F S rfl fun a F=>?_
 refine wE (ev_int rfl rfl (bo_geq _ _ _ _)) F S rfl fun a F=>?_
 refine wE (ev_move rfl) F S rfl fun a F=>?_
 obtain ⟨x1, hx1, hm⟩ := bind_some hm
 refine wl_cut 3 (fun a w' => w = w' ∧ Fr 9 a [(8, .bool x1), (2, .bool false)]) ?_ ?_
 ·clear hm; obtain ⟨hc1, hm⟩ | ⟨hc1, hm⟩ := ite_or hx1
  ·refine wl_ev (wg F rfl rfl rfl rfl hc1) (ev_move rfl) F S rfl rfl ?_; clear F a; intro a F
   refine wl_ev (wg F rfl rfl rfl rfl hc1) (ev_int rfl rfl (bo_lss _ _ _ _)) F S rfl rfl ?_; clear F a; intro a F
   refine wE (ev_pickT rfl hc1 rfl) F S rfl fun a F=>?_
   obtain rfl := sinj hm
   refine wpList_nil (then_n ?_); exact ⟨rfl, F.sub ⟨rfl, rfl, trivial⟩⟩
  ·refine wl_skip rfl rfl rfl rfl (ne_tf hc1) F rfl rfl ?_; clear F a; intro a F
   refine wl_skip rfl rfl rfl rfl (ne_tf hc1) F rfl rfl ?_; clear F a; intro a F
   refine wE (ev_pickF rfl hc1 rfl) F S rfl fun a F=>?_
   obtain rfl := sinj hm
   refine wpList_nil (then_n ?_); exact ⟨rfl, F.sub ⟨rfl, rfl, trivial⟩⟩
 clear F; rintro a w' ⟨rfl, F⟩
 refine wE (ev_assign rfl) F S rfl fun a F=>?_
 refine wpList_nil ?_
 refine then_n ?_
 refine wp_ret ?_
 obtain rfl := sinj hm
 refine post_r _ F rfl (ar_cons (resT rfl) ar_nil) ?_
 exact ⟨_, rfl, g, (Le.refl _), S, rfl⟩

theorem digest_pair_ok {g : Gh} {fr : Hl} {w : World} {r : Int} (a_ : Int) (b_ : Int) (S : St g [] fr w) (hm : digest_pair a_ b_ = some r) :
  Calls Tryz.prog 87 [.i6 a_, .i6 b_].toArray w (fun en w' => ∃ v, en = .returned v ∧ ∃ (g' : Gh), Le g g' ∧ St g' [] fr w' ∧ .i6 r = v) := by
 unfold digest_pair at hm
 refine calls_enter (fn := Tryz.f87) Tryz.func87 rfl Tryz.ntmps87 (lb rfl) ?_
 intro a F
 replace F : Fr 11 a [(0, .i6 a_), (1, .i6 b_)] := F
 refine wp_seq ?_
 refine wp_region_lit ?_
 refine wE (ev_assign rfl) F S rfl fun a F=>?_
 refine wpList_nil ?_
 refine then_n ?_
 refine wp_seq ?_
 refine wp_region_lit ?_
 refine wE (ev_move rfl) F S rfl fun a F=>?_
 refine wE (ev_move rfl) F S rfl fun a F=>?_
 refine wE (ev_build (parts := [(0, .tmp 6), (1, .const (.i6 7))]) (vs := [(0, .i6 b_), (1, .i6 7)]) rfl (fun w => tb137_0_1 b_ 7 w)) F S rfl fun a F=>?_
 obtain ⟨y1, hy1, hm⟩ := bind_some hm
 refine wl_call0 (wn rfl) rfl F rfl (digest_next_ok ({ e0 := b_, e1 := 7 } : Step_digest) 31 S hy1) rfl tc85 rfl rfl ?_; clear F a S
 rintro _ a w ⟨g1, l1, S, rfl⟩ F; replace S : St g1 [] fr w := S
 refine wE (ev_build (parts := [(0, .tmp 5), (1, .tmp 8)]) (vs := [(0, .i6 a_), (1, .i6 y1)]) rfl (fun w => tb137_0_1 a_ y1 w)) F S rfl fun a F=>?_
 obtain ⟨y2, hy2, hm⟩ := bind_some hm
 refine wl_call0 (wn rfl) rfl F rfl (digest_next_ok ({ e0 := a_, e1 := y1 } : Step_digest) 1000003 S hy2) rfl tc85 rfl rfl ?_; clear F a S
 rintro _ a w ⟨g2, l2, S, rfl⟩ F; replace S : St g2 [] fr w := S
 refine wE (ev_assign rfl) F S rfl fun a F=>?_
 refine wpList_nil ?_
 refine then_n ?_
 refine wp_ret ?_
 obtain rfl := sinj hm
 refine post_r _ F rfl (ar_cons (resT rfl) ar_nil) ?_
 exact ⟨_, rfl, g2, (l1.trans l2), S, rfl⟩

theorem digest_Pair_ok {g : Gh} {fr : Hl} {w : World} {r : Int × Fault} (a_ : Int) (b_ : Int) (S : St g [] fr w) (hm : digest_Pair a_ b_ = some r) :
  Calls Tryz.prog 44 [.i6 a_, .i6 b_].toArray w (fun en w' => ∃ v, en = .returned v ∧ ∃ (g' : Gh), Le g g' ∧ St g' [] fr w' ∧ .tuple #[.i6 r.1, .agg #[.i6 r.2.Code, .i6 r.2.Index]] = v) := by
 unfold digest_Pair at hm
 refine calls_enter (fn := Tryz.f44) Tryz.func44 rfl Tryz.ntmps44 (lb rfl) ?_
 intro a F
 replace F : Fr 25 a [(0, .i6 a_), (1, .i6 b_)] := F
 refine wp_seq ?_
 refine wp_region_lit ?_
 refine wE (ev_assign rfl) F S rfl fun a F=>?_
 refine wl_alloc (wn rfl) rfl tz32 (cs := [.i6 0, .i6 0]) rfl F S rfl rfl ?_; clear F a S; rintro b1 a w F S
 refine wpList_nil ?_
 refine then_n ?_
 refine wp_cut (fun a w => ∃ (g1 : Gh), Fr 25 a [(5, bp b1 0), (0, .i6 a_), (1, .i6 b_)] ∧ Le g g1 ∧ St g1 [[bx b1 #[.i6 0, .i6 0] 32]] fr w ∧ digest_Pair.j1 a_ b_ = some r) ?_ ?_
 ·refine wp_seq ?_
  refine wp_region_lit ?_
  refine wE (ev_move rfl) F S rfl fun a F=>?_
  refine wE (ev_move rfl) F S rfl fun a F=>?_
  refine wE (ev_build (parts := [(0, .tmp 8), (1, .tmp 9)]) (vs := [(0, .i6 a_), (1, .i6 b_)]) rfl (fun w => tb136_0_1 a_ b_ w)) F S rfl fun a F=>?_
  refine wE (ev_move rfl) F S rfl fun a F=>?_
  refine wpList_nil ?_
  refine then_n ?_
  refine wp_block ?_
  obtain ⟨r1, hr1, hm⟩ := bind_some hm
  have hmo1 := hm; clear hm
  refine wp_iter (σ := Int) (ρ := (Int × Fault) ⊕ Unit) (m := fun s => digest_Pair.l1 a_ b_ s) (I := fun x1 a w => ∃ (g3 : Gh), Fr 25 a [(11, .i6 x1), (10, .agg #[.i6 a_, .i6 b_]), (5, bp b1 0), (0, .i6 a_), (1, .i6 b_)] ∧ Le g g3 ∧ St g3 [[bx b1 #[.i6 0, .i6 0] 32]] fr w) hr1 ?_ ?_
  ·exact ⟨g, F.sub ⟨rfl, rfl, rfl, rfl, rfl, trivial⟩, (Le.refl _), S⟩
  ·clear F S; rintro x1 a w x2 ⟨g3, F, l3, S⟩ hx1 hfin1
   have hm : digest_Pair.l1 a_ b_ x1 = some x2 := hx1; clear hx1
   unfold digest_Pair.l1 at hm
   refine wp_seq ?_
   refine wp_region_lit ?_
   refine wE (ev_int rfl rfl (bo_lss _ _ _ _)) F S rfl fun a F=>?_
   refine wpList_nil ?_
   refine then_n ?_
   refine wp_seq ?_
   obtain ⟨hc1, hm⟩ | ⟨hc1, hm⟩ := ite_or hm
   ·refine wp_condT F rfl hc1 ?_
    refine wp_skip ?_
    refine then_n ?_
    refine wp_seq ?_
    refine wp_block ?_
    refine wp_seq ?_
    refine wp_region_lit ?_
    refine wE (ev_move rfl) F S rfl fun a F=>?_
    obtain ⟨y2, hy2, hm⟩ := bind_some hm
    refine wE (ev_indexAI hy2 tu136 tu3 ts3 rfl rfl rfl rfl) F S rfl fun a F=>?_
    refine wE (ev_assign rfl) F S rfl fun a F=>?_
    refine wE (ev_assign rfl) F S rfl fun a F=>?_
    refine wpList_nil ?_
    refine then_n ?_
    refine wp_seq ?_
    refine wp_region_lit ?_
    refine wE (ev_move rfl) F S rfl fun a F=>?_
    obtain ⟨y3, hy3, hm⟩ := bind_some hm
    refine wl_call0 (wn rfl) rfl F rfl (digest_is_ok (fr := (fl [[bx b1 #[.i6 0, .i6 0] 32]] fr)) y2 S hy3) rfl tc86 rfl rfl ?_; clear F a S
    rintro _ a w ⟨g4, l4, S, rfl⟩ F; replace S : St g4 [[bx b1 #[.i6 0, .i6 0] 32]] fr w := S
    refine wE (ev_not rfl) F S rfl fun a F=>?_
    refine wpList_nil ?_
    refine then_n ?_
    obtain ⟨hc2, hm⟩ | ⟨hc2, hm⟩ := ite_or hm
    ·refine wp_condT F rfl hc2 ?_
     refine wp_seq ?_
     refine wp_region_lit ?_
     refine wE (ev_move rfl) F S rfl fun a F=>?_
     refine wE (ev_build (parts := [(0, .const (.i6 3)), (1, .tmp 18)]) (vs := [(0, .i6 3), (1, .i6 x1)]) rfl (fun w => tb32_0_1 3 x1 w)) F S rfl fun a F=>?_
     refine wE (ev_assign rfl) F S rfl fun a F=>?_
     refine wl_storeC (wn rfl) rfl F S rfl rfl (vs := [.i6 3, .i6 x1]) rfl ts32 (one_cons rfl (one_cons rfl one_nil)) (k := 0) rfl (lb rfl) (c' := #[.i6 3, .i6 x1]) rfl rfl ?_; clear S; intro w S
     refine wpList_nil ?_
     refine then_n ?_
     refine wp_ret ?_
     refine inb_r ?_
     refine then_r ?_
     refine then_r ?_
     refine inb_r ?_
     refine then_r ?_
     obtain rfl := sinj hm
     obtain rfl := hfin1 _ rfl
     clear hm
     have hm : (some (0, ({ Code := 3, Index := x1 } : Fault)) : Option (Int × Fault)) = some _ := hmo1
     obtain rfl := sinj hm
     refine post_r _ F rfl (ar_cons (resT rfl) (ar_cons (resA rfl tu32 rfl (box_ptr (cells := [.i6 3, .i6 x1]) 0 rfl 0 rfl (lb rfl) w S) ts32) ar_nil)) ?_
     replace S : St g4 [] fr w := St.tail [] _ S
     exact ⟨_, rfl, g4, (l3.trans l4), S, rfl⟩
    ·refine wp_condF F rfl hc2 ?_
     refine wp_skip ?_
     refine inb_n ?_
     refine then_n ?_
     refine wp_region_lit ?_
     obtain ⟨z1, hz1, hm⟩ := bind_some hm
     refine wE (ev_int rfl rfl (bo_add hz1)) F S rfl fun a F=>?_
     refine wE (ev_move rfl) F S rfl fun a F=>?_
     refine wpList_nil ?_
     refine then_n ?_
     obtain rfl := sinj hm
     refine ⟨_, rfl, ?_⟩
     exact ⟨g4, F.sub ⟨rfl, rfl, rfl, rfl, rfl, trivial⟩, (l3.trans l4), S⟩
   ·refine wp_condF F rfl hc1 ?_
    refine wp_exit ?_
    refine then_e ?_
    refine then_e ?_
    refine inb_x ?_
    refine then_n ?_
    obtain rfl := sinj hm
    obtain rfl := hfin1 _ rfl
    clear hm
    have hm : (digest_Pair.j1 a_ b_ : Option (Int × Fault)) = some _ := hmo1
    exact ⟨g3, F.sub ⟨rfl, rfl, rfl, trivial⟩, l3, S, hm⟩
 ·clear F S hm; rintro a w ⟨g1, F, l1, S, hm⟩
  refine wp_seq ?_
  refine wp_region_lit ?_
  refine wE (ev_move rfl) F S rfl fun a F=>?_
  refine wE (ev_move rfl) F S rfl fun a F=>?_
  obtain ⟨y1, hy1, hm⟩ := bind_some hm
  refine wl_call0 (wn rfl) rfl F rfl (digest_pair_ok (fr := (fl [[bx b1 #[.i6 0, .i6 0] 32]] fr)) a_ b_ S hy1) rfl tc87 rfl rfl ?_; clear F a S
  rintro _ a w ⟨g2, l2, S, rfl⟩ F; replace S : St g2 [[bx b1 #[.i6 0, .i6 0] 32]] fr w := S
  refine wE (ev_build (parts := []) (vs := []) rfl (fun w => tb32_  w)) F S rfl fun a F=>?_
  refine wE (ev_assign rfl) F S rfl fun a F=>?_
  refine wl_storeC (wn rfl) rfl F S rfl rfl (vs := [.i6 0, .i6 0]) rfl ts32 (one_cons rfl (one_cons rfl one_nil)) (k := 0) rfl (lb rfl) (c' := #[.i6 0, .i6 0]) rfl rfl ?_; clear S; intro w S
  refine wpList_nil ?_
  refine then_n ?_
  refine wp_ret ?_
  obtain rfl := sinj hm
  refine post_r _ F rfl (ar_cons (resT rfl) (ar_cons (resA rfl tu32 rfl (box_ptr (cells := [.i6 0, .i6 0]) 0 rfl 0 rfl (lb rfl) w S) ts32) ar_nil)) ?_
  replace S : St g2 [] fr w := St.tail [] _ S
  exact ⟨_, rfl, g2, (l1.trans l2), S, rfl⟩

theorem rename_Sketch_ok {g : Gh} {fr : Hl} {w : World} {r : (List Int) × Fault} (text : (List ByteArray)) (vtext1 : Value) (htext1 : RepSl g text vtext1) (S : St g [] fr w) (hm : rename_Sketch text = some r) :
  Calls Tryz.prog 10 [vtext1].toArray w (fun en w' => ∃ v, en = .returned v ∧ ∃ (g' : Gh) (v1 : Value), Le g g' ∧ St g' [] fr w' ∧ RepSl g' r.1 v1 ∧ .tuple #[v1, .agg #[.i6 r.2.Code, .i6 r.2.Index]] = v) := by
 unfold rename_Sketch at hm
 refine calls_enter (fn := Tryz.f10) Tryz.func10 rfl Tryz.ntmps10 (lb rfl) ?_
 intro a F
 replace F : Fr 62 a [(0, vtext1)] := F
 refine wp_seq ?_
 refine wp_region_lit ?_
 refine wE (ev_assign rfl) F S rfl fun a F=>?_
 refine wl_alloc (wn rfl) rfl tz32 (cs := [.i6 0, .i6 0]) rfl F S rfl rfl ?_; clear F a S; rintro b1 a w F S
 refine wpList_nil ?_
 refine then_n ?_
 refine wp_seq ?_
 refine wp_seq ?_
 refine wp_region_lit ?_
 refine wE (ev_move rfl) F S rfl fun a F=>?_
 obtain ⟨y1, hy1, hm⟩ := bind_some hm
 refine wl_call0 (wn rfl) rfl F rfl (lines_Validate_ok (fr := (fl [[bx b1 #[.i6 0, .i6 0] 32]] fr)) text vtext1 htext1 S hy1) rfl tc42 rfl rfl ?_; clear F a S
 rintro _ a w ⟨g1, l1, S, rfl⟩ F; replace S : St g1 [[bx b1 #[.i6 0, .i6 0] 32]] fr w := S
 refine wl_alloc (wn rfl) rfl tz32 (cs := [.i6 0, .i6 0]) rfl F S rfl rfl ?_; clear F a S; rintro b2 a w F S
 refine wl_storeC (wn rfl) rfl F S rfl rfl (vs := [.i6 y1.Code, .i6 y1.Index]) rfl ts32 (one_cons rfl (one_cons rfl one_nil)) (k := 0) rfl (lb rfl) (c' := #[.i6 y1.Code, .i6 y1.Index]) rfl rfl ?_; clear S; intro w S
 refine wpList_nil ?_
 refine then_n ?_
 refine wp_seq ?_
 refine wp_region_lit ?_
 refine wE (ev_loadA tu32 rfl (cs := [.i6 y1.Code, .i6 y1.Index]) ts32 rfl (box_ptr (cells := [.i6 y1.Code, .i6 y1.Index]) 0 rfl 0 rfl (lb rfl))) F S rfl fun a F=>?_
 refine wE (ev_build (parts := []) (vs := []) rfl (fun w => tb32_  w)) F S rfl fun a F=>?_
 refine wE (ev_neS tu32 tqa32 tqb32 tqc32 (xs := [.i6 y1.Code, .i6 y1.Index]) (ys := [.i6 0, .i6 0]) rfl rfl ⟨_, _, rfl, by decide, ⟨_, _, rfl, rfl, leaf_int tu3⟩, ⟨_, _, rfl, by decide, ⟨_, _, rfl, rfl, leaf_int tu3⟩, rfl⟩⟩) F S rfl fun a F=>?_
 refine wpList_nil ?_
 refine then_n ?_
 obtain ⟨hc1, hm⟩ | ⟨hc1, hm⟩ := ite_or hm
 ·refine wp_condT F rfl hc1 ?_
  refine wp_seq ?_
  refine wp_dv [] mo S ?_; clear S; intro ok1 w S
  refine dv_ev ok1 0 rfl (ev_loadA tu32 rfl (cs := [.i6 y1.Code, .i6 y1.Index]) ts32 rfl (box_ptr (cells := [.i6 y1.Code, .i6 y1.Index]) 0 rfl 0 rfl (lb rfl))) F S rfl fun a F=>?_
  refine dv_et ok1 1 rfl (ev_assign rfl) F rfl fun a F=>?_
  refine dv_op ok1 2 rfl [] ?_
  refine wl_storeC (wn rfl) rfl F S rfl rfl (vs := [.i6 y1.Code, .i6 y1.Index]) rfl ts32 (one_cons rfl (one_cons rfl one_nil)) (k := 1) rfl (lb rfl) (c' := #[.i6 y1.Code, .i6 y1.Index]) rfl rfl ?_; clear S; intro w S
  refine dv_nx trivial ?_
  refine dv_fin ok1 ?_
  refine then_n ?_
  refine wp_ret ?_
  refine then_r ?_
  obtain rfl := sinj hm
  refine post_r _ F rfl (ar_cons (resT rfl) (ar_cons (resA rfl tu32 rfl (box_ptr (cells := [.i6 y1.Code, .i6 y1.Index]) 1 rfl 0 rfl (lb rfl) w S) ts32) ar_nil)) ?_
  replace S : St g1 [] fr w := St.tail [] _ S
  exact ⟨_, rfl, g1, (nilS), l1, S, (RepSl.nil _), rfl⟩
 ·refine wp_condF F rfl hc1 ?_
  refine wp_skip ?_
  refine then_n ?_
  refine wp_seq ?_
  refine wp_seq ?_
  refine wp_region_lit ?_
  refine wE (ev_move rfl) F S rfl fun a F=>?_
  refine wE (ev_lenSh htext1 rfl tu28) F S rfl fun a F=>?_
  refine wE (ev_int rfl rfl (bo_eql _ _ _ _)) F S rfl fun a F=>?_
  refine wpList_nil ?_
  refine then_n ?_
  obtain ⟨hc2, hm⟩ | ⟨hc2, hm⟩ := ite_or hm
  ·refine wp_condT F rfl hc2 ?_
   refine wp_seq ?_
   refine wp_region_lit ?_
   refine wE (ev_build (parts := []) (vs := []) rfl (fun w => tb32_  w)) F S rfl fun a F=>?_
   refine wE (ev_assign rfl) F S rfl fun a F=>?_
   refine wl_storeC (wn rfl) rfl F S rfl rfl (vs := [.i6 0, .i6 0]) rfl ts32 (one_cons rfl (one_cons rfl one_nil)) (k := 1) rfl (lb rfl) (c' := #[.i6 0, .i6 0]) rfl rfl ?_; clear S; intro w S
   refine wpList_nil ?_
   refine then_n ?_
   refine wp_ret ?_
   refine then_r ?_
   obtain rfl := sinj hm
   refine post_r _ F rfl (ar_cons (resT rfl) (ar_cons (resA rfl tu32 rfl (box_ptr (cells := [.i6 0, .i6 0]) 1 rfl 0 rfl (lb rfl) w S) ts32) ar_nil)) ?_
   replace S : St g1 [] fr w := St.tail [] _ S
   exact ⟨_, rfl, g1, (nilS), l1, S, (RepSl.nil _), rfl⟩
  ·refine wp_condF F rfl hc2 ?_
   refine wp_skip ?_
   refine then_n ?_
   refine wp_seq ?_
   refine wp_region_lit ?_
   refine wl_alloc (wn rfl) rfl tz91 (cs := [.i6 0, .i6 0, .i6 0, .i6 0, .i6 0, .i6 0, .i6 0, .i6 0]) rfl F S rfl rfl ?_; clear F a S; rintro b3 a w F S
   have hz1 : ∃ v1 c1, OwnS g1 ([0, 0, 0, 0, 0, 0, 0, 0] : List Int) v1 c1 ∧ Fr 62 a [(5, baseP v1), (21, .bool (decide ((text.length : Int) = 0))), (20, .i6 (text.length : Int)), (19, vtext1), (17, .bool (!(decide (y1.Code = 0) && decide (y1.Index = 0)))), (16, .agg #[.i6 0, .i6 0]), (15, .agg #[.i6 y1.Code, .i6 y1.Index]), (4, bp b2 0), (14, .agg #[.i6 y1.Code, .i6 y1.Index]), (13, vtext1), (3, bp b1 0), (2, nilS), (0, vtext1)] ∧ St g1 [c1, [bx b2 #[.i6 y1.Code, .i6 y1.Index] 32], [bx b1 #[.i6 0, .i6 0] 32]] fr w := ⟨.slice (some ⟨b3, 0, Option.none⟩) 8 8, _, OwnS.lit (Cat.cons (show Rep.rep _ 0 _ from rfl) (Cat.cons (show Rep.rep _ 0 _ from rfl) (Cat.cons (show Rep.rep _ 0 _ from rfl) (Cat.cons (show Rep.rep _ 0 _ from rfl) (Cat.cons (show Rep.rep _ 0 _ from rfl) (Cat.cons (show Rep.rep _ 0 _ from rfl) (Cat.cons (show Rep.rep _ 0 _ from rfl) (Cat.cons (show Rep.rep _ 0 _ from rfl) (Cat.nil _))))))))) rfl, F, S⟩; clear F S; obtain ⟨v1, c1, h1, F, S⟩ := hz1
   refine wpList_nil ?_
   refine then_n ?_
   refine wp_cut (fun a w => ∃ (x1 : List Int) (v2 : Value) (c2 : Hl) (g2 : Gh), Fr 62 a [(5, baseP v2), (3, bp b1 0)] ∧ Le g1 g2 ∧ St g2 [c2, [bx b1 #[.i6 0, .i6 0] 32]] fr w ∧ OwnS g2 x1 v2 c2 ∧ rename_Sketch.j1 x1 = some r) ?_ ?_
   ·refine wp_seq ?_
    refine wp_region_lit ?_
    refine wE (ev_move rfl) F S rfl fun a F=>?_
    refine wE (ev_lenSh htext1 rfl tu28) F S rfl fun a F=>?_
    refine wE (ev_move rfl) F S rfl fun a F=>?_
    refine wpList_nil ?_
    refine then_n ?_
    refine wp_block ?_
    obtain ⟨r1, hr1, hm⟩ := bind_some hm
    have hmo1 := hm; clear hm
    refine wp_iter (σ := Int × (List Int)) (ρ := (List Int)) (m := fun s => rename_Sketch.l1 text s.1 s.2) (I := fun s a w => match s with | (x2, x3) => ∃ (v4 : Value) (c3 : Hl) (g4 : Gh), Fr 62 a [(25, .i6 x2), (24, .i6 (text.length : Int)), (23, vtext1), (5, baseP v4), (3, bp b1 0)] ∧ Le g1 g4 ∧ St g4 [c3, [bx b1 #[.i6 0, .i6 0] 32]] fr w ∧ OwnS g4 x3 v4 c3) hr1 ?_ ?_
    ·dsimp only
     replace S : St g1 [c1, [bx b1 #[.i6 0, .i6 0] 32]] fr w := St.tail [c1, [bx b1 #[.i6 0, .i6 0] 32]] _ ((S.frontC 2 rfl).frontC 1 rfl)
     exact ⟨v1, c1, g1, F.sub ⟨rfl, rfl, rfl, rfl, rfl, trivial⟩, (Le.refl _), S, h1⟩
    ·clear F S; rintro ⟨x2, x3⟩ a w x4 ⟨v4, c3, g4, F, l4, S, h5⟩ hx1 hfin1
     have hm : rename_Sketch.l1 text x2 x3 = some x4 := hx1; clear hx1
     unfold rename_Sketch.l1 at hm
     refine wp_seq ?_
     refine wp_region_lit ?_
     refine wE (ev_int rfl rfl (bo_lss _ _ _ _)) F S rfl fun a F=>?_
     refine wpList_nil ?_
     refine then_n ?_
     refine wp_seq ?_
     obtain ⟨hc3, hm⟩ | ⟨hc3, hm⟩ := ite_or hm
     ·refine wp_condT F rfl hc3 ?_
      refine wp_skip ?_
      refine then_n ?_
      refine wp_cut (fun a w => ∃ (x5 : List Int) (v5 : Value) (c4 : Hl) (g5 : Gh), Fr 62 a [(25, .i6 x2), (24, .i6 (text.length : Int)), (23, vtext1), (5, baseP v5), (3, bp b1 0)] ∧ Le g4 g5 ∧ St g5 [c4, [bx b1 #[.i6 0, .i6 0] 32]] fr w ∧ OwnS g5 x5 v5 c4 ∧ rename_Sketch.j2 x2 x5 = some x4) ?_ ?_
      ·refine wp_block ?_
       refine wp_seq ?_
       refine wp_region_lit ?_
       refine wE (ev_move rfl) F S rfl fun a F=>?_
       obtain ⟨y3, hy3, hm⟩ := bind_some hm
       obtain ⟨cs1, hr2, hp1⟩ := elemS (htext1.mono (l1.trans l4)) hy3
       obtain rfl := rep_str hr2
       refine wE (ev_idxS (htext1.mono (l1.trans l4)) hy3 tu28 ts9 rfl rfl) F S rfl fun a F=>?_
       refine wE (ev_load1 tu9 rfl rfl (ptr_mono (cks := [c3, [bx b1 #[.i6 0, .i6 0] 32]]) (fr := fr) hp1 (Le.refl _))) F S rfl fun a F=>?_
       refine wE (ev_assign rfl) F S rfl fun a F=>?_
       refine wE (ev_assign rfl) F S rfl fun a F=>?_
       refine wpList_nil ?_
       refine then_n ?_
       refine wp_seq ?_
       refine wp_region_lit ?_
       refine wE (ev_move rfl) F S rfl fun a F=>?_
       refine wl_s2b (wn rfl) rfl tu9 tu93 tu5 rfl F S rfl rfl ?_; clear F a S; rintro g6 v6 a w l6 h7 F S
       replace S : St g6 [c3, [bx b1 #[.i6 0, .i6 0] 32]] fr w := S
       obtain ⟨y4, hy4, hm⟩ := bind_some hm
       refine wl_call0 (wn rfl) rfl F rfl (digest_Of_ok (fr := (fl [c3, [bx b1 #[.i6 0, .i6 0] 32]] fr)) y3.data.toList v6 h7 S hy4) rfl tc43 rfl rfl ?_; clear F a S
       rintro _ a w ⟨g7, l7, S, rfl⟩ F; replace S : St g7 [c3, [bx b1 #[.i6 0, .i6 0] 32]] fr w := S
       refine wE (ev_move rfl) F S rfl fun a F=>?_
       refine wE (ev_extract rfl rfl) F S rfl fun a F=>?_
       refine wE (ev_extract rfl rfl) F S rfl fun a F=>?_
       refine wl_alloc (wn rfl) rfl tz32 (cs := [.i6 0, .i6 0]) rfl F S rfl rfl ?_; clear F a S; rintro b4 a w F S
       refine wE (ev_assign rfl) F S rfl fun a F=>?_
       refine wl_storeC (wn rfl) rfl F S rfl rfl (vs := [.i6 y4.2.Code, .i6 y4.2.Index]) rfl ts32 (one_cons rfl (one_cons rfl one_nil)) (k := 0) rfl (lb rfl) (c' := #[.i6 y4.2.Code, .i6 y4.2.Index]) rfl rfl ?_; clear S; intro w S
       refine wpList_nil ?_
       refine then_n ?_
       refine wp_seq ?_
       refine wp_region_lit ?_
       refine wE (ev_move rfl) F S rfl fun a F=>?_
       refine wpList_nil ?_
       refine then_n ?_
       refine wp_cut1 (fun a w => ∃ (x6 : List Int) (v7 : Value) (c5 : Hl) (g8 : Gh), Fr 62 a [(25, .i6 x2), (24, .i6 (text.length : Int)), (23, vtext1), (5, baseP v7), (3, bp b1 0)] ∧ Le g7 g8 ∧ St g8 [c5, [bx b1 #[.i6 0, .i6 0] 32]] fr w ∧ OwnS g8 x6 v7 c5 ∧ rename_Sketch.j3 x2 x6 = some x4) ?_ ?_
       ·refine wp_block ?_
        obtain ⟨r2, hr3, hm⟩ := bind_some hm
        have hmo2 := hm; clear hm
        refine wp_iter (σ := Int × (List Int)) (ρ := (List Int)) (m := fun s => rename_Sketch.l2 x2 y4 s.1 s.2) (I := fun s a w => match s with | (x7, x8) => ∃ (v8 : Value) (c6 : Hl) (g9 : Gh), Fr 62 a [(36, .i6 x7), (8, .i6 y4.1), (6, .i6 x2), (25, .i6 x2), (24, .i6 (text.length : Int)), (23, vtext1), (5, baseP v8), (3, bp b1 0)] ∧ Le g7 g9 ∧ St g9 [c6, [bx b1 #[.i6 0, .i6 0] 32]] fr w ∧ OwnS g9 x8 v8 c6) hr3 ?_ ?_
        ·dsimp only
         replace S : St g7 [c3, [bx b1 #[.i6 0, .i6 0] 32]] fr w := St.tail [c3, [bx b1 #[.i6 0, .i6 0] 32]] _ ((S.frontC 2 rfl).frontC 2 rfl)
         exact ⟨v4, c3, g7, F.sub ⟨rfl, rfl, rfl, rfl, rfl, rfl, rfl, rfl, trivial⟩, (Le.refl _), S, (h5.mono (l6.trans l7))⟩
        ·clear F S; rintro ⟨x7, x8⟩ a w x9 ⟨v8, c6, g9, F, l9, S, h9⟩ hx2 hfin2
         have hm : rename_Sketch.l2 x2 y4 x7 x8 = some x9 := hx2; clear hx2
         unfold rename_Sketch.l2 at hm
         refine wp_seq ?_
         refine wp_region_lit ?_
         refine wE (ev_int rfl rfl (bo_lss _ _ _ _)) F S rfl fun a F=>?_
         refine wpList_nil ?_
         refine then_n ?_
         refine wp_seq ?_
         obtain ⟨hc4, hm⟩ | ⟨hc4, hm⟩ := ite_or hm
         ·refine wp_condT F rfl hc4 ?_
          refine wp_skip ?_
          refine then_n ?_
          refine wp_cut (fun a w => ∃ (x10 : List Int) (v9 : Value) (c7 : Hl) (g10 : Gh), Fr 62 a [(36, .i6 x7), (8, .i6 y4.1), (6, .i6 x2), (25, .i6 x2), (24, .i6 (text.length : Int)), (23, vtext1), (5, baseP v9), (3, bp b1 0)] ∧ Le g9 g10 ∧ St g10 [c7, [bx b1 #[.i6 0, .i6 0] 32]] fr w ∧ OwnS g10 x10 v9 c7 ∧ rename_Sketch.j4 x7 x10 = some x9) ?_ ?_
          ·refine wp_block ?_
           refine wp_seq ?_
           refine wp_region_lit ?_
           refine wE (ev_move rfl) F S rfl fun a F=>?_
           refine wE (ev_assign rfl) F S rfl fun a F=>?_
           refine wpList_nil ?_
           refine then_n ?_
           refine wp_seq ?_
           refine wp_region_lit ?_
           refine wE (ev_move rfl) F S rfl fun a F=>?_
           obtain ⟨z3, hz4, hm⟩ := bind_some hm
           refine wE (ev_int rfl rfl (bo_add hz4)) F S rfl fun a F=>?_
           refine wE (ev_move rfl) F S rfl fun a F=>?_
           obtain ⟨y5, hy5, hm⟩ := bind_some hm
           refine wl_call0 (wn rfl) rfl F rfl (digest_Pair_ok (fr := (fl [c6, [bx b1 #[.i6 0, .i6 0] 32]] fr)) z3 y4.1 S hy5) rfl tc44 rfl rfl ?_; clear F a S
           rintro _ a w ⟨g11, l11, S, rfl⟩ F; replace S : St g11 [c6, [bx b1 #[.i6 0, .i6 0] 32]] fr w := S
           refine wE (ev_move rfl) F S rfl fun a F=>?_
           refine wE (ev_extract rfl rfl) F S rfl fun a F=>?_
           refine wE (ev_extract rfl rfl) F S rfl fun a F=>?_
           refine wl_alloc (wn rfl) rfl tz32 (cs := [.i6 0, .i6 0]) rfl F S rfl rfl ?_; clear F a S; rintro b5 a w F S
           refine wE (ev_assign rfl) F S rfl fun a F=>?_
           refine wl_storeC (wn rfl) rfl F S rfl rfl (vs := [.i6 y5.2.Code, .i6 y5.2.Index]) rfl ts32 (one_cons rfl (one_cons rfl one_nil)) (k := 0) rfl (lb rfl) (c' := #[.i6 y5.2.Code, .i6 y5.2.Index]) rfl rfl ?_; clear S; intro w S
           refine wpList_nil ?_
           refine then_n ?_
           refine wp_seq ?_
           refine wp_region_lit ?_
           refine wE (ev_move rfl) F S rfl fun a F=>?_
           refine wE (ev_int rfl rfl (bo_eql _ _ _ _)) F S rfl fun a F=>?_
           refine wE (ev_move rfl) F S rfl fun a F=>?_
           obtain ⟨x11, hx3, hm⟩ := bind_some hm
           refine wl_cut 6 (fun a w' => w = w' ∧ Fr 62 a [(54, .bool x11), (11, .i6 y5.1), (10, .i6 x7), (36, .i6 x7), (8, .i6 y4.1), (6, .i6 x2), (25, .i6 x2), (24, .i6 (text.length : Int)), (23, vtext1), (5, baseP v8), (3, bp b1 0)]) ?_ ?_
           ·clear hm; obtain ⟨hc5, hm⟩ | ⟨hc5, hm⟩ := ite_or hx3
            ·refine wl_skip rfl rfl rfl rfl (ne_ft hc5) F rfl rfl ?_; clear F a; intro a F
             refine wl_skip rfl rfl rfl rfl (ne_ft hc5) F rfl rfl ?_; clear F a; intro a F
             refine wl_skip rfl rfl rfl rfl (ne_ft hc5) F rfl rfl ?_; clear F a; intro a F
             refine wl_skip rfl rfl rfl rfl (ne_ft hc5) F rfl rfl ?_; clear F a; intro a F
             refine wl_skip rfl rfl rfl rfl (ne_ft hc5) F rfl rfl ?_; clear F a; intro a F
             refine wE (ev_pickT rfl hc5 rfl) F S rfl fun a F=>?_
             obtain rfl := sinj hm
             refine wpList_nil (then_n ?_); exact ⟨rfl, F.sub ⟨rfl, rfl, rfl, rfl, rfl, rfl, rfl, rfl, rfl, rfl, rfl, trivial⟩⟩
            ·refine wl_ev (wg F rfl rfl rfl rfl hc5) (ev_move rfl) F S rfl rfl ?_; clear F a; intro a F
             refine wl_ev (wg F rfl rfl rfl rfl hc5) (ev_move rfl) F S rfl rfl ?_; clear F a; intro a F
             obtain ⟨y6, hy6, hm⟩ := bind_some hm
             have hy7 := (arr?_some hy6).2
             refine wl_ev (wg F rfl rfl rfl rfl hc5) (ev_idxPA (h9.mono l11) hy6 tu91 ts3 rfl rfl) F S rfl rfl ?_; clear F a; intro a F
             obtain ⟨cs2, hr4, hq1⟩ := elemO (h9.mono l11) hy7
             obtain rfl := rep_int hr4
             refine wl_ev (wg F rfl rfl rfl rfl hc5) (ev_load1 tu3 rfl rfl (hq1 _ _ 1 rfl)) F S rfl rfl ?_; clear F a; intro a F
             refine wl_ev (wg F rfl rfl rfl rfl hc5) (ev_int rfl rfl (bo_lss _ _ _ _)) F S rfl rfl ?_; clear F a; intro a F
             refine wE (ev_pickF rfl hc5 rfl) F S rfl fun a F=>?_
             obtain rfl := sinj hm
             refine wpList_nil (then_n ?_); exact ⟨rfl, F.sub ⟨rfl, rfl, rfl, rfl, rfl, rfl, rfl, rfl, rfl, rfl, rfl, trivial⟩⟩
           clear F; rintro a w' ⟨rfl, F⟩
           refine wpList_nil ?_
           refine then_n ?_
           obtain ⟨hc6, hm⟩ | ⟨hc6, hm⟩ := ite_or hm
           ·refine wp_condT F rfl hc6 ?_
            refine wp_region_lit ?_
            refine wE (ev_move rfl) F S rfl fun a F=>?_
            refine wE (ev_move rfl) F S rfl fun a F=>?_
            obtain ⟨y7, hy8, hm⟩ := bind_some hm
            have hy9 := (arr?_some hy8).2
            refine wE (ev_idxPA (h9.mono l11) hy8 tu91 ts3 rfl rfl) F S rfl fun a F=>?_
            obtain ⟨y8, hy10, hm⟩ := bind_some hm
            refine wl_storeW (z' := y5.1) (wn rfl) rfl F S (h9.mono l11) hy9 rfl rfl (us := [.i6 y5.1]) rfl ts3 (one_cons rfl one_nil) (k := 1) rfl rfl (show Rep.rep _ y5.1 _ from rfl) rfl ?_; clear S
            rintro c8 w h11 S; replace S : St g11 [[bx b5 #[.i6 y5.2.Code, .i6 y5.2.Index] 32], c8, [bx b1 #[.i6 0, .i6 0] 32]] fr w := S; replace h11 : OwnS g11 y8 v8 c8 := sinj hy10 ▸ h11
            refine wpList_nil ?_
            refine inb_n ?_
            refine then_n ?_
            replace S : St g11 [c8, [bx b1 #[.i6 0, .i6 0] 32]] fr w := St.tail [c8, [bx b1 #[.i6 0, .i6 0] 32]] _ ((S.frontC 2 rfl).frontC 2 rfl)
            exact ⟨y8, v8, c8, g11, F.sub ⟨rfl, rfl, rfl, rfl, rfl, rfl, rfl, rfl, trivial⟩, l11, S, h11, hm⟩
           ·refine wp_condF F rfl hc6 ?_
            refine wp_skip ?_
            refine inb_n ?_
            refine then_n ?_
            replace S : St g11 [c6, [bx b1 #[.i6 0, .i6 0] 32]] fr w := St.tail [c6, [bx b1 #[.i6 0, .i6 0] 32]] _ ((S.frontC 2 rfl).frontC 2 rfl)
            exact ⟨x8, v8, c6, g11, F.sub ⟨rfl, rfl, rfl, rfl, rfl, rfl, rfl, rfl, trivial⟩, l11, S, (h9.mono l11), hm⟩
          ·clear F S hm; rintro a w ⟨x10, v9, c7, g10, F, l10, S, h10, hm⟩
           refine wp_region_lit ?_
           obtain ⟨z2, hz3, hm⟩ := bind_some hm
           refine wE (ev_int rfl rfl (bo_add hz3)) F S rfl fun a F=>?_
           refine wE (ev_move rfl) F S rfl fun a F=>?_
           refine wpList_nil ?_
           refine then_n ?_
           obtain rfl := sinj hm
           refine ⟨_, rfl, ?_⟩
           dsimp only
           exact ⟨v9, c7, g10, F.sub ⟨rfl, rfl, rfl, rfl, rfl, rfl, rfl, rfl, trivial⟩, (l9.trans l10), S, h10⟩
         ·refine wp_condF F rfl hc4 ?_
          refine wp_exit ?_
          refine then_e ?_
          refine then_e ?_
          refine inb_x ?_
          refine then_n ?_
          obtain rfl := sinj hm
          obtain rfl := hfin2 _ rfl
          clear hm
          have hm : (rename_Sketch.j3 x2 x8 : Option (Step (Int × (List Int)) (List Int))) = some _ := hmo2
          exact ⟨x8, v8, c6, g9, F.sub ⟨rfl, rfl, rfl, rfl, rfl, trivial⟩, l9, S, h9, hm⟩
       ·clear F S hm; rintro a w ⟨x6, v7, c5, g8, F, l8, S, h8, hm⟩
        refine inb_n ?_
        refine then_n ?_
        exact ⟨x6, v7, c5, g8, F.sub ⟨rfl, rfl, rfl, rfl, rfl, trivial⟩, ((l6.trans l7).trans l8), S, h8, hm⟩
      ·clear F S hm; rintro a w ⟨x5, v5, c4, g5, F, l5, S, h6, hm⟩
       refine wp_region_lit ?_
       obtain ⟨z1, hz2, hm⟩ := bind_some hm
       refine wE (ev_int rfl rfl (bo_add hz2)) F S rfl fun a F=>?_
       refine wE (ev_move rfl) F S rfl fun a F=>?_
       refine wpList_nil ?_
       refine then_n ?_
       obtain rfl := sinj hm
       refine ⟨_, rfl, ?_⟩
       dsimp only
       exact ⟨v5, c4, g5, F.sub ⟨rfl, rfl, rfl, rfl, rfl, trivial⟩, (l4.trans l5), S, h6⟩
     ·refine wp_condF F rfl hc3 ?_
      refine wp_exit ?_
      refine then_e ?_
      refine then_e ?_
      refine inb_x ?_
      refine then_n ?_
      obtain rfl := sinj hm
      obtain rfl := hfin1 _ rfl
      clear hm
      have hm : (rename_Sketch.j1 x3 : Option ((List Int) × Fault)) = some _ := hmo1
      exact ⟨x3, v4, c3, g4, F.sub ⟨rfl, rfl, trivial⟩, l4, S, h5, hm⟩
   ·clear F S hm; rintro a w ⟨x1, v2, c2, g2, F, l2, S, h2, hm⟩
    refine wp_seq ?_
    refine wp_region_lit ?_
    obtain ⟨y2, hy2, hm⟩ := bind_some hm
    have hv1 := OwnS.hv h2 hy2 (by decide)
    obtain ⟨g3, l3, S, h3⟩ : ∃ gz, Le g2 gz ∧ St gz [[bx b1 #[.i6 0, .i6 0] 32]] fr w ∧ RepSl gz x1 v2 := ⟨_, Le.add _ _, S.freeze 0 rfl, OwnS.freeze (S.front 0 rfl) h2⟩
    obtain ⟨v3, h4, he1⟩ := ev_cutPA (P := Tryz.prog) (n := 62) (e := [(5, baseP v2), (3, bp b1 0)]) (C := fun w => St g3 [[bx b1 #[.i6 0, .i6 0] 32]] fr w) (x := .tmp 5) h3 hv1 hy2 tu91 ts3 rfl
    refine wE he1 F S rfl fun a F=>?_
    refine wE (ev_build (parts := []) (vs := []) rfl (fun w => tb32_  w)) F S rfl fun a F=>?_
    refine wE (ev_assign rfl) F S rfl fun a F=>?_
    refine wl_storeC (wn rfl) rfl F S rfl rfl (vs := [.i6 0, .i6 0]) rfl ts32 (one_cons rfl (one_cons rfl one_nil)) (k := 0) rfl (lb rfl) (c' := #[.i6 0, .i6 0]) rfl rfl ?_; clear S; intro w S
    refine wpList_nil ?_
    refine then_n ?_
    refine wp_ret ?_
    obtain rfl := sinj hm
    refine post_r _ F rfl (ar_cons (resT rfl) (ar_cons (resA rfl tu32 rfl (box_ptr (cells := [.i6 0, .i6 0]) 0 rfl 0 rfl (lb rfl) w S) ts32) ar_nil)) ?_
    replace S : St g3 [] fr w := St.tail [] _ S
    exact ⟨_, rfl, g3, v3, ((l1.trans l2).trans l3), S, h4, rfl⟩

theorem changeforgeref1_suffixes_ok {g : Gh} {fr : Hl} {w : World} {r : (List (List Int))} (a_ : (List ByteArray)) (va_1 : Value) (ha_1 : RepSl g a_ va_1) (b_ : (List ByteArray)) (vb_1 : Value) (hb_1 : RepSl g b_ vb_1) (S : St g [] fr w) (hm : changeforgeref1_suffixes a_ b_ = some r) :
  Calls Tryz.prog 131 [va_1, vb_1].toArray w (fun en w' => ∃ v, en = .returned v ∧ ∃ (g' : Gh) (v1 : Value), Le g g' ∧ St g' [] fr w' ∧ RepSl g' r v1 ∧ v1 = v) := by
 unfold changeforgeref1_suffixes at hm
 refine calls_enter (fn := Tryz.f131) Tryz.func131 rfl Tryz.ntmps131 (lb rfl) ?_
 intro a F
 replace F : Fr 104 a [(0, va_1), (1, vb_1)] := F
 refine wp_seq ?_
 refine wp_region_lit ?_
 refine wE (ev_assign rfl) F S rfl fun a F=>?_
 refine wpList_nil ?_
 refine then_n ?_
 refine wp_seq ?_
 refine wp_region_lit ?_
 refine wE (ev_move rfl) F S rfl fun a F=>?_
 refine wE (ev_lenSh hb_1 rfl tu28) F S rfl fun a F=>?_
 obtain ⟨z1, hz1, hm⟩ := bind_some hm
 refine wE (ev_int rfl rfl (bo_add hz1)) F S rfl fun a F=>?_
 obtain ⟨y1, hy1, hm⟩ := bind_some hm
 refine wl_makeN (wn rfl) rfl tu176 te47 (fun g => orep_list_mk (OwnS.nil g)) rfl hy1 (by decide) F S rfl rfl ?_; clear F a S; rintro v1 c1 a w h1 F S
 refine wE (ev_assign rfl) F S rfl fun a F=>?_
 refine wpList_nil ?_
 refine then_n ?_
 refine wp_cut (fun a w => ∃ (x1 : List (List Int)) (v2 : Value) (c2 : Hl) (g1 : Gh), Fr 104 a [(5, v2)] ∧ Le g g1 ∧ St g1 [c2] fr w ∧ OwnN g1 x1 v2 c2 ∧ changeforgeref1_suffixes.j1 x1 = some r) ?_ ?_
 ·refine wp_seq ?_
  refine wp_region_lit ?_
  refine wE (ev_move rfl) F S rfl fun a F=>?_
  refine wE (ev_lenSh hb_1 rfl tu28) F S rfl fun a F=>?_
  refine wE (ev_assign rfl) F S rfl fun a F=>?_
  refine wpList_nil ?_
  refine then_n ?_
  refine wp_block ?_
  obtain ⟨r1, hr1, hm⟩ := bind_some hm
  have hmo1 := hm; clear hm
  refine wp_iter (σ := Int × (List (List Int))) (ρ := (List (List Int))) (m := fun s => changeforgeref1_suffixes.l1 a_ b_ s.1 s.2) (I := fun s a w => match s with | (x2, x3) => ∃ (v3 : Value) (c3 : Hl) (g3 : Gh), Fr 104 a [(6, .i6 x2), (5, v3), (0, va_1), (1, vb_1)] ∧ Le g g3 ∧ St g3 [c3] fr w ∧ OwnN g3 x3 v3 c3) hr1 ?_ ?_
  ·dsimp only
   exact ⟨v1, c1, g, F.sub ⟨rfl, rfl, rfl, rfl, trivial⟩, (Le.refl _), S, h1⟩
  ·clear F S; rintro ⟨x2, x3⟩ a w x4 ⟨v3, c3, g3, F, l3, S, h4⟩ hx1 hfin1
   have hm : changeforgeref1_suffixes.l1 a_ b_ x2 x3 = some x4 := hx1; clear hx1
   unfold changeforgeref1_suffixes.l1 at hm
   refine wp_seq ?_
   refine wp_seq ?_
   refine wp_region_lit ?_
   refine wE (ev_move rfl) F S rfl fun a F=>?_
   refine wE (ev_int rfl rfl (bo_geq _ _ _ _)) F S rfl fun a F=>?_
   refine wpList_nil ?_
   refine then_n ?_
   obtain ⟨hc1, hm⟩ | ⟨hc1, hm⟩ := ite_or hm
   ·refine wp_condT F rfl hc1 ?_
    refine wp_skip ?_
    refine then_n ?_
    refine wp_cut (fun a w => ∃ (x5 : List (List Int)) (v4 : Value) (c4 : Hl) (g4 : Gh), Fr 104 a [(6, .i6 x2), (5, v4), (0, va_1), (1, vb_1)] ∧ Le g3 g4 ∧ St g4 [c4] fr w ∧ OwnN g4 x5 v4 c4 ∧ changeforgeref1_suffixes.j2 x2 x5 = some x4) ?_ ?_
    ·refine wp_block ?_
     refine wp_seq ?_
     refine wp_region_lit ?_
     refine wE (ev_move rfl) F S rfl fun a F=>?_
     refine wE (ev_move rfl) F S rfl fun a F=>?_
     refine wE (ev_move rfl) F S rfl fun a F=>?_
     refine wE (ev_lenSh ha_1 rfl tu28) F S rfl fun a F=>?_
     obtain ⟨z3, hz3, hm⟩ := bind_some hm
     refine wE (ev_int rfl rfl (bo_add hz3)) F S rfl fun a F=>?_
     obtain ⟨y2, hy2, hm⟩ := bind_some hm
     refine wl_make (wn rfl) rfl tu47 te3 (fun g => (show Rep.rep g (0 : Int) _ from rfl)) rfl hy2 (by decide) F S rfl rfl ?_; clear F a S; rintro v5 c5 a w h6 F S
     obtain ⟨y3, hy3, hm⟩ := bind_some hm
     refine wE (ev_idxN h4 hy3 tu176 ts47 rfl rfl) F S rfl fun a F=>?_
     replace S : St g3 [c3, c5] fr w := ((S.frontC 0 rfl).frontC 2 rfl)
     obtain ⟨cs1, ca1, cr1, ci1, hH1, hR1, hP1⟩ := OwnN.hole h4 hy3
     replace S : St g3 [ca1, cr1, ci1, c5] fr w := St.split3 hP1 S
     obtain ⟨v6, rfl, h7⟩ := orep_list hR1
     refine wl_storeH 0 (wn rfl) rfl F S hH1 addP_zero rfl rfl (us := [v5]) (OwnS.cl h6) ts47 (one_cons (OwnS.one h6) one_nil) (k := 0) rfl (lb rfl) (cs' := [v5]) rfl rfl ?_; clear S
     rintro ca2 w hH2 S; replace S : St g3 [ca2, cr1, ci1, c5] fr w := S
     refine wpList_nil ?_
     refine then_n ?_
     refine wp_seq ?_
     refine wp_seq ?_
     refine wp_region_lit ?_
     refine wE (ev_move rfl) F S rfl fun a F=>?_
     refine wE (ev_move rfl) F S rfl fun a F=>?_
     refine wE (ev_lenSh hb_1 rfl tu28) F S rfl fun a F=>?_
     refine wE (ev_int rfl rfl (bo_eql _ _ _ _)) F S rfl fun a F=>?_
     refine wpList_nil ?_
     refine then_n ?_
     obtain ⟨hc2, hm⟩ | ⟨hc2, hm⟩ := ite_or hm
     ·refine wp_condT F rfl hc2 ?_
      refine wp_exit ?_
      refine then_e ?_
      refine inb_x ?_
      refine then_n ?_
      replace S : St g3 [ca2, cr1, c5, ci1] fr w := ((((S.frontC 2 rfl).frontC 4 rfl).frontC 3 rfl).frontC 3 rfl)
      obtain ⟨y4, hy4, hm⟩ := bind_some hm
      have h8 := HoleN.shut hH2 (orep_list_mk h6); replace h8 : OwnN g3 y4 v3 (ca2 ++ (cr1 ++ c5)) := sinj hy4 ▸ h8
      replace S : St g3 [(ca2 ++ (cr1 ++ c5)), ci1] fr w := S.of_eq (by simp only [fl, List.append_assoc, List.append_nil, List.nil_append])
      generalize (ca2 ++ (cr1 ++ c5)) = c6 at S h8
      replace F := F.sub (e' := [(29, .bool (decide (x2 = (b_.length : Int)))), (28, .i6 (b_.length : Int)), (27, vb_1), (26, .i6 x2), (25, elemP v3 x2 1), (23, .i6 z3), (22, .i6 (a_.length : Int)), (21, va_1), (20, .i6 x2), (19, v3), (16, .bool (decide (x2 ≥ 0))), (15, .i6 x2), (6, .i6 x2), (5, v3), (0, va_1), (1, vb_1)]) ⟨rfl, rfl, rfl, rfl, rfl, rfl, rfl, rfl, rfl, rfl, rfl, rfl, rfl, rfl, rfl, rfl, trivial⟩
      replace S : St g3 [c6] fr w := St.tail [c6] _ (S.frontC 0 rfl)
      exact ⟨y4, v3, c6, g3, F.sub ⟨rfl, rfl, rfl, rfl, trivial⟩, (Le.refl _), S, h8, hm⟩
     ·refine wp_condF F rfl hc2 ?_
      refine wp_skip ?_
      refine then_n ?_
      refine wp_seq ?_
      refine wp_region_lit ?_
      refine wE (ev_move rfl) F S rfl fun a F=>?_
      refine wE (ev_lenSh ha_1 rfl tu28) F S rfl fun a F=>?_
      obtain ⟨z4, hz4, hm⟩ := bind_some hm
      refine wE (ev_int rfl rfl (bo_sub hz4)) F S rfl fun a F=>?_
      refine wE (ev_assign rfl) F S rfl fun a F=>?_
      refine wpList_nil ?_
      refine then_n ?_
      replace S : St g3 [ca2, cr1, c5, ci1] fr w := ((((S.frontC 2 rfl).frontC 4 rfl).frontC 3 rfl).frontC 3 rfl)
      obtain ⟨y5, hy5, hm⟩ := bind_some hm
      have h9 := HoleN.shut hH2 (orep_list_mk h6); replace h9 : OwnN g3 y5 v3 (ca2 ++ (cr1 ++ c5)) := sinj hy5 ▸ h9
      replace S : St g3 [(ca2 ++ (cr1 ++ c5)), ci1] fr w := S.of_eq (by simp only [fl, List.append_assoc, List.append_nil, List.nil_append])
      generalize (ca2 ++ (cr1 ++ c5)) = c7 at S h9
      replace F := F.sub (e' := [(7, .i6 z4), (32, .i6 z4), (31, .i6 (a_.length : Int)), (30, va_1), (29, .bool (decide (x2 = (b_.length : Int)))), (28, .i6 (b_.length : Int)), (27, vb_1), (26, .i6 x2), (25, elemP v3 x2 1), (23, .i6 z3), (22, .i6 (a_.length : Int)), (21, va_1), (20, .i6 x2), (19, v3), (16, .bool (decide (x2 ≥ 0))), (15, .i6 x2), (6, .i6 x2), (5, v3), (0, va_1), (1, vb_1)]) ⟨rfl, rfl, rfl, rfl, rfl, rfl, rfl, rfl, rfl, rfl, rfl, rfl, rfl, rfl, rfl, rfl, rfl, rfl, rfl, rfl, trivial⟩
      refine wp_cut1 (fun a w => ∃ (x6 : List (List Int)) (v7 : Value) (c8 : Hl) (g5 : Gh), Fr 104 a [(6, .i6 x2), (5, v7), (0, va_1), (1, vb_1)] ∧ Le g3 g5 ∧ St g5 [c8] fr w ∧ OwnN g5 x6 v7 c8 ∧ changeforgeref1_suffixes.j3 x2 x6 = some x4) ?_ ?_
      ·refine wp_block ?_
       obtain ⟨r2, hr2, hm⟩ := bind_some hm
       have hmo2 := hm; clear hm
       refine wp_iter (σ := Int × (List (List Int))) (ρ := (List (List Int))) (m := fun s => changeforgeref1_suffixes.l2 a_ b_ x2 s.1 s.2) (I := fun s a w => match s with | (x7, x8) => ∃ (v8 : Value) (c9 : Hl) (g6 : Gh), Fr 104 a [(7, .i6 x7), (6, .i6 x2), (5, v8), (0, va_1), (1, vb_1)] ∧ Le g3 g6 ∧ St g6 [c9] fr w ∧ OwnN g6 x8 v8 c9) hr2 ?_ ?_
       ·dsimp only
        replace S : St g3 [c7] fr w := St.tail [c7] _ (S.frontC 0 rfl)
        exact ⟨v3, c7, g3, F.sub ⟨rfl, rfl, rfl, rfl, rfl, trivial⟩, (Le.refl _), S, h9⟩
       ·clear F S; rintro ⟨x7, x8⟩ a w x9 ⟨v8, c9, g6, F, l6, S, h11⟩ hx2 hfin2
        have hm : changeforgeref1_suffixes.l2 a_ b_ x2 x7 x8 = some x9 := hx2; clear hx2
        unfold changeforgeref1_suffixes.l2 at hm
        refine wp_seq ?_
        refine wp_seq ?_
        refine wp_region_lit ?_
        refine wE (ev_move rfl) F S rfl fun a F=>?_
        refine wE (ev_int rfl rfl (bo_geq _ _ _ _)) F S rfl fun a F=>?_
        refine wpList_nil ?_
        refine then_n ?_
        obtain ⟨hc3, hm⟩ | ⟨hc3, hm⟩ := ite_or hm
        ·refine wp_condT F rfl hc3 ?_
         refine wp_skip ?_
         refine then_n ?_
         refine wp_seq ?_
         refine wp_block ?_
         refine wp_seq ?_
         refine wp_region_lit ?_
         refine wE (ev_move rfl) F S rfl fun a F=>?_
         refine wE (ev_move rfl) F S rfl fun a F=>?_
         obtain ⟨z5, hz5, hm⟩ := bind_some hm
         refine wE (ev_int rfl rfl (bo_add hz5)) F S rfl fun a F=>?_
         obtain ⟨y6, hy6, hm⟩ := bind_some hm
         refine wE (ev_idxN h11 hy6 tu176 ts47 rfl rfl) F S rfl fun a F=>?_
         obtain ⟨cs2, ca3, cr2, ci2, hH3, hR2, hP2⟩ := OwnN.hole h11 hy6
         replace S : St g6 [ca3, cr2, ci2] fr w := St.split3 hP2 S
         obtain ⟨v9, rfl, h12⟩ := orep_list hR2
         refine wE (ev_load1 tu47 rfl rfl (HoleN.ptr hH3 _ _ 0 rfl)) F S rfl fun a F=>?_
         refine wE (ev_move rfl) F S rfl fun a F=>?_
         obtain ⟨y7, hy7, hm⟩ := bind_some hm
         refine wE (ev_idxO h12 hy7 tu47 ts3 rfl rfl) F S rfl fun a F=>?_
         obtain ⟨cs3, hr3, hq1⟩ := elemO h12 hy7
         obtain rfl := rep_int hr3
         refine wE (ev_load1 tu3 rfl rfl (hq1 _ _ 2 rfl)) F S rfl fun a F=>?_
         refine wE (ev_assign rfl) F S rfl fun a F=>?_
         refine wpList_nil ?_
         refine then_n ?_
         have h13 : OwnN g6 x8 v8 (ca3 ++ (cr2 ++ ci2)) := HoleN.shut0 hH3 hy6 (orep_list_mk h12)
         replace S : St g6 [(ca3 ++ (cr2 ++ ci2))] fr w := S.of_eq (by simp only [fl, List.append_assoc, List.append_nil, List.nil_append])
         generalize (ca3 ++ (cr2 ++ ci2)) = c10 at S h13
         replace F := F.sub (e' := [(8, .i6 y7), (44, .i6 y7), (42, .i6 x7), (40, elemP v8 z5 1), (39, .i6 z5), (38, .i6 x2), (37, v8), (34, .bool (decide (x7 ≥ 0))), (33, .i6 x7), (7, .i6 x7), (6, .i6 x2), (5, v8), (0, va_1), (1, vb_1)]) ⟨rfl, rfl, rfl, rfl, rfl, rfl, rfl, rfl, rfl, rfl, rfl, rfl, rfl, rfl, trivial⟩
         refine wp_cut (fun a w => ∃ (x10 : Int) (x11 : List (List Int)) (v10 : Value) (c11 : Hl) (g7 : Gh), Fr 104 a [(8, .i6 x10), (7, .i6 x7), (6, .i6 x2), (5, v10), (0, va_1), (1, vb_1)] ∧ Le g6 g7 ∧ St g7 [c11] fr w ∧ OwnN g7 x11 v10 c11 ∧ changeforgeref1_suffixes.j4 a_ b_ x2 x7 x10 x11 = some x9) ?_ ?_
         ·refine wp_seq ?_
          refine wp_region_lit ?_
          refine wE (ev_move rfl) F S rfl fun a F=>?_
          refine wE (ev_move rfl) F S rfl fun a F=>?_
          obtain ⟨y18, hy18, hm⟩ := bind_some hm
          refine wE (ev_idxN h13 hy18 tu176 ts47 rfl rfl) F S rfl fun a F=>?_
          obtain ⟨cs11, ca7, cr6, ci6, hH7, hR6, hP6⟩ := OwnN.hole h13 hy18
          replace S : St g6 [ca7, cr6, ci6] fr w := St.split3 hP6 S
          obtain ⟨v15, rfl, h22⟩ := orep_list hR6
          refine wE (ev_load1 tu47 rfl rfl (HoleN.ptr hH7 _ _ 0 rfl)) F S rfl fun a F=>?_
          refine wE (ev_move rfl) F S rfl fun a F=>?_
          obtain ⟨z13, hz13, hm⟩ := bind_some hm
          refine wE (ev_int rfl rfl (bo_add hz13)) F S rfl fun a F=>?_
          obtain ⟨y19, hy19, hm⟩ := bind_some hm
          refine wE (ev_idxO h22 hy19 tu47 ts3 rfl rfl) F S rfl fun a F=>?_
          obtain ⟨cs12, hr8, hq4⟩ := elemO h22 hy19
          obtain rfl := rep_int hr8
          refine wE (ev_load1 tu3 rfl rfl (hq4 _ _ 2 rfl)) F S rfl fun a F=>?_
          refine wE (ev_move rfl) F S rfl fun a F=>?_
          refine wE (ev_int rfl rfl (bo_gtr _ _ _ _)) F S rfl fun a F=>?_
          refine wpList_nil ?_
          refine then_n ?_
          obtain ⟨hc6, hm⟩ | ⟨hc6, hm⟩ := ite_or hm
          ·refine wp_condT F rfl hc6 ?_
           refine wp_region_lit ?_
           refine wE (ev_move rfl) F S rfl fun a F=>?_
           refine wE (ev_move rfl) F S rfl fun a F=>?_
           refine wE (ev_idxH hH7 hy18 tu176 ts47 rfl rfl) F S rfl fun a F=>?_
           refine wE (ev_load1 tu47 rfl rfl (HoleN.ptr hH7 _ _ 0 rfl)) F S rfl fun a F=>?_
           refine wE (ev_move rfl) F S rfl fun a F=>?_
           obtain ⟨z14, hz14, hm⟩ := bind_some hm
           refine wE (ev_int rfl rfl (bo_add hz14)) F S rfl fun a F=>?_
           obtain ⟨y20, hy20, hm⟩ := bind_some hm
           refine wE (ev_idxO h22 hy20 tu47 ts3 rfl rfl) F S rfl fun a F=>?_
           obtain ⟨cs13, hr9, hq5⟩ := elemO h22 hy20
           obtain rfl := rep_int hr9
           refine wE (ev_load1 tu3 rfl rfl (hq5 _ _ 2 rfl)) F S rfl fun a F=>?_
           refine wE (ev_assign rfl) F S rfl fun a F=>?_
           refine wpList_nil ?_
           refine then_n ?_
           have h23 : OwnN g6 x8 v8 (ca7 ++ (cr6 ++ ci6)) := HoleN.shut0 hH7 hy18 (orep_list_mk h22)
           replace S : St g6 [(ca7 ++ (cr6 ++ ci6))] fr w := S.of_eq (by simp only [fl, List.append_assoc, List.append_nil, List.nil_append])
           generalize (ca7 ++ (cr6 ++ ci6)) = c16 at S h23
           replace F := F.sub (e' := [(8, .i6 y20), (62, .i6 y20), (60, .i6 z14), (59, .i6 x7), (57, elemP v8 x2 1), (56, .i6 x2), (55, v8), (54, .bool (decide (y19 > y7))), (53, .i6 y7), (52, .i6 y19), (50, .i6 z13), (49, .i6 x7), (47, elemP v8 x2 1), (46, .i6 x2), (45, v8), (44, .i6 y7), (42, .i6 x7), (40, elemP v8 z5 1), (39, .i6 z5), (38, .i6 x2), (37, v8), (34, .bool (decide (x7 ≥ 0))), (33, .i6 x7), (7, .i6 x7), (6, .i6 x2), (5, v8), (0, va_1), (1, vb_1)]) ⟨rfl, rfl, rfl, rfl, rfl, rfl, rfl, rfl, rfl, rfl, rfl, rfl, rfl, rfl, rfl, rfl, rfl, rfl, rfl, rfl, rfl, rfl, rfl, rfl, rfl, rfl, rfl, rfl, trivial⟩
           exact ⟨y20, x8, v8, c16, g6, F.sub ⟨rfl, rfl, rfl, rfl, rfl, rfl, trivial⟩, (Le.refl _), S, h23, hm⟩
          ·refine wp_condF F rfl hc6 ?_
           refine wp_skip ?_
           refine then_n ?_
           have h24 : OwnN g6 x8 v8 (ca7 ++ (cr6 ++ ci6)) := HoleN.shut0 hH7 hy18 (orep_list_mk h22)
           replace S : St g6 [(ca7 ++ (cr6 ++ ci6))] fr w := S.of_eq (by simp only [fl, List.append_assoc, List.append_nil, List.nil_append])
           generalize (ca7 ++ (cr6 ++ ci6)) = c17 at S h24
           replace F := F.sub (e' := [(54, .bool (decide (y19 > y7))), (53, .i6 y7), (52, .i6 y19), (50, .i6 z13), (49, .i6 x7), (47, elemP v8 x2 1), (46, .i6 x2), (45, v8), (8, .i6 y7), (44, .i6 y7), (42, .i6 x7), (40, elemP v8 z5 1), (39, .i6 z5), (38, .i6 x2), (37, v8), (34, .bool (decide (x7 ≥ 0))), (33, .i6 x7), (7, .i6 x7), (6, .i6 x2), (5, v8), (0, va_1), (1, vb_1)]) ⟨rfl, rfl, rfl, rfl, rfl, rfl, rfl, rfl, rfl, rfl, rfl, rfl, rfl, rfl, rfl, rfl, rfl, rfl, rfl, rfl, rfl, rfl, trivial⟩
           exact ⟨y7, x8, v8, c17, g6, F.sub ⟨rfl, rfl, rfl, rfl, rfl, rfl, trivial⟩, (Le.refl _), S, h24, hm⟩
         ·clear F S hm; rintro a w ⟨x10, x11, v10, c11, g7, F, l7, S, h14, hm⟩
          refine wp_cut (fun a w => ∃ (x12 : Int) (x13 : List (List Int)) (v11 : Value) (c12 : Hl) (g8 : Gh), Fr 104 a [(8, .i6 x12), (7, .i6 x7), (6, .i6 x2), (5, v11), (0, va_1), (1, vb_1)] ∧ Le g7 g8 ∧ St g8 [c12] fr w ∧ OwnN g8 x13 v11 c12 ∧ changeforgeref1_suffixes.j5 x2 x7 x12 x13 = some x9) ?_ ?_
          ·refine wp_seq ?_
           refine wp_quiet mo (by kernel_rfl) S ?_
           refine wq_ev (wn rfl) (ev_move rfl) F rfl rfl ?_; clear F a; intro a F
           refine wq_ev (wn rfl) (ev_move rfl) F rfl rfl ?_; clear F a; intro a F
           obtain ⟨y12, hy12, hm⟩ := bind_some hm
           obtain ⟨cs5, hr4, hp1⟩ := elemS (ha_1.mono ((l3.trans l6).trans l7)) hy12
           obtain rfl := rep_str hr4
           refine wq_ev (wn rfl) (ev_idxS (ha_1.mono ((l3.trans l6).trans l7)) hy12 tu28 ts9 rfl rfl) F rfl rfl ?_; clear F a; intro a F
           refine wq_ev (wn rfl) (ev_load1 tu9 rfl rfl (ptr_mono (cks := [c11]) (fr := fr) hp1 (Le.refl _))) F rfl rfl ?_; clear F a; intro a F
           refine wq_ev (wn rfl) (ev_move rfl) F rfl rfl ?_; clear F a; intro a F
           refine wq_ev (wn rfl) (ev_move rfl) F rfl rfl ?_; clear F a; intro a F
           obtain ⟨y13, hy13, hm⟩ := bind_some hm
           obtain ⟨cs6, hr5, hp2⟩ := elemS (hb_1.mono ((l3.trans l6).trans l7)) hy13
           obtain rfl := rep_str hr5
           refine wq_ev (wn rfl) (ev_idxS (hb_1.mono ((l3.trans l6).trans l7)) hy13 tu28 ts9 rfl rfl) F rfl rfl ?_; clear F a; intro a F
           refine wq_ev (wn rfl) (ev_load1 tu9 rfl rfl (ptr_mono (cks := [c11]) (fr := fr) hp2 (Le.refl _))) F rfl rfl ?_; clear F a; intro a F
           refine wq_ev (wn rfl) (ev_str rfl rfl (bs_eql _ _ _)) F rfl rfl ?_; clear F a; intro a F
           refine wq_ev (wn rfl) (ev_move rfl) F rfl rfl ?_; clear F a; intro a F
           obtain ⟨x14, hx3, hm⟩ := bind_some hm
           refine wq_cut 13 (fun a => Fr 104 a [(85, .bool x14), (8, .i6 x10), (7, .i6 x7), (6, .i6 x2), (5, v10), (0, va_1), (1, vb_1)]) ?_ ?_
           ·clear hm; obtain ⟨hc4, hm⟩ | ⟨hc4, hm⟩ := ite_or hx3
            ·refine wq_ev (wg F rfl rfl rfl rfl hc4) (ev_move rfl) F rfl rfl ?_; clear F a; intro a F
             refine wq_ev (wg F rfl rfl rfl rfl hc4) (ev_move rfl) F rfl rfl ?_; clear F a; intro a F
             obtain ⟨z7, hz7, hm⟩ := bind_some hm
             refine wq_ev (wg F rfl rfl rfl rfl hc4) (ev_int rfl rfl (bo_add hz7)) F rfl rfl ?_; clear F a; intro a F
             obtain ⟨y14, hy14, hm⟩ := bind_some hm
             refine wq_ev (wg F rfl rfl rfl rfl hc4) (ev_idxN h14 hy14 tu176 ts47 rfl rfl) F rfl rfl ?_; clear F a; intro a F
             obtain ⟨cs7, ca5, cr4, ci4, hH5, hR4, hP4⟩ := OwnN.hole h14 hy14
             obtain ⟨v13, rfl, h19⟩ := orep_list hR4
             have hV1 : ∀ w, St g7 [c11] fr w → St g7 [ca5, cr4, ci4] fr w := fun w S => by replace S : St g7 [ca5, cr4, ci4] fr w := St.split3 hP4 S; exact S
             refine wq_ev (wg F rfl rfl rfl rfl hc4) (ev_load1 tu47 rfl rfl (fun w s => (HoleN.ptr hH5 _ _ 0 rfl) w (hV1 w s))) F rfl rfl ?_; clear F a; intro a F
             refine wq_ev (wg F rfl rfl rfl rfl hc4) (ev_move rfl) F rfl rfl ?_; clear F a; intro a F
             obtain ⟨z8, hz8, hm⟩ := bind_some hm
             refine wq_ev (wg F rfl rfl rfl rfl hc4) (ev_int rfl rfl (bo_add hz8)) F rfl rfl ?_; clear F a; intro a F
             obtain ⟨y15, hy15, hm⟩ := bind_some hm
             refine wq_ev (wg F rfl rfl rfl rfl hc4) (ev_idxO h19 hy15 tu47 ts3 rfl rfl) F rfl rfl ?_; clear F a; intro a F
             obtain ⟨cs8, hr6, hq2⟩ := elemO h19 hy15
             obtain rfl := rep_int hr6
             refine wq_ev (wg F rfl rfl rfl rfl hc4) (ev_load1 tu3 rfl rfl (fun w s => (hq2 _ _ 2 rfl) w (hV1 w s))) F rfl rfl ?_; clear F a; intro a F
             obtain ⟨z9, hz9, hm⟩ := bind_some hm
             refine wq_ev (wg F rfl rfl rfl rfl hc4) (ev_int rfl rfl (bo_add hz9)) F rfl rfl ?_; clear F a; intro a F
             refine wq_ev (wg F rfl rfl rfl rfl hc4) (ev_move rfl) F rfl rfl ?_; clear F a; intro a F
             refine wq_ev (wg F rfl rfl rfl rfl hc4) (ev_int rfl rfl (bo_gtr _ _ _ _)) F rfl rfl ?_; clear F a; intro a F
             refine wq_ev (wn rfl) (ev_pickT rfl hc4 rfl) F rfl rfl ?_; clear F a; intro a F
             obtain rfl := sinj hm
             refine wq_nil ?_; exact F.sub ⟨rfl, rfl, rfl, rfl, rfl, rfl, rfl, trivial⟩
            ·refine wq_skip rfl rfl rfl rfl (ne_tf hc4) F rfl rfl ?_; clear F a; intro a F
             refine wq_skip rfl rfl rfl rfl (ne_tf hc4) F rfl rfl ?_; clear F a; intro a F
             refine wq_skip rfl rfl rfl rfl (ne_tf hc4) F rfl rfl ?_; clear F a; intro a F
             refine wq_skip rfl rfl rfl rfl (ne_tf hc4) F rfl rfl ?_; clear F a; intro a F
             refine wq_skip rfl rfl rfl rfl (ne_tf hc4) F rfl rfl ?_; clear F a; intro a F
             refine wq_skip rfl rfl rfl rfl (ne_tf hc4) F rfl rfl ?_; clear F a; intro a F
             refine wq_skip rfl rfl rfl rfl (ne_tf hc4) F rfl rfl ?_; clear F a; intro a F
             refine wq_skip rfl rfl rfl rfl (ne_tf hc4) F rfl rfl ?_; clear F a; intro a F
             refine wq_skip rfl rfl rfl rfl (ne_tf hc4) F rfl rfl ?_; clear F a; intro a F
             refine wq_skip rfl rfl rfl rfl (ne_tf hc4) F rfl rfl ?_; clear F a; intro a F
             refine wq_skip rfl rfl rfl rfl (ne_tf hc4) F rfl rfl ?_; clear F a; intro a F
             refine wq_skip rfl rfl rfl rfl (ne_tf hc4) F rfl rfl ?_; clear F a; intro a F
             refine wq_ev (wn rfl) (ev_pickF rfl hc4 rfl) F rfl rfl ?_; clear F a; intro a F
             obtain rfl := sinj hm
             refine wq_nil ?_; exact F.sub ⟨rfl, rfl, rfl, rfl, rfl, rfl, rfl, trivial⟩
           clear F; intro a F
           refine wq_nil ?_; clear S; intro w S
           refine then_n ?_
           obtain ⟨hc5, hm⟩ | ⟨hc5, hm⟩ := ite_or hm
           ·refine wp_condT F rfl hc5 ?_
            refine wp_region_lit ?_
            refine wE (ev_move rfl) F S rfl fun a F=>?_
            refine wE (ev_move rfl) F S rfl fun a F=>?_
            obtain ⟨z10, hz10, hm⟩ := bind_some hm
            refine wE (ev_int rfl rfl (bo_add hz10)) F S rfl fun a F=>?_
            obtain ⟨y16, hy16, hm⟩ := bind_some hm
            refine wE (ev_idxN h14 hy16 tu176 ts47 rfl rfl) F S rfl fun a F=>?_
            obtain ⟨cs9, ca6, cr5, ci5, hH6, hR5, hP5⟩ := OwnN.hole h14 hy16
            replace S : St g7 [ca6, cr5, ci5] fr w := St.split3 hP5 S
            obtain ⟨v14, rfl, h20⟩ := orep_list hR5
            refine wE (ev_load1 tu47 rfl rfl (HoleN.ptr hH6 _ _ 0 rfl)) F S rfl fun a F=>?_
            refine wE (ev_move rfl) F S rfl fun a F=>?_
            obtain ⟨z11, hz11, hm⟩ := bind_some hm
            refine wE (ev_int rfl rfl (bo_add hz11)) F S rfl fun a F=>?_
            obtain ⟨y17, hy17, hm⟩ := bind_some hm
            refine wE (ev_idxO h20 hy17 tu47 ts3 rfl rfl) F S rfl fun a F=>?_
            obtain ⟨cs10, hr7, hq3⟩ := elemO h20 hy17
            obtain rfl := rep_int hr7
            refine wE (ev_load1 tu3 rfl rfl (hq3 _ _ 2 rfl)) F S rfl fun a F=>?_
            obtain ⟨z12, hz12, hm⟩ := bind_some hm
            refine wE (ev_int rfl rfl (bo_add hz12)) F S rfl fun a F=>?_
            refine wE (ev_assign rfl) F S rfl fun a F=>?_
            refine wpList_nil ?_
            refine then_n ?_
            have h21 : OwnN g7 x11 v10 (ca6 ++ (cr5 ++ ci5)) := HoleN.shut0 hH6 hy16 (orep_list_mk h20)
            replace S : St g7 [(ca6 ++ (cr5 ++ ci5))] fr w := S.of_eq (by simp only [fl, List.append_assoc, List.append_nil, List.nil_append])
            generalize (ca6 ++ (cr5 ++ ci5)) = c15 at S h21
            replace F := F.sub (e' := [(8, .i6 z12), (95, .i6 z12), (94, .i6 y17), (92, .i6 z11), (91, .i6 x7), (89, elemP v10 z10 1), (88, .i6 z10), (87, .i6 x2), (86, v10), (85, .bool x14), (7, .i6 x7), (6, .i6 x2), (5, v10), (0, va_1), (1, vb_1)]) ⟨rfl, rfl, rfl, rfl, rfl, rfl, rfl, rfl, rfl, rfl, rfl, rfl, rfl, rfl, rfl, trivial⟩
            exact ⟨z12, x11, v10, c15, g7, F.sub ⟨rfl, rfl, rfl, rfl, rfl, rfl, trivial⟩, (Le.refl _), S, h21, hm⟩
           ·refine wp_condF F rfl hc5 ?_
            refine wp_skip ?_
            refine then_n ?_
            exact ⟨x10, x11, v10, c11, g7, F.sub ⟨rfl, rfl, rfl, rfl, rfl, rfl, trivial⟩, (Le.refl _), S, h14, hm⟩
          ·clear F S hm; rintro a w ⟨x12, x13, v11, c12, g8, F, l8, S, h15, hm⟩
           refine wp_region_lit ?_
           refine wE (ev_move rfl) F S rfl fun a F=>?_
           refine wE (ev_move rfl) F S rfl fun a F=>?_
           obtain ⟨y8, hy8, hm⟩ := bind_some hm
           refine wE (ev_idxN h15 hy8 tu176 ts47 rfl rfl) F S rfl fun a F=>?_
           obtain ⟨cs4, ca4, cr3, ci3, hH4, hR3, hP3⟩ := OwnN.hole h15 hy8
           replace S : St g8 [ca4, cr3, ci3] fr w := St.split3 hP3 S
           obtain ⟨v12, rfl, h16⟩ := orep_list hR3
           refine wE (ev_load1 tu47 rfl rfl (HoleN.ptr hH4 _ _ 0 rfl)) F S rfl fun a F=>?_
           refine wE (ev_move rfl) F S rfl fun a F=>?_
           refine wE (ev_move rfl) F S rfl fun a F=>?_
           obtain ⟨y9, hy9, hm⟩ := bind_some hm
           refine wE (ev_idxO h16 hy9 tu47 ts3 rfl rfl) F S rfl fun a F=>?_
           obtain ⟨y10, hy10, hm⟩ := bind_some hm
           refine wl_storeW (z' := x12) (wn rfl) rfl F S h16 hy9 rfl rfl (us := [.i6 x12]) rfl ts3 (one_cons rfl one_nil) (k := 2) rfl rfl (show Rep.rep _ x12 _ from rfl) rfl ?_; clear S
           rintro c13 w h17 S; replace S : St g8 [ca4, cr3, c13] fr w := S; replace h17 : OwnS g8 y10 v12 c13 := sinj hy10 ▸ h17
           refine wpList_nil ?_
           refine inb_n ?_
           refine then_n ?_
           refine wp_region_lit ?_
           refine wE (ev_move rfl) F S rfl fun a F=>?_
           obtain ⟨z6, hz6, hm⟩ := bind_some hm
           refine wE (ev_int rfl rfl (bo_sub hz6)) F S rfl fun a F=>?_
           refine wE (ev_assign rfl) F S rfl fun a F=>?_
           refine wpList_nil ?_
           refine then_n ?_
           obtain ⟨y11, hy11, hm⟩ := bind_some hm
           have h18 := HoleN.shut hH4 (orep_list_mk h17); replace h18 : OwnN g8 y11 v11 (ca4 ++ (cr3 ++ c13)) := sinj hy11 ▸ h18
           replace S : St g8 [(ca4 ++ (cr3 ++ c13))] fr w := S.of_eq (by simp only [fl, List.append_assoc, List.append_nil, List.nil_append])
           generalize (ca4 ++ (cr3 ++ c13)) = c14 at S h18
           replace F := F.sub (e' := [(7, .i6 z6), (36, .i6 z6), (35, .i6 x7), (101, .i6 x12), (100, .i6 x7), (98, elemP v11 x2 1), (97, .i6 x2), (96, v11), (8, .i6 x12), (6, .i6 x2), (5, v11), (0, va_1), (1, vb_1)]) ⟨rfl, rfl, rfl, rfl, rfl, rfl, rfl, rfl, rfl, rfl, rfl, rfl, rfl, trivial⟩
           obtain rfl := sinj hm
           refine ⟨_, rfl, ?_⟩
           dsimp only
           exact ⟨v11, c14, g8, F.sub ⟨rfl, rfl, rfl, rfl, rfl, trivial⟩, ((l6.trans l7).trans l8), S, h18⟩
        ·refine wp_condF F rfl hc3 ?_
         refine wp_exit ?_
         refine then_e ?_
         refine then_e ?_
         refine inb_x ?_
         refine then_n ?_
         obtain rfl := sinj hm
         obtain rfl := hfin2 _ rfl
         clear hm
         have hm : (changeforgeref1_suffixes.j3 x2 x8 : Option (Step (Int × (List (List Int))) (List (List Int)))) = some _ := hmo2
         exact ⟨x8, v8, c9, g6, F.sub ⟨rfl, rfl, rfl, rfl, trivial⟩, l6, S, h11, hm⟩
      ·clear F S hm; rintro a w ⟨x6, v7, c8, g5, F, l5, S, h10, hm⟩
       refine inb_n ?_
       refine then_n ?_
       exact ⟨x6, v7, c8, g5, F.sub ⟨rfl, rfl, rfl, rfl, trivial⟩, l5, S, h10, hm⟩
    ·clear F S hm; rintro a w ⟨x5, v4, c4, g4, F, l4, S, h5, hm⟩
     refine wp_region_lit ?_
     refine wE (ev_move rfl) F S rfl fun a F=>?_
     obtain ⟨z2, hz2, hm⟩ := bind_some hm
     refine wE (ev_int rfl rfl (bo_sub hz2)) F S rfl fun a F=>?_
     refine wE (ev_assign rfl) F S rfl fun a F=>?_
     refine wpList_nil ?_
     refine then_n ?_
     obtain rfl := sinj hm
     refine ⟨_, rfl, ?_⟩
     dsimp only
     exact ⟨v4, c4, g4, F.sub ⟨rfl, rfl, rfl, rfl, trivial⟩, (l3.trans l4), S, h5⟩
   ·refine wp_condF F rfl hc1 ?_
    refine wp_exit ?_
    refine then_e ?_
    refine then_e ?_
    refine inb_x ?_
    refine then_n ?_
    obtain rfl := sinj hm
    obtain rfl := hfin1 _ rfl
    clear hm
    have hm : (changeforgeref1_suffixes.j1 x3 : Option (List (List Int))) = some _ := hmo1
    exact ⟨x3, v3, c3, g3, F.sub ⟨rfl, trivial⟩, l3, S, h4, hm⟩
 ·clear F S hm; rintro a w ⟨x1, v2, c2, g1, F, l1, S, h2, hm⟩
  refine wp_seq ?_
  refine wp_region_lit ?_
  refine wE (ev_move rfl) F S rfl fun a F=>?_
  refine wE (ev_assign rfl) F S rfl fun a F=>?_
  refine wpList_nil ?_
  refine then_n ?_
  refine wp_ret ?_
  obtain rfl := sinj hm
  obtain ⟨g2, l2, S, h3⟩ : ∃ gz, Le g1 gz ∧ St gz [] fr w ∧ RepSl gz x1 v2 := ⟨_, Le.add _ _, S.freeze 0 rfl, OwnN.freeze (S.front 0 rfl) h2⟩
  refine post_r _ F rfl (ar_cons (resT rfl) ar_nil) ?_
  exact ⟨_, rfl, g2, v2, (l1.trans l2), S, h3, rfl⟩

theorem changeforgeref1_Align_ok {g : Gh} {fr : Hl} {w : World} {r : (List Step_changeforgeref1)} (a_ : (List ByteArray)) (va_1 : Value) (ha_1 : RepSl g a_ va_1) (b_ : (List ByteArray)) (vb_1 : Value) (hb_1 : RepSl g b_ vb_1) (S : St g [] fr w) (hm : changeforgeref1_Align a_ b_ = some r) :
  Calls Tryz.prog 92 [va_1, vb_1].toArray w (fun en w' => ∃ v, en = .returned v ∧ ∃ (g' : Gh) (v1 : Value) (c1 : Hl), Le g g' ∧ St g' [c1] fr w' ∧ OwnS g' r v1 c1 ∧ v1 = v) := by
 unfold changeforgeref1_Align at hm
 refine calls_enter (fn := Tryz.f92) Tryz.func92 rfl Tryz.ntmps92 (lb rfl) ?_
 intro a F
 replace F : Fr 105 a [(0, va_1), (1, vb_1)] := F
 refine wp_seq ?_
 refine wp_region_lit ?_
 refine wE (ev_assign rfl) F S rfl fun a F=>?_
 refine wpList_nil ?_
 refine then_n ?_
 refine wp_seq ?_
 refine wp_region_lit ?_
 refine wE (ev_move rfl) F S rfl fun a F=>?_
 refine wE (ev_move rfl) F S rfl fun a F=>?_
 obtain ⟨y1, hy1, hm⟩ := bind_some hm
 refine wl_call0 (wn rfl) rfl F rfl (changeforgeref1_suffixes_ok a_ va_1 ha_1 b_ vb_1 hb_1 S hy1) rfl tc131 rfl rfl ?_; clear F a S
 rintro _ a w ⟨g1, v1, l1, S, h1, rfl⟩ F; replace S : St g1 [] fr w := S
 refine wE (ev_assign rfl) F S rfl fun a F=>?_
 refine wpList_nil ?_
 refine then_n ?_
 refine wp_seq ?_
 refine wp_region_lit ?_
 refine wE (ev_assign rfl) F S rfl fun a F=>?_
 refine wpList_nil ?_
 refine then_n ?_
 refine wp_seq ?_
 refine wp_region_lit ?_
 refine wE (ev_assign rfl) F S rfl fun a F=>?_
 refine wpList_nil ?_
 refine then_n ?_
 refine wp_seq ?_
 refine wp_region_lit ?_
 refine wE (ev_assign rfl) F S rfl fun a F=>?_
 refine wpList_nil ?_
 refine then_n ?_
 refine wp_cut (fun a w => ∃ (x1 : List Step_changeforgeref1) (v2 : Value) (c1 : Hl) (g2 : Gh), Fr 105 a [(6, v2)] ∧ Le g1 g2 ∧ St g2 [c1] fr w ∧ OwnS g2 x1 v2 c1 ∧ changeforgeref1_Align.j1 x1 = some r) ?_ ?_
 ·refine wp_block ?_
  obtain ⟨r1, hr1, hm⟩ := bind_some hm
  have hmo1 := hm; clear hm
  refine wp_iter (σ := Int × Int × (List Step_changeforgeref1)) (ρ := (List Step_changeforgeref1)) (m := fun s => changeforgeref1_Align.l1 a_ b_ y1 s.1 s.2.1 s.2.2) (I := fun s a w => match s with | (x2, x3, x4) => ∃ (v3 : Value) (c2 : Hl) (g3 : Gh), Fr 105 a [(8, .i6 x2), (7, .i6 x3), (6, v3), (5, v1), (0, va_1), (1, vb_1)] ∧ Le g1 g3 ∧ St g3 [c2] fr w ∧ OwnS g3 x4 v3 c2) hr1 ?_ ?_
  ·dsimp only
   replace S : St g1 [[]] fr w := S
   exact ⟨(nilS), [], g1, F.sub ⟨rfl, rfl, rfl, rfl, rfl, rfl, trivial⟩, (Le.refl _), S, (OwnS.nil _)⟩
  ·clear F S; rintro ⟨x2, x3, x4⟩ a w x5 ⟨v3, c2, g3, F, l3, S, h3⟩ hx1 hfin1
   have hm : changeforgeref1_Align.l1 a_ b_ y1 x2 x3 x4 = some x5 := hx1; clear hx1
   unfold changeforgeref1_Align.l1 at hm
   refine wp_seq ?_
   refine wp_seq ?_
   refine wp_region_lit ?_
   refine wE (ev_move rfl) F S rfl fun a F=>?_
   refine wE (ev_move rfl) F S rfl fun a F=>?_
   refine wE (ev_lenSh ha_1 rfl tu28) F S rfl fun a F=>?_
   refine wE (ev_int rfl rfl (bo_lss _ _ _ _)) F S rfl fun a F=>?_
   refine wE (ev_move rfl) F S rfl fun a F=>?_
   obtain ⟨x6, hx2, hm⟩ := bind_some hm
   refine wl_cut 5 (fun a w' => w = w' ∧ Fr 105 a [(21, .bool x6), (8, .i6 x2), (7, .i6 x3), (6, v3), (5, v1), (0, va_1), (1, vb_1)]) ?_ ?_
   ·clear hm; obtain ⟨hc1, hm⟩ | ⟨hc1, hm⟩ := ite_or hx2
    ·refine wl_skip rfl rfl rfl rfl (ne_ft hc1) F rfl rfl ?_; clear F a; intro a F
     refine wl_skip rfl rfl rfl rfl (ne_ft hc1) F rfl rfl ?_; clear F a; intro a F
     refine wl_skip rfl rfl rfl rfl (ne_ft hc1) F rfl rfl ?_; clear F a; intro a F
     refine wl_skip rfl rfl rfl rfl (ne_ft hc1) F rfl rfl ?_; clear F a; intro a F
     refine wE (ev_pickT rfl hc1 rfl) F S rfl fun a F=>?_
     obtain rfl := sinj hm
     refine wpList_nil (then_n ?_); exact ⟨rfl, F.sub ⟨rfl, rfl, rfl, rfl, rfl, rfl, rfl, trivial⟩⟩
    ·refine wl_ev (wg F rfl rfl rfl rfl hc1) (ev_move rfl) F S rfl rfl ?_; clear F a; intro a F
     refine wl_ev (wg F rfl rfl rfl rfl hc1) (ev_move rfl) F S rfl rfl ?_; clear F a; intro a F
     refine wl_ev (wg F rfl rfl rfl rfl hc1) (ev_lenSh hb_1 rfl tu28) F S rfl rfl ?_; clear F a; intro a F
     refine wl_ev (wg F rfl rfl rfl rfl hc1) (ev_int rfl rfl (bo_lss _ _ _ _)) F S rfl rfl ?_; clear F a; intro a F
     refine wE (ev_pickF rfl hc1 rfl) F S rfl fun a F=>?_
     obtain rfl := sinj hm
     refine wpList_nil (then_n ?_); exact ⟨rfl, F.sub ⟨rfl, rfl, rfl, rfl, rfl, rfl, rfl, trivial⟩⟩
   clear F; rintro a w' ⟨rfl, F⟩
   refine wpList_nil ?_
   refine then_n ?_
   obtain ⟨hc2, hm⟩ | ⟨hc2, hm⟩ := ite_or hm
   ·refine wp_condT F rfl hc2 ?_
    refine wp_skip ?_
    refine then_n ?_
    refine wp_block ?_
    refine wp_seq ?_
    refine wp_seq ?_
    refine wp_quiet mo (by kernel_rfl) S ?_
    refine wq_ev (wn rfl) (ev_move rfl) F rfl rfl ?_; clear F a; intro a F
    refine wq_ev (wn rfl) (ev_move rfl) F rfl rfl ?_; clear F a; intro a F
    refine wq_ev (wn rfl) (ev_lenSh ha_1 rfl tu28) F rfl rfl ?_; clear F a; intro a F
    refine wq_ev (wn rfl) (ev_int rfl rfl (bo_lss _ _ _ _)) F rfl rfl ?_; clear F a; intro a F
    refine wq_ev (wn rfl) (ev_move rfl) F rfl rfl ?_; clear F a; intro a F
    obtain ⟨x7, hx3, hm⟩ := bind_some hm
    refine wq_cut 5 (fun a => Fr 105 a [(31, .bool x7), (8, .i6 x2), (7, .i6 x3), (6, v3), (5, v1), (0, va_1), (1, vb_1)]) ?_ ?_
    ·clear hm; obtain ⟨hc3, hm⟩ | ⟨hc3, hm⟩ := ite_or hx3
     ·refine wq_ev (wg F rfl rfl rfl rfl hc3) (ev_move rfl) F rfl rfl ?_; clear F a; intro a F
      refine wq_ev (wg F rfl rfl rfl rfl hc3) (ev_move rfl) F rfl rfl ?_; clear F a; intro a F
      refine wq_ev (wg F rfl rfl rfl rfl hc3) (ev_lenSh hb_1 rfl tu28) F rfl rfl ?_; clear F a; intro a F
      refine wq_ev (wg F rfl rfl rfl rfl hc3) (ev_int rfl rfl (bo_lss _ _ _ _)) F rfl rfl ?_; clear F a; intro a F
      refine wq_ev (wn rfl) (ev_pickT rfl hc3 rfl) F rfl rfl ?_; clear F a; intro a F
      obtain rfl := sinj hm
      refine wq_nil ?_; exact F.sub ⟨rfl, rfl, rfl, rfl, rfl, rfl, rfl, trivial⟩
     ·refine wq_skip rfl rfl rfl rfl (ne_tf hc3) F rfl rfl ?_; clear F a; intro a F
      refine wq_skip rfl rfl rfl rfl (ne_tf hc3) F rfl rfl ?_; clear F a; intro a F
      refine wq_skip rfl rfl rfl rfl (ne_tf hc3) F rfl rfl ?_; clear F a; intro a F
      refine wq_skip rfl rfl rfl rfl (ne_tf hc3) F rfl rfl ?_; clear F a; intro a F
      refine wq_ev (wn rfl) (ev_pickF rfl hc3 rfl) F rfl rfl ?_; clear F a; intro a F
      obtain rfl := sinj hm
      refine wq_nil ?_; exact F.sub ⟨rfl, rfl, rfl, rfl, rfl, rfl, rfl, trivial⟩
    clear F; intro a F
    refine wq_ev (wn rfl) (ev_move rfl) F rfl rfl ?_; clear F a; intro a F
    obtain ⟨x8, hx4, hm⟩ := bind_some hm
    refine wq_cut 10 (fun a => Fr 105 a [(42, .bool x8), (8, .i6 x2), (7, .i6 x3), (6, v3), (5, v1), (0, va_1), (1, vb_1)]) ?_ ?_
    ·clear hm; obtain ⟨hc4, hm⟩ | ⟨hc4, hm⟩ := ite_or hx4
     ·refine wq_ev (wg F rfl rfl rfl rfl hc4) (ev_move rfl) F rfl rfl ?_; clear F a; intro a F
      refine wq_ev (wg F rfl rfl rfl rfl hc4) (ev_move rfl) F rfl rfl ?_; clear F a; intro a F
      obtain ⟨y2, hy2, hm⟩ := bind_some hm
      obtain ⟨cs1, hr2, hp1⟩ := elemS (ha_1.mono (l1.trans l3)) hy2
      obtain rfl := rep_str hr2
      refine wq_ev (wg F rfl rfl rfl rfl hc4) (ev_idxS (ha_1.mono (l1.trans l3)) hy2 tu28 ts9 rfl rfl) F rfl rfl ?_; clear F a; intro a F
      refine wq_ev (wg F rfl rfl rfl rfl hc4) (ev_load1 tu9 rfl rfl (ptr_mono (cks := [c2]) (fr := fr) hp1 (Le.refl _))) F rfl rfl ?_; clear F a; intro a F
      refine wq_ev (wg F rfl rfl rfl rfl hc4) (ev_move rfl) F rfl rfl ?_; clear F a; intro a F
      refine wq_ev (wg F rfl rfl rfl rfl hc4) (ev_move rfl) F rfl rfl ?_; clear F a; intro a F
      obtain ⟨y3, hy3, hm⟩ := bind_some hm
      obtain ⟨cs2, hr3, hp2⟩ := elemS (hb_1.mono (l1.trans l3)) hy3
      obtain rfl := rep_str hr3
      refine wq_ev (wg F rfl rfl rfl rfl hc4) (ev_idxS (hb_1.mono (l1.trans l3)) hy3 tu28 ts9 rfl rfl) F rfl rfl ?_; clear F a; intro a F
      refine wq_ev (wg F rfl rfl rfl rfl hc4) (ev_load1 tu9 rfl rfl (ptr_mono (cks := [c2]) (fr := fr) hp2 (Le.refl _))) F rfl rfl ?_; clear F a; intro a F
      refine wq_ev (wg F rfl rfl rfl rfl hc4) (ev_str rfl rfl (bs_eql _ _ _)) F rfl rfl ?_; clear F a; intro a F
      refine wq_ev (wn rfl) (ev_pickT rfl hc4 rfl) F rfl rfl ?_; clear F a; intro a F
      obtain rfl := sinj hm
      refine wq_nil ?_; exact F.sub ⟨rfl, rfl, rfl, rfl, rfl, rfl, rfl, trivial⟩
     ·refine wq_skip rfl rfl rfl rfl (ne_tf hc4) F rfl rfl ?_; clear F a; intro a F
      refine wq_skip rfl rfl rfl rfl (ne_tf hc4) F rfl rfl ?_; clear F a; intro a F
      refine wq_skip rfl rfl rfl rfl (ne_tf hc4) F rfl rfl ?_; clear F a; intro a F
      refine wq_skip rfl rfl rfl rfl (ne_tf hc4) F rfl rfl ?_; clear F a; intro a F
      refine wq_skip rfl rfl rfl rfl (ne_tf hc4) F rfl rfl ?_; clear F a; intro a F
      refine wq_skip rfl rfl rfl rfl (ne_tf hc4) F rfl rfl ?_; clear F a; intro a F
      refine wq_skip rfl rfl rfl rfl (ne_tf hc4) F rfl rfl ?_; clear F a; intro a F
      refine wq_skip rfl rfl rfl rfl (ne_tf hc4) F rfl rfl ?_; clear F a; intro a F
      refine wq_skip rfl rfl rfl rfl (ne_tf hc4) F rfl rfl ?_; clear F a; intro a F
      refine wq_ev (wn rfl) (ev_pickF rfl hc4 rfl) F rfl rfl ?_; clear F a; intro a F
      obtain rfl := sinj hm
      refine wq_nil ?_; exact F.sub ⟨rfl, rfl, rfl, rfl, rfl, rfl, rfl, trivial⟩
    clear F; intro a F
    refine wq_nil ?_; clear S; intro w S
    refine then_n ?_
    obtain ⟨hc5, hm⟩ | ⟨hc5, hm⟩ := ite_or hm
    ·refine wp_condT F rfl hc5 ?_
     refine wp_seq ?_
     refine wp_region_lit ?_
     refine wE (ev_move rfl) F S rfl fun a F=>?_
     refine wE (ev_move rfl) F S rfl fun a F=>?_
     refine wE (ev_move rfl) F S rfl fun a F=>?_
     obtain ⟨y4, hy4, hm⟩ := bind_some hm
     obtain ⟨cs3, hr4, hp3⟩ := elemS (ha_1.mono (l1.trans l3)) hy4
     obtain rfl := rep_str hr4
     refine wE (ev_idxS (ha_1.mono (l1.trans l3)) hy4 tu28 ts9 rfl rfl) F S rfl fun a F=>?_
     refine wE (ev_load1 tu9 rfl rfl (ptr_mono (cks := [c2]) (fr := fr) hp3 (Le.refl _))) F S rfl fun a F=>?_
     refine wE (ev_build (parts := [(0, .const (.i6 0)), (1, .tmp 47)]) (vs := [(0, .i6 0), (1, .string y4)]) rfl (fun w => tb143_0_1 0 y4 w)) F S rfl fun a F=>?_
     refine wl_lit (l := ([({ Kind := 0, Text := y4 } : Step_changeforgeref1)] : List Step_changeforgeref1)) (vs := [.agg #[.i6 0, .string y4]]) (parts := [(0, .tmp 48)]) (wn rfl) rfl rfl rfl tu140 te143 (sz_cons rfl sz_nil) rfl (Cat.cons (rep_Step_changeforgeref1_mk (x := ({ Kind := 0, Text := y4 } : Step_changeforgeref1)) ) (Cat.nil _)) (coa_cons rfl coa_nil) rfl F S rfl rfl ?_; clear F a S
     rintro v4 c3 a w h4 F S
     obtain ⟨cs4, hk1, hr5⟩ := OwnS.reads h4
     obtain ⟨y5, hy5, hm⟩ := bind_some hm
     refine wl_append (wn rfl) rfl tu140 tu140 te143 (by decide) (by decide) F S rfl rfl (k := 1) rfl h3 hk1 rfl (hr5 _ _ _ 0 rfl S) hy5 rfl rfl ?_; clear F a S
     rintro v5 c4 a w h5 S F; replace S : St g3 [c3, c4] fr w := S
     refine wE (ev_assign rfl) F S rfl fun a F=>?_
     refine wpList_nil ?_
     refine then_n ?_
     refine wp_seq ?_
     refine wp_region_lit ?_
     refine wE (ev_move rfl) F S rfl fun a F=>?_
     obtain ⟨z1, hz1, hm⟩ := bind_some hm
     refine wE (ev_int rfl rfl (bo_add hz1)) F S rfl fun a F=>?_
     refine wE (ev_assign rfl) F S rfl fun a F=>?_
     refine wpList_nil ?_
     refine then_n ?_
     refine wp_seq ?_
     refine wp_region_lit ?_
     refine wE (ev_move rfl) F S rfl fun a F=>?_
     obtain ⟨z2, hz2, hm⟩ := bind_some hm
     refine wE (ev_int rfl rfl (bo_add hz2)) F S rfl fun a F=>?_
     refine wE (ev_assign rfl) F S rfl fun a F=>?_
     refine wpList_nil ?_
     refine then_n ?_
     refine wp_exit ?_
     refine then_e ?_
     refine inb_x ?_
     refine then_n ?_
     obtain rfl := sinj hm
     refine ⟨_, rfl, ?_⟩
     dsimp only
     replace S : St g3 [c4] fr w := St.tail [c4] _ (S.frontC 1 rfl)
     exact ⟨v5, c4, g3, F.sub ⟨rfl, rfl, rfl, rfl, rfl, rfl, trivial⟩, l3, S, h5⟩
    ·refine wp_condF F rfl hc5 ?_
     refine wp_skip ?_
     refine then_n ?_
     refine wp_seq ?_
     refine wp_quiet mo (by kernel_rfl) S ?_
     refine wq_ev (wn rfl) (ev_move rfl) F rfl rfl ?_; clear F a; intro a F
     refine wq_ev (wn rfl) (ev_move rfl) F rfl rfl ?_; clear F a; intro a F
     refine wq_ev (wn rfl) (ev_lenSh hb_1 rfl tu28) F rfl rfl ?_; clear F a; intro a F
     refine wq_ev (wn rfl) (ev_int rfl rfl (bo_eql _ _ _ _)) F rfl rfl ?_; clear F a; intro a F
     refine wq_ev (wn rfl) (ev_move rfl) F rfl rfl ?_; clear F a; intro a F
     obtain ⟨x9, hx5, hm⟩ := bind_some hm
     refine wq_cut 24 (fun a => Fr 105 a [(83, .bool x9), (8, .i6 x2), (7, .i6 x3), (6, v3), (5, v1), (0, va_1), (1, vb_1)]) ?_ ?_
     ·clear hm; obtain ⟨hc6, hm⟩ | ⟨hc6, hm⟩ := ite_or hx5
      ·refine wq_skip rfl rfl rfl rfl (ne_ft hc6) F rfl rfl ?_; clear F a; intro a F
       refine wq_skip rfl rfl rfl rfl (ne_ft hc6) F rfl rfl ?_; clear F a; intro a F
       refine wq_skip rfl rfl rfl rfl (ne_ft hc6) F rfl rfl ?_; clear F a; intro a F
       refine wq_skip rfl rfl rfl rfl (ne_ft hc6) F rfl rfl ?_; clear F a; intro a F
       refine wq_skip rfl rfl rfl rfl (ne_ft hc6) F rfl rfl ?_; clear F a; intro a F
       refine wq_skipu rfl rfl rfl rfl F rfl rfl ?_; clear F a; intro a F
       refine wq_skipu rfl rfl rfl rfl F rfl rfl ?_; clear F a; intro a F
       refine wq_skipu rfl rfl rfl rfl F rfl rfl ?_; clear F a; intro a F
       refine wq_skipu rfl rfl rfl rfl F rfl rfl ?_; clear F a; intro a F
       refine wq_skipu rfl rfl rfl rfl F rfl rfl ?_; clear F a; intro a F
       refine wq_skipu rfl rfl rfl rfl F rfl rfl ?_; clear F a; intro a F
       refine wq_skipu rfl rfl rfl rfl F rfl rfl ?_; clear F a; intro a F
       refine wq_skipu rfl rfl rfl rfl F rfl rfl ?_; clear F a; intro a F
       refine wq_skipu rfl rfl rfl rfl F rfl rfl ?_; clear F a; intro a F
       refine wq_skipu rfl rfl rfl rfl F rfl rfl ?_; clear F a; intro a F
       refine wq_skipu rfl rfl rfl rfl F rfl rfl ?_; clear F a; intro a F
       refine wq_skipu rfl rfl rfl rfl F rfl rfl ?_; clear F a; intro a F
       refine wq_skipu rfl rfl rfl rfl F rfl rfl ?_; clear F a; intro a F
       refine wq_skipu rfl rfl rfl rfl F rfl rfl ?_; clear F a; intro a F
       refine wq_skipu rfl rfl rfl rfl F rfl rfl ?_; clear F a; intro a F
       refine wq_skipu rfl rfl rfl rfl F rfl rfl ?_; clear F a; intro a F
       refine wq_skipu rfl rfl rfl rfl F rfl rfl ?_; clear F a; intro a F
       refine wq_skip rfl rfl rfl rfl (ne_ft hc6) F rfl rfl ?_; clear F a; intro a F
       refine wq_ev (wn rfl) (ev_pickT rfl hc6 rfl) F rfl rfl ?_; clear F a; intro a F
       obtain rfl := sinj hm
       refine wq_nil ?_; exact F.sub ⟨rfl, rfl, rfl, rfl, rfl, rfl, rfl, trivial⟩
      ·refine wq_ev (wg F rfl rfl rfl rfl hc6) (ev_move rfl) F rfl rfl ?_; clear F a; intro a F
       refine wq_ev (wg F rfl rfl rfl rfl hc6) (ev_move rfl) F rfl rfl ?_; clear F a; intro a F
       refine wq_ev (wg F rfl rfl rfl rfl hc6) (ev_lenSh ha_1 rfl tu28) F rfl rfl ?_; clear F a; intro a F
       refine wq_ev (wg F rfl rfl rfl rfl hc6) (ev_int rfl rfl (bo_lss _ _ _ _)) F rfl rfl ?_; clear F a; intro a F
       refine wq_ev (wg F rfl rfl rfl rfl hc6) (ev_move rfl) F rfl rfl ?_; clear F a; intro a F
       obtain ⟨x10, hx6, hm⟩ := bind_some hm
       refine wq_cut 18 (fun a => Fr 105 a [(82, .bool x10), (64, .bool (decide (x3 < (a_.length : Int)))), (63, .bool (decide (x3 < (a_.length : Int)))), (62, .i6 (a_.length : Int)), (61, va_1), (60, .i6 x3), (59, .bool (decide (x2 = (b_.length : Int)))), (8, .i6 x2), (7, .i6 x3), (6, v3), (5, v1), (0, va_1), (1, vb_1)]) ?_ ?_
       ·clear hm; obtain ⟨hc7, hm⟩ | ⟨hc7, hm⟩ := ite_or hx6
        ·refine wq_ev (wg F rfl rfl rfl rfl hc7) (ev_move rfl) F rfl rfl ?_; clear F a; intro a F
         refine wq_ev (wg F rfl rfl rfl rfl hc7) (ev_move rfl) F rfl rfl ?_; clear F a; intro a F
         obtain ⟨y6, hy6, hm⟩ := bind_some hm
         obtain ⟨cs5, hr6, hp4⟩ := elemS (h1.mono l3) hy6
         obtain ⟨v6, rfl, h6⟩ := rep_list hr6
         refine wq_ev (wg F rfl rfl rfl rfl hc7) (ev_idxS (h1.mono l3) hy6 tu176 ts47 rfl rfl) F rfl rfl ?_; clear F a; intro a F
         refine wq_ev (wg F rfl rfl rfl rfl hc7) (ev_load1 tu47 rfl rfl (ptr_mono (cks := [c2]) (fr := fr) hp4 (Le.refl _))) F rfl rfl ?_; clear F a; intro a F
         refine wq_ev (wg F rfl rfl rfl rfl hc7) (ev_move rfl) F rfl rfl ?_; clear F a; intro a F
         obtain ⟨z3, hz3, hm⟩ := bind_some hm
         refine wq_ev (wg F rfl rfl rfl rfl hc7) (ev_int rfl rfl (bo_add hz3)) F rfl rfl ?_; clear F a; intro a F
         obtain ⟨y7, hy7, hm⟩ := bind_some hm
         obtain ⟨cs6, hr7, hp5⟩ := elemS h6 hy7
         obtain rfl := rep_int hr7
         refine wq_ev (wg F rfl rfl rfl rfl hc7) (ev_idxS h6 hy7 tu47 ts3 rfl rfl) F rfl rfl ?_; clear F a; intro a F
         refine wq_ev (wg F rfl rfl rfl rfl hc7) (ev_load1 tu3 rfl rfl (ptr_mono (cks := [c2]) (fr := fr) hp5 (Le.refl _))) F rfl rfl ?_; clear F a; intro a F
         refine wq_ev (wg F rfl rfl rfl rfl hc7) (ev_move rfl) F rfl rfl ?_; clear F a; intro a F
         refine wq_ev (wg F rfl rfl rfl rfl hc7) (ev_move rfl) F rfl rfl ?_; clear F a; intro a F
         obtain ⟨z4, hz4, hm⟩ := bind_some hm
         refine wq_ev (wg F rfl rfl rfl rfl hc7) (ev_int rfl rfl (bo_add hz4)) F rfl rfl ?_; clear F a; intro a F
         obtain ⟨y8, hy8, hm⟩ := bind_some hm
         obtain ⟨cs7, hr8, hp6⟩ := elemS (h1.mono l3) hy8
         obtain ⟨v7, rfl, h7⟩ := rep_list hr8
         refine wq_ev (wg F rfl rfl rfl rfl hc7) (ev_idxS (h1.mono l3) hy8 tu176 ts47 rfl rfl) F rfl rfl ?_; clear F a; intro a F
         refine wq_ev (wg F rfl rfl rfl rfl hc7) (ev_load1 tu47 rfl rfl (ptr_mono (cks := [c2]) (fr := fr) hp6 (Le.refl _))) F rfl rfl ?_; clear F a; intro a F
         refine wq_ev (wg F rfl rfl rfl rfl hc7) (ev_move rfl) F rfl rfl ?_; clear F a; intro a F
         obtain ⟨y9, hy9, hm⟩ := bind_some hm
         obtain ⟨cs8, hr9, hp7⟩ := elemS h7 hy9
         obtain rfl := rep_int hr9
         refine wq_ev (wg F rfl rfl rfl rfl hc7) (ev_idxS h7 hy9 tu47 ts3 rfl rfl) F rfl rfl ?_; clear F a; intro a F
         refine wq_ev (wg F rfl rfl rfl rfl hc7) (ev_load1 tu3 rfl rfl (ptr_mono (cks := [c2]) (fr := fr) hp7 (Le.refl _))) F rfl rfl ?_; clear F a; intro a F
         refine wq_ev (wg F rfl rfl rfl rfl hc7) (ev_int rfl rfl (bo_geq _ _ _ _)) F rfl rfl ?_; clear F a; intro a F
         refine wq_ev (wg F rfl rfl rfl rfl hc6) (ev_pickT rfl hc7 rfl) F rfl rfl ?_; clear F a; intro a F
         obtain rfl := sinj hm
         refine wq_nil ?_; exact F.sub ⟨rfl, rfl, rfl, rfl, rfl, rfl, rfl, rfl, rfl, rfl, rfl, rfl, rfl, trivial⟩
        ·refine wq_skip rfl rfl rfl rfl (ne_tf hc7) F rfl rfl ?_; clear F a; intro a F
         refine wq_skip rfl rfl rfl rfl (ne_tf hc7) F rfl rfl ?_; clear F a; intro a F
         refine wq_skip rfl rfl rfl rfl (ne_tf hc7) F rfl rfl ?_; clear F a; intro a F
         refine wq_skip rfl rfl rfl rfl (ne_tf hc7) F rfl rfl ?_; clear F a; intro a F
         refine wq_skip rfl rfl rfl rfl (ne_tf hc7) F rfl rfl ?_; clear F a; intro a F
         refine wq_skip rfl rfl rfl rfl (ne_tf hc7) F rfl rfl ?_; clear F a; intro a F
         refine wq_skip rfl rfl rfl rfl (ne_tf hc7) F rfl rfl ?_; clear F a; intro a F
         refine wq_skip rfl rfl rfl rfl (ne_tf hc7) F rfl rfl ?_; clear F a; intro a F
         refine wq_skip rfl rfl rfl rfl (ne_tf hc7) F rfl rfl ?_; clear F a; intro a F
         refine wq_skip rfl rfl rfl rfl (ne_tf hc7) F rfl rfl ?_; clear F a; intro a F
         refine wq_skip rfl rfl rfl rfl (ne_tf hc7) F rfl rfl ?_; clear F a; intro a F
         refine wq_skip rfl rfl rfl rfl (ne_tf hc7) F rfl rfl ?_; clear F a; intro a F
         refine wq_skip rfl rfl rfl rfl (ne_tf hc7) F rfl rfl ?_; clear F a; intro a F
         refine wq_skip rfl rfl rfl rfl (ne_tf hc7) F rfl rfl ?_; clear F a; intro a F
         refine wq_skip rfl rfl rfl rfl (ne_tf hc7) F rfl rfl ?_; clear F a; intro a F
         refine wq_skip rfl rfl rfl rfl (ne_tf hc7) F rfl rfl ?_; clear F a; intro a F
         refine wq_skip rfl rfl rfl rfl (ne_tf hc7) F rfl rfl ?_; clear F a; intro a F
         refine wq_ev (wg F rfl rfl rfl rfl hc6) (ev_pickF rfl hc7 rfl) F rfl rfl ?_; clear F a; intro a F
         obtain rfl := sinj hm
         refine wq_nil ?_; exact F.sub ⟨rfl, rfl, rfl, rfl, rfl, rfl, rfl, rfl, rfl, rfl, rfl, rfl, rfl, trivial⟩
       clear F; intro a F
       refine wq_ev (wn rfl) (ev_pickF rfl hc6 rfl) F rfl rfl ?_; clear F a; intro a F
       obtain rfl := sinj hm
       refine wq_nil ?_; exact F.sub ⟨rfl, rfl, rfl, rfl, rfl, rfl, rfl, trivial⟩
     clear F; intro a F
     refine wq_nil ?_; clear S; intro w S
     refine then_n ?_
     obtain ⟨hc8, hm⟩ | ⟨hc8, hm⟩ := ite_or hm
     ·refine wp_condT F rfl hc8 ?_
      refine wp_seq ?_
      refine wp_region_lit ?_
      refine wE (ev_move rfl) F S rfl fun a F=>?_
      refine wE (ev_move rfl) F S rfl fun a F=>?_
      refine wE (ev_move rfl) F S rfl fun a F=>?_
      obtain ⟨y10, hy10, hm⟩ := bind_some hm
      obtain ⟨cs9, hr10, hp8⟩ := elemS (ha_1.mono (l1.trans l3)) hy10
      obtain rfl := rep_str hr10
      refine wE (ev_idxS (ha_1.mono (l1.trans l3)) hy10 tu28 ts9 rfl rfl) F S rfl fun a F=>?_
      refine wE (ev_load1 tu9 rfl rfl (ptr_mono (cks := [c2]) (fr := fr) hp8 (Le.refl _))) F S rfl fun a F=>?_
      refine wE (ev_build (parts := [(0, .const (.i6 1)), (1, .tmp 88)]) (vs := [(0, .i6 1), (1, .string y10)]) rfl (fun w => tb143_0_1 1 y10 w)) F S rfl fun a F=>?_
      refine wl_lit (l := ([({ Kind := 1, Text := y10 } : Step_changeforgeref1)] : List Step_changeforgeref1)) (vs := [.agg #[.i6 1, .string y10]]) (parts := [(0, .tmp 89)]) (wn rfl) rfl rfl rfl tu140 te143 (sz_cons rfl sz_nil) rfl (Cat.cons (rep_Step_changeforgeref1_mk (x := ({ Kind := 1, Text := y10 } : Step_changeforgeref1)) ) (Cat.nil _)) (coa_cons rfl coa_nil) rfl F S rfl rfl ?_; clear F a S
      rintro v8 c5 a w h8 F S
      obtain ⟨cs10, hk2, hr11⟩ := OwnS.reads h8
      obtain ⟨y11, hy11, hm⟩ := bind_some hm
      refine wl_append (wn rfl) rfl tu140 tu140 te143 (by decide) (by decide) F S rfl rfl (k := 1) rfl h3 hk2 rfl (hr11 _ _ _ 0 rfl S) hy11 rfl rfl ?_; clear F a S
      rintro v9 c6 a w h9 S F; replace S : St g3 [c5, c6] fr w := S
      refine wE (ev_assign rfl) F S rfl fun a F=>?_
      refine wpList_nil ?_
      refine then_n ?_
      refine wp_region_lit ?_
      refine wE (ev_move rfl) F S rfl fun a F=>?_
      obtain ⟨z5, hz5, hm⟩ := bind_some hm
      refine wE (ev_int rfl rfl (bo_add hz5)) F S rfl fun a F=>?_
      refine wE (ev_assign rfl) F S rfl fun a F=>?_
      refine wpList_nil ?_
      refine inb_n ?_
      refine then_n ?_
      obtain rfl := sinj hm
      refine ⟨_, rfl, ?_⟩
      dsimp only
      replace S : St g3 [c6] fr w := St.tail [c6] _ (S.frontC 1 rfl)
      exact ⟨v9, c6, g3, F.sub ⟨rfl, rfl, rfl, rfl, rfl, rfl, trivial⟩, l3, S, h9⟩
     ·refine wp_condF F rfl hc8 ?_
      refine wp_seq ?_
      refine wp_region_lit ?_
      refine wE (ev_move rfl) F S rfl fun a F=>?_
      refine wE (ev_move rfl) F S rfl fun a F=>?_
      refine wE (ev_move rfl) F S rfl fun a F=>?_
      obtain ⟨y12, hy12, hm⟩ := bind_some hm
      obtain ⟨cs11, hr12, hp9⟩ := elemS (hb_1.mono (l1.trans l3)) hy12
      obtain rfl := rep_str hr12
      refine wE (ev_idxS (hb_1.mono (l1.trans l3)) hy12 tu28 ts9 rfl rfl) F S rfl fun a F=>?_
      refine wE (ev_load1 tu9 rfl rfl (ptr_mono (cks := [c2]) (fr := fr) hp9 (Le.refl _))) F S rfl fun a F=>?_
      refine wE (ev_build (parts := [(0, .const (.i6 2)), (1, .tmp 98)]) (vs := [(0, .i6 2), (1, .string y12)]) rfl (fun w => tb143_0_1 2 y12 w)) F S rfl fun a F=>?_
      refine wl_lit (l := ([({ Kind := 2, Text := y12 } : Step_changeforgeref1)] : List Step_changeforgeref1)) (vs := [.agg #[.i6 2, .string y12]]) (parts := [(0, .tmp 99)]) (wn rfl) rfl rfl rfl tu140 te143 (sz_cons rfl sz_nil) rfl (Cat.cons (rep_Step_changeforgeref1_mk (x := ({ Kind := 2, Text := y12 } : Step_changeforgeref1)) ) (Cat.nil _)) (coa_cons rfl coa_nil) rfl F S rfl rfl ?_; clear F a S
      rintro v10 c7 a w h10 F S
      obtain ⟨cs12, hk3, hr13⟩ := OwnS.reads h10
      obtain ⟨y13, hy13, hm⟩ := bind_some hm
      refine wl_append (wn rfl) rfl tu140 tu140 te143 (by decide) (by decide) F S rfl rfl (k := 1) rfl h3 hk3 rfl (hr13 _ _ _ 0 rfl S) hy13 rfl rfl ?_; clear F a S
      rintro v11 c8 a w h11 S F; replace S : St g3 [c7, c8] fr w := S
      refine wE (ev_assign rfl) F S rfl fun a F=>?_
      refine wpList_nil ?_
      refine then_n ?_
      refine wp_region_lit ?_
      refine wE (ev_move rfl) F S rfl fun a F=>?_
      obtain ⟨z6, hz6, hm⟩ := bind_some hm
      refine wE (ev_int rfl rfl (bo_add hz6)) F S rfl fun a F=>?_
      refine wE (ev_assign rfl) F S rfl fun a F=>?_
      refine wpList_nil ?_
      refine inb_n ?_
      refine then_n ?_
      obtain rfl := sinj hm
      refine ⟨_, rfl, ?_⟩
      dsimp only
      replace S : St g3 [c8] fr w := St.tail [c8] _ (S.frontC 1 rfl)
      exact ⟨v11, c8, g3, F.sub ⟨rfl, rfl, rfl, rfl, rfl, rfl, trivial⟩, l3, S, h11⟩
   ·refine wp_condF F rfl hc2 ?_
    refine wp_exit ?_
    refine then_e ?_
    refine then_e ?_
    refine inb_x ?_
    refine then_n ?_
    obtain rfl := sinj hm
    obtain rfl := hfin1 _ rfl
    clear hm
    have hm : (changeforgeref1_Align.j1 x4 : Option (List Step_changeforgeref1)) = some _ := hmo1
    exact ⟨x4, v3, c2, g3, F.sub ⟨rfl, trivial⟩, l3, S, h3, hm⟩
 ·clear F S hm; rintro a w ⟨x1, v2, c1, g2, F, l2, S, h2, hm⟩
  refine wp_seq ?_
  refine wp_region_lit ?_
  refine wE (ev_move rfl) F S rfl fun a F=>?_
  refine wE (ev_assign rfl) F S rfl fun a F=>?_
  refine wpList_nil ?_
  refine then_n ?_
  refine wp_ret ?_
  obtain rfl := sinj hm
  refine post_r _ F rfl (ar_cons (resT rfl) ar_nil) ?_
  exact ⟨_, rfl, g2, v2, c1, (l1.trans l2), S, h2, rfl⟩

theorem changeforgeref1_Kept_ok {g : Gh} {fr : Hl} {w : World} {r : (List ByteArray)} (a_ : (List ByteArray)) (va_1 : Value) (ha_1 : RepSl g a_ va_1) (b_ : (List ByteArray)) (vb_1 : Value) (hb_1 : RepSl g b_ vb_1) (S : St g [] fr w) (hm : changeforgeref1_Kept a_ b_ = some r) :
  Calls Tryz.prog 52 [va_1, vb_1].toArray w (fun en w' => ∃ v, en = .returned v ∧ ∃ (g' : Gh) (v1 : Value) (c1 : Hl), Le g g' ∧ St g' [c1] fr w' ∧ OwnS g' r v1 c1 ∧ v1 = v) := by
 unfold changeforgeref1_Kept at hm
 refine calls_enter (fn := Tryz.f52) Tryz.func52 rfl Tryz.ntmps52 (lb rfl) ?_
 intro a F
 replace F : Fr 32 a [(0, va_1), (1, vb_1)] := F
 refine wp_seq ?_
 refine wp_region_lit ?_
 refine wE (ev_assign rfl) F S rfl fun a F=>?_
 refine wpList_nil ?_
 refine then_n ?_
 refine wp_seq ?_
 refine wp_region_lit ?_
 refine wE (ev_assign rfl) F S rfl fun a F=>?_
 refine wpList_nil ?_
 refine then_n ?_
 refine wp_seq ?_
 refine wp_region_lit ?_
 refine wE (ev_move rfl) F S rfl fun a F=>?_
 refine wE (ev_move rfl) F S rfl fun a F=>?_
 obtain ⟨y1, hy1, hm⟩ := bind_some hm
 refine wl_call0 (wn rfl) rfl F rfl (changeforgeref1_Align_ok a_ va_1 ha_1 b_ vb_1 hb_1 S hy1) rfl tc92 rfl rfl ?_; clear F a S
 rintro _ a w ⟨g1, v1, c1, l1, S, h1, rfl⟩ F; replace S : St g1 [c1] fr w := S
 refine wE (ev_assign rfl) F S rfl fun a F=>?_
 refine wpList_nil ?_
 refine then_n ?_
 refine wp_cut (fun a w => ∃ (x1 : List ByteArray) (v2 : Value) (c2 : Hl) (g2 : Gh), Fr 32 a [(5, v2)] ∧ Le g1 g2 ∧ St g2 [c2] fr w ∧ OwnS g2 x1 v2 c2 ∧ changeforgeref1_Kept.j1 x1 = some r) ?_ ?_
 ·refine wp_seq ?_
  refine wp_region_lit ?_
  refine wE (ev_assign rfl) F S rfl fun a F=>?_
  refine wpList_nil ?_
  refine then_n ?_
  refine wp_block ?_
  obtain ⟨r1, hr1, hm⟩ := bind_some hm
  have hmo1 := hm; clear hm
  refine wp_iter (σ := Int × (List ByteArray)) (ρ := (List ByteArray)) (m := fun s => changeforgeref1_Kept.l1 y1 s.1 s.2) (I := fun s a w => match s with | (x2, x3) => ∃ (v3 : Value) (c3 : Hl) (g3 : Gh), Fr 32 a [(7, .i6 x2), (6, v1), (5, v3)] ∧ Le g1 g3 ∧ St g3 [c1, c3] fr w ∧ OwnS g3 x3 v3 c3) hr1 ?_ ?_
  ·dsimp only
   replace S : St g1 [[], c1] fr w := S
   replace S : St g1 [c1, []] fr w := St.tail [c1, []] _ ((S.frontC 0 rfl).frontC 2 rfl)
   exact ⟨(nilS), [], g1, F.sub ⟨rfl, rfl, rfl, trivial⟩, (Le.refl _), S, (OwnS.nil _)⟩
  ·clear F S; rintro ⟨x2, x3⟩ a w x4 ⟨v3, c3, g3, F, l3, S, h3⟩ hx1 hfin1
   have hm : changeforgeref1_Kept.l1 y1 x2 x3 = some x4 := hx1; clear hx1
   unfold changeforgeref1_Kept.l1 at hm
   refine wp_seq ?_
   refine wp_seq ?_
   refine wp_region_lit ?_
   refine wE (ev_move rfl) F S rfl fun a F=>?_
   refine wE (ev_move rfl) F S rfl fun a F=>?_
   refine wE (ev_lenOw h1 rfl tu140) F S rfl fun a F=>?_
   refine wE (ev_int rfl rfl (bo_lss _ _ _ _)) F S rfl fun a F=>?_
   refine wpList_nil ?_
   refine then_n ?_
   obtain ⟨hc1, hm⟩ | ⟨hc1, hm⟩ := ite_or hm
   ·refine wp_condT F rfl hc1 ?_
    refine wp_skip ?_
    refine then_n ?_
    refine wp_cut (fun a w => ∃ (x5 : List ByteArray) (v4 : Value) (c4 : Hl) (g4 : Gh), Fr 32 a [(5, v4), (7, .i6 x2), (6, v1)] ∧ Le g3 g4 ∧ St g4 [c4, c1] fr w ∧ OwnS g4 x5 v4 c4 ∧ changeforgeref1_Kept.j2 x2 x5 = some x4) ?_ ?_
    ·refine wp_block ?_
     refine wp_seq ?_
     refine wp_region_lit ?_
     refine wE (ev_move rfl) F S rfl fun a F=>?_
     refine wE (ev_move rfl) F S rfl fun a F=>?_
     obtain ⟨y2, hy2, hm⟩ := bind_some hm
     refine wE (ev_idxO (h1.mono l3) hy2 tu140 ts143 rfl rfl) F S rfl fun a F=>?_
     refine wE (ev_fieldAddr' tu143 tf143_0 (z := 0) ts3 rfl (elemO_ptr (h1.mono l3) hy2) addP_zero) F S rfl fun a F=>?_
     obtain ⟨cs1, hr2, hq1⟩ := elemO (h1.mono l3) hy2
     obtain rfl := rep_Step_changeforgeref1 hr2
     refine wE (ev_load1 tu3 rfl rfl (fun w s => fieldP0 (cells := [.i6 y2.Kind]) (hq1 _ _ 0 rfl w s) rfl (lb rfl))) F S rfl fun a F=>?_
     refine wE (ev_int rfl rfl (bo_eql _ _ _ _)) F S rfl fun a F=>?_
     refine wpList_nil ?_
     refine then_n ?_
     obtain ⟨hc2, hm⟩ | ⟨hc2, hm⟩ := ite_or hm
     ·refine wp_condT F rfl hc2 ?_
      refine wp_region_lit ?_
      refine wE (ev_move rfl) F S rfl fun a F=>?_
      refine wE (ev_move rfl) F S rfl fun a F=>?_
      refine wE (ev_move rfl) F S rfl fun a F=>?_
      obtain ⟨y3, hy3, hm⟩ := bind_some hm
      refine wE (ev_idxO (h1.mono l3) hy3 tu140 ts143 rfl rfl) F S rfl fun a F=>?_
      refine wE (ev_fieldAddr' tu143 tf143_1 (z := 0) ts9 rfl (elemO_ptr (h1.mono l3) hy3) rfl) F S rfl fun a F=>?_
      obtain ⟨cs2, hr3, hq2⟩ := elemO (h1.mono l3) hy3
      obtain rfl := rep_Step_changeforgeref1 hr3
      refine wE (ev_load1 tu9 rfl rfl (fun w s => fieldP (cells := [.string y3.Text]) 1 (hq2 _ _ 0 rfl w s) rfl (lb rfl))) F S rfl fun a F=>?_
      refine wl_lit (l := ([y3.Text] : List ByteArray)) (vs := [.string y3.Text]) (parts := [(0, .tmp 28)]) (wn rfl) rfl rfl rfl tu28 te9 (sz_cons rfl sz_nil) rfl (Cat.cons (show Rep.rep _ y3.Text _ from rfl) (Cat.nil _)) (coa_cons rfl coa_nil) rfl F S rfl rfl ?_; clear F a S
      rintro v5 c5 a w h5 F S
      obtain ⟨cs3, hk1, hr4⟩ := OwnS.reads h5
      obtain ⟨y4, hy4, hm⟩ := bind_some hm
      refine wl_append (wn rfl) rfl tu28 tu28 te9 (by decide) (by decide) F S rfl rfl (k := 2) rfl h3 hk1 rfl (hr4 _ _ _ 0 rfl S) hy4 rfl rfl ?_; clear F a S
      rintro v6 c6 a w h6 S F; replace S : St g3 [c5, c1, c6] fr w := S
      refine wE (ev_assign rfl) F S rfl fun a F=>?_
      refine wpList_nil ?_
      refine inb_n ?_
      refine then_n ?_
      replace S : St g3 [c6, c1] fr w := St.tail [c6, c1] _ ((S.frontC 1 rfl).frontC 3 rfl)
      exact ⟨y4, v6, c6, g3, F.sub ⟨rfl, rfl, rfl, trivial⟩, (Le.refl _), S, h6, hm⟩
     ·refine wp_condF F rfl hc2 ?_
      refine wp_skip ?_
      refine inb_n ?_
      refine then_n ?_
      replace S : St g3 [c3, c1] fr w := St.tail [c3, c1] _ ((S.frontC 0 rfl).frontC 2 rfl)
      exact ⟨x3, v3, c3, g3, F.sub ⟨rfl, rfl, rfl, trivial⟩, (Le.refl _), S, h3, hm⟩
    ·clear F S hm; rintro a w ⟨x5, v4, c4, g4, F, l4, S, h4, hm⟩
     refine wp_region_lit ?_
     refine wE (ev_move rfl) F S rfl fun a F=>?_
     obtain ⟨z1, hz1, hm⟩ := bind_some hm
     refine wE (ev_int rfl rfl (bo_add hz1)) F S rfl fun a F=>?_
     refine wE (ev_assign rfl) F S rfl fun a F=>?_
     refine wpList_nil ?_
     refine then_n ?_
     obtain rfl := sinj hm
     refine ⟨_, rfl, ?_⟩
     dsimp only
     replace S : St g4 [c1, c4] fr w := St.tail [c1, c4] _ ((S.frontC 0 rfl).frontC 2 rfl)
     exact ⟨v4, c4, g4, F.sub ⟨rfl, rfl, rfl, trivial⟩, (l3.trans l4), S, h4⟩
   ·refine wp_condF F rfl hc1 ?_
    refine wp_exit ?_
    refine then_e ?_
    refine then_e ?_
    refine inb_x ?_
    refine then_n ?_
    obtain rfl := sinj hm
    obtain rfl := hfin1 _ rfl
    clear hm
    have hm : (changeforgeref1_Kept.j1 x3 : Option (List ByteArray)) = some _ := hmo1
    replace S : St g3 [c3] fr w := St.tail [c3] _ (S.frontC 1 rfl)
    exact ⟨x3, v3, c3, g3, F.sub ⟨rfl, trivial⟩, l3, S, h3, hm⟩
 ·clear F S hm; rintro a w ⟨x1, v2, c2, g2, F, l2, S, h2, hm⟩
  refine wp_seq ?_
  refine wp_region_lit ?_
  refine wE (ev_move rfl) F S rfl fun a F=>?_
  refine wE (ev_assign rfl) F S rfl fun a F=>?_
  refine wpList_nil ?_
  refine then_n ?_
  refine wp_ret ?_
  obtain rfl := sinj hm
  refine post_r _ F rfl (ar_cons (resT rfl) ar_nil) ?_
  exact ⟨_, rfl, g2, v2, c2, (l1.trans l2), S, h2, rfl⟩

theorem changeforgeref2_Percent_ok {g : Gh} {fr : Hl} {w : World} {r : Int} (a_ : (List ByteArray)) (va_1 : Value) (ha_1 : RepSl g a_ va_1) (b_ : (List ByteArray)) (vb_1 : Value) (hb_1 : RepSl g b_ vb_1) (S : St g [] fr w) (hm : changeforgeref2_Percent a_ b_ = some r) :
  Calls Tryz.prog 19 [va_1, vb_1].toArray w (fun en w' => ∃ v, en = .returned v ∧ ∃ (g' : Gh), Le g g' ∧ St g' [] fr w' ∧ .i6 r = v) := by
 unfold changeforgeref2_Percent at hm
 refine calls_enter (fn := Tryz.f19) Tryz.func19 rfl Tryz.ntmps19 (lb rfl) ?_
 intro a F
 replace F : Fr 22 a [(0, va_1), (1, vb_1)] := F
 refine wp_seq ?_
 refine wp_region_lit ?_
 refine wE (ev_assign rfl) F S rfl fun a F=>?_
 refine wpList_nil ?_
 refine then_n ?_
 refine wp_seq ?_
 refine wp_seq ?_
 refine wp_region_lit ?_
 refine wE (ev_move rfl) F S rfl fun a F=>?_
 refine wE (ev_lenSh ha_1 rfl tu28) F S rfl fun a F=>?_
 refine wE (ev_move rfl) F S rfl fun a F=>?_
 refine wE (ev_lenSh hb_1 rfl tu28) F S rfl fun a F=>?_
 obtain ⟨z1, hz1, hm⟩ := bind_some hm
 refine wE (ev_int rfl rfl (bo_add hz1)) F S rfl fun a F=>?_
 refine wE (ev_int rfl rfl (bo_eql _ _ _ _)) F S rfl fun a F=>?_
 refine wpList_nil ?_
 refine then_n ?_
 obtain ⟨hc1, hm⟩ | ⟨hc1, hm⟩ := ite_or hm
 ·refine wp_condT F rfl hc1 ?_
  refine wp_seq ?_
  refine wp_region_lit ?_
  refine wE (ev_assign rfl) F S rfl fun a F=>?_
  refine wpList_nil ?_
  refine then_n ?_
  refine wp_ret ?_
  refine then_r ?_
  obtain rfl := sinj hm
  refine post_r _ F rfl (ar_cons (resT rfl) ar_nil) ?_
  exact ⟨_, rfl, g, (Le.refl _), S, rfl⟩
 ·refine wp_condF F rfl hc1 ?_
  refine wp_skip ?_
  refine then_n ?_
  refine wp_seq ?_
  refine wp_region_lit ?_
  refine wE (ev_move rfl) F S rfl fun a F=>?_
  refine wE (ev_move rfl) F S rfl fun a F=>?_
  obtain ⟨y1, hy1, hm⟩ := bind_some hm
  refine wl_call0 (wn rfl) rfl F rfl (changeforgeref1_Kept_ok a_ va_1 ha_1 b_ vb_1 hb_1 S hy1) rfl tc52 rfl rfl ?_; clear F a S
  rintro _ a w ⟨g1, v1, c1, l1, S, h1, rfl⟩ F; replace S : St g1 [c1] fr w := S
  refine wE (ev_lenOw h1 rfl tu28) F S rfl fun a F=>?_
  obtain ⟨z2, hz2, hm⟩ := bind_some hm
  refine wE (ev_int rfl rfl (bo_mul hz2)) F S rfl fun a F=>?_
  refine wE (ev_move rfl) F S rfl fun a F=>?_
  refine wE (ev_lenSh ha_1 rfl tu28) F S rfl fun a F=>?_
  refine wE (ev_move rfl) F S rfl fun a F=>?_
  refine wE (ev_lenSh hb_1 rfl tu28) F S rfl fun a F=>?_
  obtain ⟨z3, hz3, hm⟩ := bind_some hm
  refine wE (ev_int rfl rfl (bo_add hz3)) F S rfl fun a F=>?_
  obtain ⟨z4, hz4, hm⟩ := bind_some hm
  refine wE (ev_int rfl rfl (bo_quo hz4)) F S rfl fun a F=>?_
  refine wE (ev_assign rfl) F S rfl fun a F=>?_
  refine wpList_nil ?_
  refine then_n ?_
  refine wp_ret ?_
  obtain rfl := sinj hm
  refine post_r _ F rfl (ar_cons (resT rfl) ar_nil) ?_
  replace S : St g1 [] fr w := St.tail [] _ S
  exact ⟨_, rfl, g1, l1, S, rfl⟩
end Go.Dc
