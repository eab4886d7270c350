/- Walks: each function comes to what its model says. -/
import Derived.Test.YtigjmijbekhdgaaDcTab
import Derived.Test.YtigjmijbekhdgaaDcM
namespace Go.Dc
open Go Go.Proofs
set_option maxRecDepth 100000
set_option maxHeartbeats 4000000
set_option linter.unusedVariables false
theorem changeforgeref1_At_ok {g : Gh} {fr : Hl} {w : World} {r : Fault} (code : Int) (index : Int) (S : St g [] fr w) (hm : changeforgeref1_At code index = some r) :
  Calls Try.prog 23 [.i6 code, .i6 index].toArray w (fun en w' => ∃ v, en = .returned v ∧ ∃ (g' : Gh), Le g g' ∧ St g' [] fr w' ∧ .agg #[.i6 r.Code, .i6 r.Index] = v) := by
 unfold changeforgeref1_At at hm
 refine calls_enter (fn := Try.f23) Try.func23 rfl Try.ntmps23 (lb rfl) ?_
 intro a F
 replace F : Fr 8 a [(0, .i6 code), (1, .i6 index)] := F
 refine wp_seq ?_
 refine wp_region_lit ?_
 refine wl_alloc (wn rfl) rfl tz26 (cs := [.i6 0, .i6 0]) rfl F S rfl rfl ?_; clear F a S; rintro b1 a w F S
 refine wpList_nil ?_
 refine then_n ?_
 refine wp_seq ?_
 refine wp_region_lit ?_
 refine wE (ev_move rfl) F S rfl fun a F=>?_
 refine wE (ev_move rfl) F S rfl fun a F=>?_
 refine wE (ev_build (parts := [(0, .tmp 5), (1, .tmp 6)]) (vs := [(0, .i6 code), (1, .i6 index)]) rfl (fun w => tb26_0_1 code index w)) F S rfl fun a F=>?_
 refine wl_storeC (wn rfl) rfl F S rfl rfl (vs := [.i6 code, .i6 index]) rfl ts26 (one_cons rfl (one_cons rfl one_nil)) (k := 0) rfl (lb rfl) (c' := #[.i6 code, .i6 index]) rfl rfl ?_; clear S; intro w S
 refine wpList_nil ?_
 refine then_n ?_
 refine wp_ret ?_
 obtain rfl := sinj hm
 refine post_r _ F rfl (ar_cons (resA rfl tu26 rfl (box_ptr (cells := [.i6 code, .i6 index]) 0 rfl 0 rfl (lb rfl) w S) ts26) ar_nil) ?_
 replace S : St g [] fr w := St.tail [] _ S
 exact ⟨_, rfl, g, (Le.refl _), S, rfl⟩

theorem changeforgeref2_LabelValid_ok {g : Gh} {fr : Hl} {w : World} {r : Bool} (s_ : ByteArray) (S : St g [] fr w) (hm : changeforgeref2_LabelValid s_ = some r) :
  Calls Try.prog 24 [.string s_].toArray w (fun en w' => ∃ v, en = .returned v ∧ ∃ (g' : Gh), Le g g' ∧ St g' [] fr w' ∧ .bool r = v) := by
 unfold changeforgeref2_LabelValid at hm
 refine calls_enter (fn := Try.f24) Try.func24 rfl Try.ntmps24 (lb rfl) ?_
 intro a F
 replace F : Fr 39 a [(0, .string s_)] := F
 refine wp_seq ?_
 refine wp_region_lit ?_
 refine wE (ev_assign rfl) F S rfl fun a F=>?_
 refine wpList_nil ?_
 refine then_n ?_
 refine wp_cut (fun a w => ∃ (g1 : Gh), Fr 39 a [(0, .string s_)] ∧ Le g g1 ∧ St g1 [] fr w ∧ changeforgeref2_LabelValid.j1 s_ = some r) ?_ ?_
 ·refine wp_seq ?_
  refine wp_region_lit ?_
  refine wE (ev_assign rfl) F S rfl fun a F=>?_
  refine wpList_nil ?_
  refine then_n ?_
  refine wp_block ?_
  obtain ⟨r1, hr1, hm⟩ := bind_some hm
  have hmo1 := hm; clear hm
  refine wp_iter (σ := Int) (ρ := Bool ⊕ Unit) (m := fun s => changeforgeref2_LabelValid.l1 s_ s) (I := fun x2 a w => ∃ (g2 : Gh), Fr 39 a [(3, .i6 x2), (0, .string s_)] ∧ Le g g2 ∧ St g2 [] fr w) hr1 ?_ ?_
  ·exact ⟨g, F.sub ⟨rfl, rfl, trivial⟩, (Le.refl _), S⟩
  ·clear F S; rintro x2 a w x3 ⟨g2, F, l2, S⟩ hx2 hfin1
   have hm : changeforgeref2_LabelValid.l1 s_ x2 = some x3 := hx2; clear hx2
   unfold changeforgeref2_LabelValid.l1 at hm
   refine wp_seq ?_
   refine wp_seq ?_
   refine wp_region_lit ?_
   refine wE (ev_move rfl) F S rfl fun a F=>?_
   refine wE (ev_move rfl) F S rfl fun a F=>?_
   refine wE (ev_lenS rfl tu9) F S rfl fun a F=>?_
   refine wE (ev_int rfl rfl (bo_lss _ _ _ _)) F S rfl fun a F=>?_
   refine wpList_nil ?_
   refine then_n ?_
   obtain ⟨hc2, hm⟩ | ⟨hc2, hm⟩ := ite_or hm
   ·refine wp_condT F rfl hc2 ?_
    refine wp_skip ?_
    refine then_n ?_
    refine wp_seq ?_
    refine wp_block ?_
    refine wp_seq ?_
    refine wp_region_lit ?_
    refine wE (ev_move rfl) F S rfl fun a F=>?_
    refine wE (ev_move rfl) F S rfl fun a F=>?_
    obtain ⟨y1, hy1, hm⟩ := bind_some hm
    refine wE (ev_sAt hy1 tu9 rfl rfl) F S rfl fun a F=>?_
    refine wE (ev_int rfl rfl (bo_lss _ _ _ _)) F S rfl fun a F=>?_
    refine wE (ev_move rfl) F S rfl fun a F=>?_
    obtain ⟨x4, hx3, hm⟩ := bind_some hm
    refine wl_cut 5 (fun a w' => w = w' ∧ Fr 39 a [(19, .bool x4), (3, .i6 x2), (0, .string s_)]) ?_ ?_
    ·clear hm; obtain ⟨hc3, hm⟩ | ⟨hc3, hm⟩ := ite_or hx3
     ·refine wl_skip rfl rfl rfl rfl (ne_ft hc3) F rfl rfl ?_; clear F a; intro a F
      refine wl_skip rfl rfl rfl rfl (ne_ft hc3) F rfl rfl ?_; clear F a; intro a F
      refine wl_skip rfl rfl rfl rfl (ne_ft hc3) F rfl rfl ?_; clear F a; intro a F
      refine wl_skip rfl rfl rfl rfl (ne_ft hc3) F rfl rfl ?_; clear F a; intro a F
      refine wE (ev_pickT rfl hc3 rfl) F S rfl fun a F=>?_
      obtain rfl := sinj hm
      refine wpList_nil (then_n ?_); exact ⟨rfl, F.sub ⟨rfl, rfl, rfl, trivial⟩⟩
     ·refine wl_ev (wg F rfl rfl rfl rfl hc3) (ev_move rfl) F S rfl rfl ?_; clear F a; intro a F
      refine wl_ev (wg F rfl rfl rfl rfl hc3) (ev_move rfl) F S rfl rfl ?_; clear F a; intro a F
      obtain ⟨y2, hy2, hm⟩ := bind_some hm
      refine wl_ev (wg F rfl rfl rfl rfl hc3) (ev_sAt hy2 tu9 rfl rfl) F S rfl rfl ?_; clear F a; intro a F
      refine wl_ev (wg F rfl rfl rfl rfl hc3) (ev_int rfl rfl (bo_gtr _ _ _ _)) F S rfl rfl ?_; clear F a; intro a F
      refine wE (ev_pickF rfl hc3 rfl) F S rfl fun a F=>?_
      obtain rfl := sinj hm
      refine wpList_nil (then_n ?_); exact ⟨rfl, F.sub ⟨rfl, rfl, rfl, trivial⟩⟩
    clear F; rintro a w' ⟨rfl, F⟩
    refine wE (ev_move rfl) F S rfl fun a F=>?_
    obtain ⟨x5, hx4, hm⟩ := bind_some hm
    refine wl_cut 5 (fun a w' => w = w' ∧ Fr 39 a [(25, .bool x5), (3, .i6 x2), (0, .string s_)]) ?_ ?_
    ·clear hm; obtain ⟨hc4, hm⟩ | ⟨hc4, hm⟩ := ite_or hx4
     ·refine wl_skip rfl rfl rfl rfl (ne_ft hc4) F rfl rfl ?_; clear F a; intro a F
      refine wl_skip rfl rfl rfl rfl (ne_ft hc4) F rfl rfl ?_; clear F a; intro a F
      refine wl_skip rfl rfl rfl rfl (ne_ft hc4) F rfl rfl ?_; clear F a; intro a F
      refine wl_skip rfl rfl rfl rfl (ne_ft hc4) F rfl rfl ?_; clear F a; intro a F
      refine wE (ev_pickT rfl hc4 rfl) F S rfl fun a F=>?_
      obtain rfl := sinj hm
      refine wpList_nil (then_n ?_); exact ⟨rfl, F.sub ⟨rfl, rfl, rfl, trivial⟩⟩
     ·refine wl_ev (wg F rfl rfl rfl rfl hc4) (ev_move rfl) F S rfl rfl ?_; clear F a; intro a F
      refine wl_ev (wg F rfl rfl rfl rfl hc4) (ev_move rfl) F S rfl rfl ?_; clear F a; intro a F
      obtain ⟨y3, hy3, hm⟩ := bind_some hm
      refine wl_ev (wg F rfl rfl rfl rfl hc4) (ev_sAt hy3 tu9 rfl rfl) F S rfl rfl ?_; clear F a; intro a F
      refine wl_ev (wg F rfl rfl rfl rfl hc4) (ev_int rfl rfl (bo_eql _ _ _ _)) F S rfl rfl ?_; clear F a; intro a F
      refine wE (ev_pickF rfl hc4 rfl) F S rfl fun a F=>?_
      obtain rfl := sinj hm
      refine wpList_nil (then_n ?_); exact ⟨rfl, F.sub ⟨rfl, rfl, rfl, trivial⟩⟩
    clear F; rintro a w' ⟨rfl, F⟩
    refine wE (ev_move rfl) F S rfl fun a F=>?_
    obtain ⟨x6, hx5, hm⟩ := bind_some hm
    refine wl_cut 5 (fun a w' => w = w' ∧ Fr 39 a [(31, .bool x6), (3, .i6 x2), (0, .string s_)]) ?_ ?_
    ·clear hm; obtain ⟨hc5, hm⟩ | ⟨hc5, hm⟩ := ite_or hx5
     ·refine wl_skip rfl rfl rfl rfl (ne_ft hc5) F rfl rfl ?_; clear F a; intro a F
      refine wl_skip rfl rfl rfl rfl (ne_ft hc5) F rfl rfl ?_; clear F a; intro a F
      refine wl_skip rfl rfl rfl rfl (ne_ft hc5) F rfl rfl ?_; clear F a; intro a F
      refine wl_skip rfl rfl rfl rfl (ne_ft hc5) F rfl rfl ?_; clear F a; intro a F
      refine wE (ev_pickT rfl hc5 rfl) F S rfl fun a F=>?_
      obtain rfl := sinj hm
      refine wpList_nil (then_n ?_); exact ⟨rfl, F.sub ⟨rfl, rfl, rfl, trivial⟩⟩
     ·refine wl_ev (wg F rfl rfl rfl rfl hc5) (ev_move rfl) F S rfl rfl ?_; clear F a; intro a F
      refine wl_ev (wg F rfl rfl rfl rfl hc5) (ev_move rfl) F S rfl rfl ?_; clear F a; intro a F
      obtain ⟨y4, hy4, hm⟩ := bind_some hm
      refine wl_ev (wg F rfl rfl rfl rfl hc5) (ev_sAt hy4 tu9 rfl rfl) F S rfl rfl ?_; clear F a; intro a F
      refine wl_ev (wg F rfl rfl rfl rfl hc5) (ev_int rfl rfl (bo_eql _ _ _ _)) F S rfl rfl ?_; clear F a; intro a F
      refine wE (ev_pickF rfl hc5 rfl) F S rfl fun a F=>?_
      obtain rfl := sinj hm
      refine wpList_nil (then_n ?_); exact ⟨rfl, F.sub ⟨rfl, rfl, rfl, trivial⟩⟩
    clear F; rintro a w' ⟨rfl, F⟩
    refine wpList_nil ?_
    refine then_n ?_
    obtain ⟨hc6, hm⟩ | ⟨hc6, hm⟩ := ite_or hm
    ·refine wp_condT F rfl hc6 ?_
     refine wp_seq ?_
     refine wp_region_lit ?_
     refine wE (ev_assign rfl) F S rfl fun a F=>?_
     refine wpList_nil ?_
     refine then_n ?_
     refine wp_ret ?_
     refine inb_r ?_
     refine then_r ?_
     refine then_r ?_
     refine inb_r ?_
     refine then_r ?_
     obtain rfl := sinj hm
     obtain rfl := hfin1 _ rfl
     clear hm
     have hm : (some false : Option Bool) = some _ := hmo1
     obtain rfl := sinj hm
     refine post_r _ F rfl (ar_cons (resT rfl) ar_nil) ?_
     exact ⟨_, rfl, g2, l2, S, rfl⟩
    ·refine wp_condF F rfl hc6 ?_
     refine wp_skip ?_
     refine inb_n ?_
     refine then_n ?_
     refine wp_region_lit ?_
     refine wE (ev_move rfl) F S rfl fun a F=>?_
     obtain ⟨z1, hz1, hm⟩ := bind_some hm
     refine wE (ev_int rfl rfl (bo_add hz1)) F S rfl fun a F=>?_
     refine wE (ev_assign rfl) F S rfl fun a F=>?_
     refine wpList_nil ?_
     refine then_n ?_
     obtain rfl := sinj hm
     refine ⟨_, rfl, ?_⟩
     exact ⟨g2, F.sub ⟨rfl, rfl, trivial⟩, l2, S⟩
   ·refine wp_condF F rfl hc2 ?_
    refine wp_exit ?_
    refine then_e ?_
    refine then_e ?_
    refine inb_x ?_
    refine then_n ?_
    obtain rfl := sinj hm
    obtain rfl := hfin1 _ rfl
    clear hm
    have hm : (changeforgeref2_LabelValid.j1 s_ : Option Bool) = some _ := hmo1
    exact ⟨g2, F.sub ⟨rfl, trivial⟩, l2, S, hm⟩
 ·clear F S hm; rintro a w ⟨g1, F, l1, S, hm⟩
  refine wp_seq ?_
  refine wp_region_lit ?_
  refine wE (ev_move rfl) F S rfl fun a F=>?_
  refine wE (ev_str rfl rfl (bs_neq _ _ _)) F S rfl fun a F=>?_
  refine wE (ev_move rfl) F S rfl fun a F=>?_
  obtain ⟨x1, hx1, hm⟩ := bind_some hm
  refine wl_cut 4 (fun a w' => w = w' ∧ Fr 39 a [(38, .bool x1)]) ?_ ?_
  ·clear hm; obtain ⟨hc1, hm⟩ | ⟨hc1, hm⟩ := ite_or hx1
   ·refine wl_ev (wg F rfl rfl rfl rfl hc1) (ev_move rfl) F S rfl rfl ?_; clear F a; intro a F
    refine wl_ev (wg F rfl rfl rfl rfl hc1) (ev_lenS rfl tu9) F S rfl rfl ?_; clear F a; intro a F
    refine wl_ev (wg F rfl rfl rfl rfl hc1) (ev_int rfl rfl (bo_leq _ _ _ _)) F S rfl rfl ?_; clear F a; intro a F
    refine wE (ev_pickT rfl hc1 rfl) F S rfl fun a F=>?_
    obtain rfl := sinj hm
    refine wpList_nil (then_n ?_); exact ⟨rfl, F.sub ⟨rfl, trivial⟩⟩
   ·refine wl_skip rfl rfl rfl rfl (ne_tf hc1) F rfl rfl ?_; clear F a; intro a F
    refine wl_skip rfl rfl rfl rfl (ne_tf hc1) F rfl rfl ?_; clear F a; intro a F
    refine wl_skip rfl rfl rfl rfl (ne_tf hc1) F rfl rfl ?_; clear F a; intro a F
    refine wE (ev_pickF rfl hc1 rfl) F S rfl fun a F=>?_
    obtain rfl := sinj hm
    refine wpList_nil (then_n ?_); exact ⟨rfl, F.sub ⟨rfl, trivial⟩⟩
  clear F; rintro a w' ⟨rfl, F⟩
  refine wE (ev_assign rfl) F S rfl fun a F=>?_
  refine wpList_nil ?_
  refine then_n ?_
  refine wp_ret ?_
  obtain rfl := sinj hm
  refine post_r _ F rfl (ar_cons (resT rfl) ar_nil) ?_
  exact ⟨_, rfl, g1, l1, S, rfl⟩

theorem changeforgeref2_Size.body_ok {rec_ : SyntaxTree → Int → Option Int} (hrec : ∀ {g : Gh} {fr : Hl} {w : World} {r : Int} (t_ : SyntaxTree) (vt_1 : Value) (ht_1 : RepSl g t_.Nodes vt_1) (i_ : Int) (S : St g [] fr w) (hm : rec_ t_ i_ = some r), Calls Try.prog 25 [.agg #[vt_1], .i6 i_].toArray w (fun en w' => ∃ v, en = .returned v ∧ ∃ (g' : Gh), Le g g' ∧ St g' [] fr w' ∧ .i6 r = v)) {g : Gh} {fr : Hl} {w : World} {r : Int} (t_ : SyntaxTree) (vt_1 : Value) (ht_1 : RepSl g t_.Nodes vt_1) (i_ : Int) (S : St g [] fr w) (hm : changeforgeref2_Size.body rec_ t_ i_ = some r) :
  Calls Try.prog 25 [.agg #[vt_1], .i6 i_].toArray w (fun en w' => ∃ v, en = .returned v ∧ ∃ (g' : Gh), Le g g' ∧ St g' [] fr w' ∧ .i6 r = v) := by
 unfold changeforgeref2_Size.body at hm
 refine calls_enter (fn := Try.f25) Try.func25 rfl Try.ntmps25 (lb rfl) ?_
 intro a F
 replace F : Fr 32 a [(0, .agg #[vt_1]), (1, .i6 i_)] := F
 refine wp_seq ?_
 refine wp_region_lit ?_
 refine wl_boxC (wn rfl) rfl rfl rfl F S rfl rfl ?_; clear F a S; rintro b1 a w F S
 refine wE (ev_assign rfl) F S rfl fun a F=>?_
 refine wpList_nil ?_
 refine then_n ?_
 refine wp_seq ?_
 refine wp_region_lit ?_
 refine wE (ev_assign rfl) F S rfl fun a F=>?_
 refine wpList_nil ?_
 refine then_n ?_
 refine wp_cut (fun a w => ∃ (x1 : Int) (g1 : Gh), Fr 32 a [(5, .i6 x1)] ∧ Le g g1 ∧ St g1 [] fr w ∧ changeforgeref2_Size.j1 x1 = some r) ?_ ?_
 ·refine wp_seq ?_
  refine wp_region_lit ?_
  refine wE (ev_assign rfl) F S rfl fun a F=>?_
  refine wpList_nil ?_
  refine then_n ?_
  refine wp_block ?_
  obtain ⟨r1, hr1, hm⟩ := bind_some hm
  have hmo1 := hm; clear hm
  refine wp_iter (σ := Int × Int) (ρ := Int) (m := fun s => changeforgeref2_Size.l1 t_ i_ rec_ s.1 s.2) (I := fun s a w => match s with | (x2, x3) => ∃ (g2 : Gh), Fr 32 a [(6, .i6 x2), (5, .i6 x3), (2, bp b1 0), (1, .i6 i_)] ∧ Le g g2 ∧ St g2 [[bx b1 #[vt_1] 24]] fr w) hr1 ?_ ?_
  ·dsimp only
   exact ⟨g, F.sub ⟨rfl, rfl, rfl, rfl, trivial⟩, (Le.refl _), S⟩
  ·clear F S; rintro ⟨x2, x3⟩ a w x4 ⟨g2, F, l2, S⟩ hx1 hfin1
   have hm : changeforgeref2_Size.l1 t_ i_ rec_ x2 x3 = some x4 := hx1; clear hx1
   unfold changeforgeref2_Size.l1 at hm
   refine wp_seq ?_
   refine wp_seq ?_
   refine wp_region_lit ?_
   refine wE (ev_move rfl) F S rfl fun a F=>?_
   refine wE (ev_fieldAddr' tu24 tf24_0 (z := 0) ts22 rfl ⟨_, rfl⟩ rfl) F S rfl fun a F=>?_
   refine wE (ev_load1 tu22 rfl rfl (box_ptr (cells := [vt_1]) 0 rfl 0 rfl (lb rfl))) F S rfl fun a F=>?_
   refine wE (ev_move rfl) F S rfl fun a F=>?_
   obtain ⟨y1, hy1, hm⟩ := bind_some hm
   obtain ⟨cs1, hr2, hp1⟩ := elemS (ht_1.mono l2) hy1
   obtain ⟨v1, rfl, h1⟩ := rep_Node hr2
   refine wE (ev_idxS (ht_1.mono l2) hy1 tu22 ts50 rfl rfl) F S rfl fun a F=>?_
   have hp2 := PtrC.field hp1 1 1 (lb rfl)
   have hp2 : PtrC g2 (addP (elemP vt_1 i_ 2) 1) [v1] := hp2
   refine wE (ev_fieldAddr' tu50 tf50_1 (z := 0) ts38 rfl hp1.ptr rfl) F S rfl fun a F=>?_
   refine wE (ev_load1 tu38 rfl rfl (ptr_mono (cks := [[bx b1 #[vt_1] 24]]) (fr := fr) hp2 (Le.refl _))) F S rfl fun a F=>?_
   refine wE (ev_lenSh h1 rfl tu38) F S rfl fun a F=>?_
   refine wE (ev_int rfl rfl (bo_lss _ _ _ _)) F S rfl fun a F=>?_
   refine wpList_nil ?_
   refine then_n ?_
   obtain ⟨hc1, hm⟩ | ⟨hc1, hm⟩ := ite_or hm
   ·refine wp_condT F rfl hc1 ?_
    refine wp_skip ?_
    refine then_n ?_
    refine wp_seq ?_
    refine wp_block ?_
    refine wp_quiet mo (by kernel_rfl) S ?_
    refine wq_ev (wn rfl) (ev_move rfl) F rfl rfl ?_; clear F a; intro a F
    refine wq_ev (wn rfl) (ev_loadA tu24 rfl (cs := [vt_1]) ts24 rfl (box_ptr (cells := [vt_1]) 0 rfl 0 rfl (lb rfl))) F rfl rfl ?_; clear F a; intro a F
    refine wq_ev (wn rfl) (ev_fieldAddr' tu24 tf24_0 (z := 0) ts22 rfl ⟨_, rfl⟩ rfl) F rfl rfl ?_; clear F a; intro a F
    refine wq_ev (wn rfl) (ev_load1 tu22 rfl rfl (box_ptr (cells := [vt_1]) 0 rfl 0 rfl (lb rfl))) F rfl rfl ?_; clear F a; intro a F
    refine wq_ev (wn rfl) (ev_move rfl) F rfl rfl ?_; clear F a; intro a F
    obtain ⟨y2, hy2, hm⟩ := bind_some hm
    obtain ⟨cs2, hr3, hp3⟩ := elemS (ht_1.mono l2) hy2
    obtain ⟨v2, rfl, h2⟩ := rep_Node hr3
    refine wq_ev (wn rfl) (ev_idxS (ht_1.mono l2) hy2 tu22 ts50 rfl rfl) F rfl rfl ?_; clear F a; intro a F
    have hp4 := PtrC.field hp3 1 1 (lb rfl)
    have hp4 : PtrC g2 (addP (elemP vt_1 i_ 2) 1) [v2] := hp4
    refine wq_ev (wn rfl) (ev_fieldAddr' tu50 tf50_1 (z := 0) ts38 rfl hp3.ptr rfl) F rfl rfl ?_; clear F a; intro a F
    refine wq_ev (wn rfl) (ev_load1 tu38 rfl rfl (ptr_mono (cks := [[bx b1 #[vt_1] 24]]) (fr := fr) hp4 (Le.refl _))) F rfl rfl ?_; clear F a; intro a F
    refine wq_ev (wn rfl) (ev_move rfl) F rfl rfl ?_; clear F a; intro a F
    obtain ⟨y3, hy3, hm⟩ := bind_some hm
    obtain ⟨cs3, hr4, hp5⟩ := elemS h2 hy3
    obtain rfl := rep_int hr4
    refine wq_ev (wn rfl) (ev_idxS h2 hy3 tu38 ts3 rfl rfl) F rfl rfl ?_; clear F a; intro a F
    refine wq_ev (wn rfl) (ev_load1 tu3 rfl rfl (ptr_mono (cks := [[bx b1 #[vt_1] 24]]) (fr := fr) hp5 (Le.refl _))) F rfl rfl ?_; clear F a; intro a F
    obtain ⟨y4, hy4, hm⟩ := bind_some hm
    refine wq_call (wn rfl) rfl (xs := [.tmp 19, .tmp 28]) (vs := [.agg #[vt_1], .i6 y3]) (cap := []) F rfl rfl tc25 (v := .i6 y4) (fun w S => (hrec (g := g2) (fr := (fl [[bx b1 #[vt_1] 24]] fr)) (w := w) t_ vt_1 (ht_1.mono l2) y3 S hy4).mono (by rintro en w' ⟨_, rfl, g2, l2, S2, rfl⟩; exact ⟨rfl, S2.weak l2⟩)) rfl rfl ?_; clear F a; intro a F
    obtain ⟨z1, hz1, hm⟩ := bind_some hm
    refine wq_ev (wn rfl) (ev_int rfl rfl (bo_add hz1)) F rfl rfl ?_; clear F a; intro a F
    refine wq_ev (wn rfl) (ev_assign rfl) F rfl rfl ?_; clear F a; intro a F
    refine wq_nil ?_; clear S; intro w S
    refine inb_n ?_
    refine then_n ?_
    refine wp_region_lit ?_
    refine wE (ev_move rfl) F S rfl fun a F=>?_
    obtain ⟨z2, hz2, hm⟩ := bind_some hm
    refine wE (ev_int rfl rfl (bo_add hz2)) F S rfl fun a F=>?_
    refine wE (ev_assign rfl) F S rfl fun a F=>?_
    refine wpList_nil ?_
    refine then_n ?_
    obtain rfl := sinj hm
    refine ⟨_, rfl, ?_⟩
    dsimp only
    exact ⟨g2, F.sub ⟨rfl, rfl, rfl, rfl, trivial⟩, l2, S⟩
   ·refine wp_condF F rfl hc1 ?_
    refine wp_exit ?_
    refine then_e ?_
    refine then_e ?_
    refine inb_x ?_
    refine then_n ?_
    obtain rfl := sinj hm
    obtain rfl := hfin1 _ rfl
    clear hm
    have hm : (changeforgeref2_Size.j1 x3 : Option Int) = some _ := hmo1
    replace S : St g2 [] fr w := St.tail [] _ S
    exact ⟨x3, g2, F.sub ⟨rfl, trivial⟩, l2, S, hm⟩
 ·clear F S hm; rintro a w ⟨x1, g1, F, l1, S, hm⟩
  refine wp_seq ?_
  refine wp_region_lit ?_
  refine wE (ev_move rfl) F S rfl fun a F=>?_
  refine wE (ev_assign rfl) F S rfl fun a F=>?_
  refine wpList_nil ?_
  refine then_n ?_
  refine wp_ret ?_
  obtain rfl := sinj hm
  refine post_r _ F rfl (ar_cons (resT rfl) ar_nil) ?_
  exact ⟨_, rfl, g1, l1, S, rfl⟩

theorem changeforgeref2_Size.m_ok : ∀ (fu_ : Nat) {g : Gh} {fr : Hl} {w : World} {r : Int} (t_ : SyntaxTree) (vt_1 : Value) (ht_1 : RepSl g t_.Nodes vt_1) (i_ : Int) (S : St g [] fr w) (hm : changeforgeref2_Size.m fu_ t_ i_ = some r), Calls Try.prog 25 [.agg #[vt_1], .i6 i_].toArray w (fun en w' => ∃ v, en = .returned v ∧ ∃ (g' : Gh), Le g g' ∧ St g' [] fr w' ∧ .i6 r = v)
 | 0 => by intros; rename_i hm; cases hm
 | fu_ + 1 => changeforgeref2_Size.body_ok (changeforgeref2_Size.m_ok fu_)

theorem changeforgeref2_Size_ok {g : Gh} {fr : Hl} {w : World} {r : Int} (t_ : SyntaxTree) (vt_1 : Value) (ht_1 : RepSl g t_.Nodes vt_1) (i_ : Int) (S : St g [] fr w) (hm : changeforgeref2_Size t_ i_ = some r) :
  Calls Try.prog 25 [.agg #[vt_1], .i6 i_].toArray w (fun en w' => ∃ v, en = .returned v ∧ ∃ (g' : Gh), Le g g' ∧ St g' [] fr w' ∧ .i6 r = v) := changeforgeref2_Size.m_ok _ t_ vt_1 ht_1 i_ S hm

theorem changeforgeref2_Depth.body_ok {rec_ : SyntaxTree → Int → Option Int} (hrec : ∀ {g : Gh} {fr : Hl} {w : World} {r : Int} (t_ : SyntaxTree) (vt_1 : Value) (ht_1 : RepSl g t_.Nodes vt_1) (i_ : Int) (S : St g [] fr w) (hm : rec_ t_ i_ = some r), Calls Try.prog 26 [.agg #[vt_1], .i6 i_].toArray w (fun en w' => ∃ v, en = .returned v ∧ ∃ (g' : Gh), Le g g' ∧ St g' [] fr w' ∧ .i6 r = v)) {g : Gh} {fr : Hl} {w : World} {r : Int} (t_ : SyntaxTree) (vt_1 : Value) (ht_1 : RepSl g t_.Nodes vt_1) (i_ : Int) (S : St g [] fr w) (hm : changeforgeref2_Depth.body rec_ t_ i_ = some r) :
  Calls Try.prog 26 [.agg #[vt_1], .i6 i_].toArray w (fun en w' => ∃ v, en = .returned v ∧ ∃ (g' : Gh), Le g g' ∧ St g' [] fr w' ∧ .i6 r = v) := by
 unfold changeforgeref2_Depth.body at hm
 refine calls_enter (fn := Try.f26) Try.func26 rfl Try.ntmps26 (lb rfl) ?_
 intro a F
 replace F : Fr 36 a [(0, .agg #[vt_1]), (1, .i6 i_)] := F
 refine wp_seq ?_
 refine wp_region_lit ?_
 refine wl_boxC (wn rfl) rfl rfl rfl F S rfl rfl ?_; clear F a S; rintro b1 a w F S
 refine wE (ev_assign rfl) F S rfl fun a F=>?_
 refine wpList_nil ?_
 refine then_n ?_
 refine wp_seq ?_
 refine wp_region_lit ?_
 refine wE (ev_assign rfl) F S rfl fun a F=>?_
 refine wpList_nil ?_
 refine then_n ?_
 refine wp_cut (fun a w => ∃ (x1 : Int) (g1 : Gh), Fr 36 a [(5, .i6 x1)] ∧ Le g g1 ∧ St g1 [] fr w ∧ changeforgeref2_Depth.j1 x1 = some r) ?_ ?_
 ·refine wp_seq ?_
  refine wp_region_lit ?_
  refine wE (ev_assign rfl) F S rfl fun a F=>?_
  refine wpList_nil ?_
  refine then_n ?_
  refine wp_block ?_
  obtain ⟨r1, hr1, hm⟩ := bind_some hm
  have hmo1 := hm; clear hm
  refine wp_iter (σ := Int × Int) (ρ := Int) (m := fun s => changeforgeref2_Depth.l1 t_ i_ rec_ s.1 s.2) (I := fun s a w => match s with | (x2, x3) => ∃ (g2 : Gh), Fr 36 a [(6, .i6 x2), (5, .i6 x3), (2, bp b1 0), (1, .i6 i_)] ∧ Le g g2 ∧ St g2 [[bx b1 #[vt_1] 24]] fr w) hr1 ?_ ?_
  ·dsimp only
   exact ⟨g, F.sub ⟨rfl, rfl, rfl, rfl, trivial⟩, (Le.refl _), S⟩
  ·clear F S; rintro ⟨x2, x3⟩ a w x4 ⟨g2, F, l2, S⟩ hx1 hfin1
   have hm : changeforgeref2_Depth.l1 t_ i_ rec_ x2 x3 = some x4 := hx1; clear hx1
   unfold changeforgeref2_Depth.l1 at hm
   refine wp_seq ?_
   refine wp_seq ?_
   refine wp_region_lit ?_
   refine wE (ev_move rfl) F S rfl fun a F=>?_
   refine wE (ev_fieldAddr' tu24 tf24_0 (z := 0) ts22 rfl ⟨_, rfl⟩ rfl) F S rfl fun a F=>?_
   refine wE (ev_load1 tu22 rfl rfl (box_ptr (cells := [vt_1]) 0 rfl 0 rfl (lb rfl))) F S rfl fun a F=>?_
   refine wE (ev_move rfl) F S rfl fun a F=>?_
   obtain ⟨y1, hy1, hm⟩ := bind_some hm
   obtain ⟨cs1, hr2, hp1⟩ := elemS (ht_1.mono l2) hy1
   obtain ⟨v1, rfl, h1⟩ := rep_Node hr2
   refine wE (ev_idxS (ht_1.mono l2) hy1 tu22 ts50 rfl rfl) F S rfl fun a F=>?_
   have hp2 := PtrC.field hp1 1 1 (lb rfl)
   have hp2 : PtrC g2 (addP (elemP vt_1 i_ 2) 1) [v1] := hp2
   refine wE (ev_fieldAddr' tu50 tf50_1 (z := 0) ts38 rfl hp1.ptr rfl) F S rfl fun a F=>?_
   refine wE (ev_load1 tu38 rfl rfl (ptr_mono (cks := [[bx b1 #[vt_1] 24]]) (fr := fr) hp2 (Le.refl _))) F S rfl fun a F=>?_
   refine wE (ev_lenSh h1 rfl tu38) F S rfl fun a F=>?_
   refine wE (ev_int rfl rfl (bo_lss _ _ _ _)) F S rfl fun a F=>?_
   refine wpList_nil ?_
   refine then_n ?_
   obtain ⟨hc1, hm⟩ | ⟨hc1, hm⟩ := ite_or hm
   ·refine wp_condT F rfl hc1 ?_
    refine wp_skip ?_
    refine then_n ?_
    refine wp_cut (fun a w => ∃ (x5 : Int) (g3 : Gh), Fr 36 a [(5, .i6 x5), (6, .i6 x2), (2, bp b1 0), (1, .i6 i_)] ∧ Le g2 g3 ∧ St g3 [[bx b1 #[vt_1] 24]] fr w ∧ changeforgeref2_Depth.j2 x2 x5 = some x4) ?_ ?_
    ·refine wp_block ?_
     refine wp_seq ?_
     refine wp_quiet mo (by kernel_rfl) S ?_
     refine wq_ev (wn rfl) (ev_loadA tu24 rfl (cs := [vt_1]) ts24 rfl (box_ptr (cells := [vt_1]) 0 rfl 0 rfl (lb rfl))) F rfl rfl ?_; clear F a; intro a F
     refine wq_ev (wn rfl) (ev_fieldAddr' tu24 tf24_0 (z := 0) ts22 rfl ⟨_, rfl⟩ rfl) F rfl rfl ?_; clear F a; intro a F
     refine wq_ev (wn rfl) (ev_load1 tu22 rfl rfl (box_ptr (cells := [vt_1]) 0 rfl 0 rfl (lb rfl))) F rfl rfl ?_; clear F a; intro a F
     refine wq_ev (wn rfl) (ev_move rfl) F rfl rfl ?_; clear F a; intro a F
     obtain ⟨y2, hy2, hm⟩ := bind_some hm
     obtain ⟨cs2, hr3, hp3⟩ := elemS (ht_1.mono l2) hy2
     obtain ⟨v2, rfl, h2⟩ := rep_Node hr3
     refine wq_ev (wn rfl) (ev_idxS (ht_1.mono l2) hy2 tu22 ts50 rfl rfl) F rfl rfl ?_; clear F a; intro a F
     have hp4 := PtrC.field hp3 1 1 (lb rfl)
     have hp4 : PtrC g2 (addP (elemP vt_1 i_ 2) 1) [v2] := hp4
     refine wq_ev (wn rfl) (ev_fieldAddr' tu50 tf50_1 (z := 0) ts38 rfl hp3.ptr rfl) F rfl rfl ?_; clear F a; intro a F
     refine wq_ev (wn rfl) (ev_load1 tu38 rfl rfl (ptr_mono (cks := [[bx b1 #[vt_1] 24]]) (fr := fr) hp4 (Le.refl _))) F rfl rfl ?_; clear F a; intro a F
     refine wq_ev (wn rfl) (ev_move rfl) F rfl rfl ?_; clear F a; intro a F
     obtain ⟨y3, hy3, hm⟩ := bind_some hm
     obtain ⟨cs3, hr4, hp5⟩ := elemS h2 hy3
     obtain rfl := rep_int hr4
     refine wq_ev (wn rfl) (ev_idxS h2 hy3 tu38 ts3 rfl rfl) F rfl rfl ?_; clear F a; intro a F
     refine wq_ev (wn rfl) (ev_load1 tu3 rfl rfl (ptr_mono (cks := [[bx b1 #[vt_1] 24]]) (fr := fr) hp5 (Le.refl _))) F rfl rfl ?_; clear F a; intro a F
     obtain ⟨y4, hy4, hm⟩ := bind_some hm
     refine wq_call (wn rfl) rfl (xs := [.tmp 19, .tmp 28]) (vs := [.agg #[vt_1], .i6 y3]) (cap := []) F rfl rfl tc26 (v := .i6 y4) (fun w S => (hrec (g := g2) (fr := (fl [[bx b1 #[vt_1] 24]] fr)) (w := w) t_ vt_1 (ht_1.mono l2) y3 S hy4).mono (by rintro en w' ⟨_, rfl, g2, l2, S2, rfl⟩; exact ⟨rfl, S2.weak l2⟩)) rfl rfl ?_; clear F a; intro a F
     refine wq_ev (wn rfl) (ev_assign rfl) F rfl rfl ?_; clear F a; intro a F
     refine wq_nil ?_; clear S; intro w S
     refine then_n ?_
     refine wp_seq ?_
     refine wp_region_lit ?_
     refine wE (ev_move rfl) F S rfl fun a F=>?_
     refine wE (ev_move rfl) F S rfl fun a F=>?_
     refine wE (ev_int rfl rfl (bo_gtr _ _ _ _)) F S rfl fun a F=>?_
     refine wpList_nil ?_
     refine then_n ?_
     obtain ⟨hc2, hm⟩ | ⟨hc2, hm⟩ := ite_or hm
     ·refine wp_condT F rfl hc2 ?_
      refine wp_region_lit ?_
      refine wE (ev_move rfl) F S rfl fun a F=>?_
      refine wE (ev_assign rfl) F S rfl fun a F=>?_
      refine wpList_nil ?_
      refine inb_n ?_
      refine then_n ?_
      exact ⟨y4, g2, F.sub ⟨rfl, rfl, rfl, rfl, trivial⟩, (Le.refl _), S, hm⟩
     ·refine wp_condF F rfl hc2 ?_
      refine wp_skip ?_
      refine inb_n ?_
      refine then_n ?_
      exact ⟨x3, g2, F.sub ⟨rfl, rfl, rfl, rfl, trivial⟩, (Le.refl _), S, hm⟩
    ·clear F S hm; rintro a w ⟨x5, g3, F, l3, S, hm⟩
     refine wp_region_lit ?_
     refine wE (ev_move rfl) F S rfl fun a F=>?_
     obtain ⟨z2, hz2, hm⟩ := bind_some hm
     refine wE (ev_int rfl rfl (bo_add hz2)) F S rfl fun a F=>?_
     refine wE (ev_assign rfl) F S rfl fun a F=>?_
     refine wpList_nil ?_
     refine then_n ?_
     obtain rfl := sinj hm
     refine ⟨_, rfl, ?_⟩
     dsimp only
     exact ⟨g3, F.sub ⟨rfl, rfl, rfl, rfl, trivial⟩, (l2.trans l3), S⟩
   ·refine wp_condF F rfl hc1 ?_
    refine wp_exit ?_
    refine then_e ?_
    refine then_e ?_
    refine inb_x ?_
    refine then_n ?_
    obtain rfl := sinj hm
    obtain rfl := hfin1 _ rfl
    clear hm
    have hm : (changeforgeref2_Depth.j1 x3 : Option Int) = some _ := hmo1
    replace S : St g2 [] fr w := St.tail [] _ S
    exact ⟨x3, g2, F.sub ⟨rfl, trivial⟩, l2, S, hm⟩
 ·clear F S hm; rintro a w ⟨x1, g1, F, l1, S, hm⟩
  refine wp_seq ?_
  refine wp_region_lit ?_
  refine wE (ev_move rfl) F S rfl fun a F=>?_
  obtain ⟨z1, hz1, hm⟩ := bind_some hm
  refine wE (ev_int rfl rfl (bo_add hz1)) F S rfl fun a F=>?_
  refine wE (ev_assign rfl) F S rfl fun a F=>?_
  refine wpList_nil ?_
  refine then_n ?_
  refine wp_ret ?_
  obtain rfl := sinj hm
  refine post_r _ F rfl (ar_cons (resT rfl) ar_nil) ?_
  exact ⟨_, rfl, g1, l1, S, rfl⟩

theorem changeforgeref2_Depth.m_ok : ∀ (fu_ : Nat) {g : Gh} {fr : Hl} {w : World} {r : Int} (t_ : SyntaxTree) (vt_1 : Value) (ht_1 : RepSl g t_.Nodes vt_1) (i_ : Int) (S : St g [] fr w) (hm : changeforgeref2_Depth.m fu_ t_ i_ = some r), Calls Try.prog 26 [.agg #[vt_1], .i6 i_].toArray w (fun en w' => ∃ v, en = .returned v ∧ ∃ (g' : Gh), Le g g' ∧ St g' [] fr w' ∧ .i6 r = v)
 | 0 => by intros; rename_i hm; cases hm
 | fu_ + 1 => changeforgeref2_Depth.body_ok (changeforgeref2_Depth.m_ok fu_)

theorem changeforgeref2_Depth_ok {g : Gh} {fr : Hl} {w : World} {r : Int} (t_ : SyntaxTree) (vt_1 : Value) (ht_1 : RepSl g t_.Nodes vt_1) (i_ : Int) (S : St g [] fr w) (hm : changeforgeref2_Depth t_ i_ = some r) :
  Calls Try.prog 26 [.agg #[vt_1], .i6 i_].toArray w (fun en w' => ∃ v, en = .returned v ∧ ∃ (g' : Gh), Le g g' ∧ St g' [] fr w' ∧ .i6 r = v) := changeforgeref2_Depth.m_ok _ t_ vt_1 ht_1 i_ S hm

theorem changeforgeref2_SyntaxFault_ok {g : Gh} {fr : Hl} {w : World} {r : Fault} (t_ : SyntaxTree) (vt_1 : Value) (ht_1 : RepSl g t_.Nodes vt_1) (S : St g [] fr w) (hm : changeforgeref2_SyntaxFault t_ = some r) :
  Calls Try.prog 13 [.agg #[vt_1]].toArray w (fun en w' => ∃ v, en = .returned v ∧ ∃ (g' : Gh), Le g g' ∧ St g' [] fr w' ∧ .agg #[.i6 r.Code, .i6 r.Index] = v) := by
 unfold changeforgeref2_SyntaxFault at hm
 refine calls_enter (fn := Try.f13) Try.func13 rfl Try.ntmps13 (lb rfl) ?_
 intro a F
 replace F : Fr 91 a [(0, .agg #[vt_1])] := F
 refine wp_seq ?_
 refine wp_region_lit ?_
 refine wl_boxC (wn rfl) rfl rfl rfl F S rfl rfl ?_; clear F a S; rintro b1 a w F S
 refine wl_alloc (wn rfl) rfl tz26 (cs := [.i6 0, .i6 0]) rfl F S rfl rfl ?_; clear F a S; rintro b2 a w F S
 refine wpList_nil ?_
 refine then_n ?_
 refine wp_seq ?_
 refine wp_seq ?_
 refine wp_region_lit ?_
 refine wE (ev_fieldAddr' tu24 tf24_0 (z := 0) ts22 rfl ⟨_, rfl⟩ rfl) F S rfl fun a F=>?_
 refine wE (ev_load1 tu22 rfl rfl (box_ptr (cells := [vt_1]) 1 rfl 0 rfl (lb rfl))) F S rfl fun a F=>?_
 refine wE (ev_lenSh ht_1 rfl tu22) F S rfl fun a F=>?_
 refine wE (ev_int rfl rfl (bo_eql _ _ _ _)) F S rfl fun a F=>?_
 refine wE (ev_move rfl) F S rfl fun a F=>?_
 obtain ⟨x1, hx1, hm⟩ := bind_some hm
 refine wl_cut 5 (fun a w' => w = w' ∧ Fr 91 a [(16, .bool x1), (2, bp b2 0), (1, bp b1 0)]) ?_ ?_
 ·clear hm; obtain ⟨hc1, hm⟩ | ⟨hc1, hm⟩ := ite_or hx1
  ·refine wl_skip rfl rfl rfl rfl (ne_ft hc1) F rfl rfl ?_; clear F a; intro a F
   refine wl_skip rfl rfl rfl rfl (ne_ft hc1) F rfl rfl ?_; clear F a; intro a F
   refine wl_skip rfl rfl rfl rfl (ne_ft hc1) F rfl rfl ?_; clear F a; intro a F
   refine wl_skip rfl rfl rfl rfl (ne_ft hc1) F rfl rfl ?_; clear F a; intro a F
   refine wE (ev_pickT rfl hc1 rfl) F S rfl fun a F=>?_
   obtain rfl := sinj hm
   refine wpList_nil (then_n ?_); exact ⟨rfl, F.sub ⟨rfl, rfl, rfl, trivial⟩⟩
  ·refine wl_ev (wg F rfl rfl rfl rfl hc1) (ev_fieldAddr' tu24 tf24_0 (z := 0) ts22 rfl ⟨_, rfl⟩ rfl) F S rfl rfl ?_; clear F a; intro a F
   refine wl_ev (wg F rfl rfl rfl rfl hc1) (ev_load1 tu22 rfl rfl (box_ptr (cells := [vt_1]) 1 rfl 0 rfl (lb rfl))) F S rfl rfl ?_; clear F a; intro a F
   refine wl_ev (wg F rfl rfl rfl rfl hc1) (ev_lenSh ht_1 rfl tu22) F S rfl rfl ?_; clear F a; intro a F
   refine wl_ev (wg F rfl rfl rfl rfl hc1) (ev_int rfl rfl (bo_gtr _ _ _ _)) F S rfl rfl ?_; clear F a; intro a F
   refine wE (ev_pickF rfl hc1 rfl) F S rfl fun a F=>?_
   obtain rfl := sinj hm
   refine wpList_nil (then_n ?_); exact ⟨rfl, F.sub ⟨rfl, rfl, rfl, trivial⟩⟩
 clear F; rintro a w' ⟨rfl, F⟩
 refine wpList_nil ?_
 refine then_n ?_
 obtain ⟨hc2, hm⟩ | ⟨hc2, hm⟩ := ite_or hm
 ·refine wp_condT F rfl hc2 ?_
  refine wp_seq ?_
  refine wp_region_lit ?_
  obtain ⟨y1, hy1, hm⟩ := bind_some hm
  refine wl_call0 (wn rfl) rfl F rfl (changeforgeref1_At_ok (fr := (fl [[bx b2 #[.i6 0, .i6 0] 26], [bx b1 #[vt_1] 24]] fr)) 2 (-1) S hy1) rfl tc23 rfl rfl ?_; clear F a S
  rintro _ a w ⟨g1, l1, S, rfl⟩ F; replace S : St g1 [[bx b2 #[.i6 0, .i6 0] 26], [bx b1 #[vt_1] 24]] fr w := S
  refine wl_storeC (wn rfl) rfl F S rfl rfl (vs := [.i6 y1.Code, .i6 y1.Index]) rfl ts26 (one_cons rfl (one_cons rfl one_nil)) (k := 0) rfl (lb rfl) (c' := #[.i6 y1.Code, .i6 y1.Index]) rfl rfl ?_; clear S; intro w S
  refine wpList_nil ?_
  refine then_n ?_
  refine wp_ret ?_
  refine then_r ?_
  obtain rfl := sinj hm
  refine post_r _ F rfl (ar_cons (resA rfl tu26 rfl (box_ptr (cells := [.i6 y1.Code, .i6 y1.Index]) 0 rfl 0 rfl (lb rfl) w S) ts26) ar_nil) ?_
  replace S : St g1 [] fr w := St.tail [] _ S
  exact ⟨_, rfl, g1, l1, S, rfl⟩
 ·refine wp_condF F rfl hc2 ?_
  refine wp_skip ?_
  refine then_n ?_
  refine wp_cut (fun a w => ∃ (g2 : Gh), Fr 91 a [(2, bp b2 0), (1, bp b1 0)] ∧ Le g g2 ∧ St g2 [[bx b2 #[.i6 0, .i6 0] 26], [bx b1 #[vt_1] 24]] fr w ∧ changeforgeref2_SyntaxFault.j1 t_ = some r) ?_ ?_
  ·refine wp_seq ?_
   refine wp_region_lit ?_
   refine wE (ev_assign rfl) F S rfl fun a F=>?_
   refine wpList_nil ?_
   refine then_n ?_
   refine wp_block ?_
   obtain ⟨r1, hr1, hm⟩ := bind_some hm
   have hmo1 := hm; clear hm
   refine wp_iter (σ := Int) (ρ := Fault ⊕ Unit) (m := fun s => changeforgeref2_SyntaxFault.l1 t_ s) (I := fun x2 a w => ∃ (g5 : Gh), Fr 91 a [(3, .i6 x2), (2, bp b2 0), (1, bp b1 0)] ∧ Le g g5 ∧ St g5 [[bx b2 #[.i6 0, .i6 0] 26], [bx b1 #[vt_1] 24]] fr w) hr1 ?_ ?_
   ·exact ⟨g, F.sub ⟨rfl, rfl, rfl, trivial⟩, (Le.refl _), S⟩
   ·clear F S; rintro x2 a w x3 ⟨g5, F, l5, S⟩ hx2 hfin1
    have hm : changeforgeref2_SyntaxFault.l1 t_ x2 = some x3 := hx2; clear hx2
    unfold changeforgeref2_SyntaxFault.l1 at hm
    refine wp_seq ?_
    refine wp_seq ?_
    refine wp_region_lit ?_
    refine wE (ev_move rfl) F S rfl fun a F=>?_
    refine wE (ev_fieldAddr' tu24 tf24_0 (z := 0) ts22 rfl ⟨_, rfl⟩ rfl) F S rfl fun a F=>?_
    refine wE (ev_load1 tu22 rfl rfl (box_ptr (cells := [vt_1]) 1 rfl 0 rfl (lb rfl))) F S rfl fun a F=>?_
    refine wE (ev_lenSh ht_1 rfl tu22) F S rfl fun a F=>?_
    refine wE (ev_int rfl rfl (bo_lss _ _ _ _)) F S rfl fun a F=>?_
    refine wpList_nil ?_
    refine then_n ?_
    obtain ⟨hc4, hm⟩ | ⟨hc4, hm⟩ := ite_or hm
    ·refine wp_condT F rfl hc4 ?_
     refine wp_skip ?_
     refine then_n ?_
     refine wp_cut (fun a w => ∃ (g6 : Gh), Fr 91 a [(3, .i6 x2), (2, bp b2 0), (1, bp b1 0)] ∧ Le g5 g6 ∧ St g6 [[bx b2 #[.i6 0, .i6 0] 26], [bx b1 #[vt_1] 24]] fr w ∧ changeforgeref2_SyntaxFault.j2 x2 = some x3) ?_ ?_
     ·refine wp_block ?_
      refine wp_seq ?_
      refine wp_seq ?_
      refine wp_region_lit ?_
      refine wE (ev_fieldAddr' tu24 tf24_0 (z := 0) ts22 rfl ⟨_, rfl⟩ rfl) F S rfl fun a F=>?_
      refine wE (ev_load1 tu22 rfl rfl (box_ptr (cells := [vt_1]) 1 rfl 0 rfl (lb rfl))) F S rfl fun a F=>?_
      refine wE (ev_move rfl) F S rfl fun a F=>?_
      obtain ⟨y4, hy4, hm⟩ := bind_some hm
      obtain ⟨cs1, hr2, hp1⟩ := elemS (ht_1.mono l5) hy4
      obtain ⟨v1, rfl, h1⟩ := rep_Node hr2
      refine wE (ev_idxS (ht_1.mono l5) hy4 tu22 ts50 rfl rfl) F S rfl fun a F=>?_
      have hp2 := PtrC.field hp1 0 1 (lb rfl)
      have hp2 : PtrC g5 (addP (elemP vt_1 x2 2) 0) [.string y4.Label] := hp2
      refine wE (ev_fieldAddr' tu50 tf50_0 (z := 0) ts9 rfl hp1.ptr rfl) F S rfl fun a F=>?_
      refine wE (ev_load1 tu9 rfl rfl (ptr_mono (cks := [[bx b2 #[.i6 0, .i6 0] 26], [bx b1 #[vt_1] 24]]) (fr := fr) hp2 (Le.refl _))) F S rfl fun a F=>?_
      obtain ⟨y5, hy5, hm⟩ := bind_some hm
      refine wl_call0 (wn rfl) rfl F rfl (changeforgeref2_LabelValid_ok (fr := (fl [[bx b2 #[.i6 0, .i6 0] 26], [bx b1 #[vt_1] 24]] fr)) y4.Label S hy5) rfl tc24 rfl rfl ?_; clear F a S
      rintro _ a w ⟨g7, l7, S, rfl⟩ F; replace S : St g7 [[bx b2 #[.i6 0, .i6 0] 26], [bx b1 #[vt_1] 24]] fr w := S
      refine wE (ev_not rfl) F S rfl fun a F=>?_
      refine wpList_nil ?_
      refine then_n ?_
      obtain ⟨hc5, hm⟩ | ⟨hc5, hm⟩ := ite_or hm
      ·refine wp_condT F rfl hc5 ?_
       refine wp_seq ?_
       refine wp_region_lit ?_
       refine wE (ev_move rfl) F S rfl fun a F=>?_
       obtain ⟨y6, hy6, hm⟩ := bind_some hm
       refine wl_call0 (wn rfl) rfl F rfl (changeforgeref1_At_ok (fr := (fl [[bx b2 #[.i6 0, .i6 0] 26], [bx b1 #[vt_1] 24]] fr)) 12 x2 S hy6) rfl tc23 rfl rfl ?_; clear F a S
       rintro _ a w ⟨g8, l8, S, rfl⟩ F; replace S : St g8 [[bx b2 #[.i6 0, .i6 0] 26], [bx b1 #[vt_1] 24]] fr w := S
       refine wl_storeC (wn rfl) rfl F S rfl rfl (vs := [.i6 y6.Code, .i6 y6.Index]) rfl ts26 (one_cons rfl (one_cons rfl one_nil)) (k := 0) rfl (lb rfl) (c' := #[.i6 y6.Code, .i6 y6.Index]) rfl rfl ?_; clear S; intro w S
       refine wpList_nil ?_
       refine then_n ?_
       refine wp_ret ?_
       refine then_r ?_
       refine inb_r ?_
       refine then_r ?_
       refine then_r ?_
       refine inb_r ?_
       refine then_r ?_
       obtain rfl := sinj hm
       obtain rfl := hfin1 _ rfl
       clear hm
       have hm : (some y6 : Option Fault) = some _ := hmo1
       obtain rfl := sinj hm
       refine post_r _ F rfl (ar_cons (resA rfl tu26 rfl (box_ptr (cells := [.i6 y6.Code, .i6 y6.Index]) 0 rfl 0 rfl (lb rfl) w S) ts26) ar_nil) ?_
       replace S : St g8 [] fr w := St.tail [] _ S
       exact ⟨_, rfl, g8, ((l5.trans l7).trans l8), S, rfl⟩
      ·refine wp_condF F rfl hc5 ?_
       refine wp_skip ?_
       refine then_n ?_
       refine wp_seq ?_
       refine wp_region_lit ?_
       refine wE (ev_fieldAddr' tu24 tf24_0 (z := 0) ts22 rfl ⟨_, rfl⟩ rfl) F S rfl fun a F=>?_
       refine wE (ev_load1 tu22 rfl rfl (box_ptr (cells := [vt_1]) 1 rfl 0 rfl (lb rfl))) F S rfl fun a F=>?_
       refine wE (ev_move rfl) F S rfl fun a F=>?_
       obtain ⟨y7, hy7, hm⟩ := bind_some hm
       obtain ⟨cs2, hr3, hp3⟩ := elemS (ht_1.mono (l5.trans l7)) hy7
       obtain ⟨v2, rfl, h2⟩ := rep_Node hr3
       refine wE (ev_idxS (ht_1.mono (l5.trans l7)) hy7 tu22 ts50 rfl rfl) F S rfl fun a F=>?_
       have hp4 := PtrC.field hp3 1 1 (lb rfl)
       have hp4 : PtrC g7 (addP (elemP vt_1 x2 2) 1) [v2] := hp4
       refine wE (ev_fieldAddr' tu50 tf50_1 (z := 0) ts38 rfl hp3.ptr rfl) F S rfl fun a F=>?_
       refine wE (ev_load1 tu38 rfl rfl (ptr_mono (cks := [[bx b2 #[.i6 0, .i6 0] 26], [bx b1 #[vt_1] 24]]) (fr := fr) hp4 (Le.refl _))) F S rfl fun a F=>?_
       refine wE (ev_assign rfl) F S rfl fun a F=>?_
       refine wpList_nil ?_
       refine then_n ?_
       refine wp_seq ?_
       refine wp_region_lit ?_
       refine wE (ev_move rfl) F S rfl fun a F=>?_
       refine wE (ev_assign rfl) F S rfl fun a F=>?_
       refine wpList_nil ?_
       refine then_n ?_
       refine wp_cut (fun a w => ∃ (g9 : Gh), Fr 91 a [(3, .i6 x2), (2, bp b2 0), (1, bp b1 0)] ∧ Le g7 g9 ∧ St g9 [[bx b2 #[.i6 0, .i6 0] 26], [bx b1 #[vt_1] 24]] fr w ∧ changeforgeref2_SyntaxFault.j3 t_ x2 = some x3) ?_ ?_
       ·refine wp_seq ?_
        refine wp_region_lit ?_
        refine wE (ev_move rfl) F S rfl fun a F=>?_
        refine wE (ev_lenSh h2 rfl tu38) F S rfl fun a F=>?_
        obtain ⟨z3, hz3, hm⟩ := bind_some hm
        refine wE (ev_int rfl rfl (bo_sub hz3)) F S rfl fun a F=>?_
        refine wE (ev_assign rfl) F S rfl fun a F=>?_
        refine wpList_nil ?_
        refine then_n ?_
        refine wp_block ?_
        obtain ⟨r2, hr4, hm⟩ := bind_some hm
        have hmo2 := hm; clear hm
        refine wp_iter (σ := Int × Int) (ρ := Fault ⊕ Unit) (m := fun s => changeforgeref2_SyntaxFault.l2 t_ x2 y7 s.1 s.2) (I := fun s a w => match s with | (x4, x5) => ∃ (g12 : Gh), Fr 91 a [(6, .i6 x4), (5, .i6 x5), (4, v2), (3, .i6 x2), (2, bp b2 0), (1, bp b1 0)] ∧ Le g7 g12 ∧ St g12 [[bx b2 #[.i6 0, .i6 0] 26], [bx b1 #[vt_1] 24]] fr w) hr4 ?_ ?_
        ·dsimp only
         exact ⟨g7, F.sub ⟨rfl, rfl, rfl, rfl, rfl, rfl, trivial⟩, (Le.refl _), S⟩
        ·clear F S; rintro ⟨x4, x5⟩ a w x6 ⟨g12, F, l12, S⟩ hx3 hfin2
         have hm : changeforgeref2_SyntaxFault.l2 t_ x2 y7 x4 x5 = some x6 := hx3; clear hx3
         unfold changeforgeref2_SyntaxFault.l2 at hm
         refine wp_seq ?_
         refine wp_seq ?_
         refine wp_region_lit ?_
         refine wE (ev_move rfl) F S rfl fun a F=>?_
         refine wE (ev_int rfl rfl (bo_geq _ _ _ _)) F S rfl fun a F=>?_
         refine wpList_nil ?_
         refine then_n ?_
         obtain ⟨hc7, hm⟩ | ⟨hc7, hm⟩ := ite_or hm
         ·refine wp_condT F rfl hc7 ?_
          refine wp_skip ?_
          refine then_n ?_
          refine wp_seq ?_
          refine wp_block ?_
          refine wp_seq ?_
          refine wp_seq ?_
          refine wp_region_lit ?_
          refine wE (ev_move rfl) F S rfl fun a F=>?_
          refine wE (ev_move rfl) F S rfl fun a F=>?_
          obtain ⟨y10, hy10, hm⟩ := bind_some hm
          obtain ⟨cs3, hr5, hp5⟩ := elemS (h2.mono l12) hy10
          obtain rfl := rep_int hr5
          refine wE (ev_idxS (h2.mono l12) hy10 tu38 ts3 rfl rfl) F S rfl fun a F=>?_
          refine wE (ev_load1 tu3 rfl rfl (ptr_mono (cks := [[bx b2 #[.i6 0, .i6 0] 26], [bx b1 #[vt_1] 24]]) (fr := fr) hp5 (Le.refl _))) F S rfl fun a F=>?_
          refine wE (ev_int rfl rfl (bo_lss _ _ _ _)) F S rfl fun a F=>?_
          refine wE (ev_move rfl) F S rfl fun a F=>?_
          obtain ⟨x7, hx4, hm⟩ := bind_some hm
          refine wl_cut 8 (fun a w' => w = w' ∧ Fr 91 a [(62, .bool x7), (6, .i6 x4), (5, .i6 x5), (4, v2), (3, .i6 x2), (2, bp b2 0), (1, bp b1 0)]) ?_ ?_
          ·clear hm; obtain ⟨hc8, hm⟩ | ⟨hc8, hm⟩ := ite_or hx4
           ·refine wl_skip rfl rfl rfl rfl (ne_ft hc8) F rfl rfl ?_; clear F a; intro a F
            refine wl_skip rfl rfl rfl rfl (ne_ft hc8) F rfl rfl ?_; clear F a; intro a F
            refine wl_skip rfl rfl rfl rfl (ne_ft hc8) F rfl rfl ?_; clear F a; intro a F
            refine wl_skip rfl rfl rfl rfl (ne_ft hc8) F rfl rfl ?_; clear F a; intro a F
            refine wl_skip rfl rfl rfl rfl (ne_ft hc8) F rfl rfl ?_; clear F a; intro a F
            refine wl_skip rfl rfl rfl rfl (ne_ft hc8) F rfl rfl ?_; clear F a; intro a F
            refine wl_skip rfl rfl rfl rfl (ne_ft hc8) F rfl rfl ?_; clear F a; intro a F
            refine wE (ev_pickT rfl hc8 rfl) F S rfl fun a F=>?_
            obtain rfl := sinj hm
            refine wpList_nil (then_n ?_); exact ⟨rfl, F.sub ⟨rfl, rfl, rfl, rfl, rfl, rfl, rfl, trivial⟩⟩
           ·refine wl_ev (wg F rfl rfl rfl rfl hc8) (ev_move rfl) F S rfl rfl ?_; clear F a; intro a F
            refine wl_ev (wg F rfl rfl rfl rfl hc8) (ev_move rfl) F S rfl rfl ?_; clear F a; intro a F
            obtain ⟨y11, hy11, hm⟩ := bind_some hm
            obtain ⟨cs4, hr6, hp6⟩ := elemS (h2.mono l12) hy11
            obtain rfl := rep_int hr6
            refine wl_ev (wg F rfl rfl rfl rfl hc8) (ev_idxS (h2.mono l12) hy11 tu38 ts3 rfl rfl) F S rfl rfl ?_; clear F a; intro a F
            refine wl_ev (wg F rfl rfl rfl rfl hc8) (ev_load1 tu3 rfl rfl (ptr_mono (cks := [[bx b2 #[.i6 0, .i6 0] 26], [bx b1 #[vt_1] 24]]) (fr := fr) hp6 (Le.refl _))) F S rfl rfl ?_; clear F a; intro a F
            refine wl_ev (wg F rfl rfl rfl rfl hc8) (ev_move rfl) F S rfl rfl ?_; clear F a; intro a F
            obtain ⟨z4, hz4, hm⟩ := bind_some hm
            refine wl_ev (wg F rfl rfl rfl rfl hc8) (ev_int rfl rfl (bo_sub hz4)) F S rfl rfl ?_; clear F a; intro a F
            refine wl_ev (wg F rfl rfl rfl rfl hc8) (ev_int rfl rfl (bo_neq _ _ _ _)) F S rfl rfl ?_; clear F a; intro a F
            refine wE (ev_pickF rfl hc8 rfl) F S rfl fun a F=>?_
            obtain rfl := sinj hm
            refine wpList_nil (then_n ?_); exact ⟨rfl, F.sub ⟨rfl, rfl, rfl, rfl, rfl, rfl, rfl, trivial⟩⟩
          clear F; rintro a w' ⟨rfl, F⟩
          refine wpList_nil ?_
          refine then_n ?_
          obtain ⟨hc9, hm⟩ | ⟨hc9, hm⟩ := ite_or hm
          ·refine wp_condT F rfl hc9 ?_
           refine wp_seq ?_
           refine wp_region_lit ?_
           refine wE (ev_move rfl) F S rfl fun a F=>?_
           obtain ⟨y12, hy12, hm⟩ := bind_some hm
           refine wl_call0 (wn rfl) rfl F rfl (changeforgeref1_At_ok (fr := (fl [[bx b2 #[.i6 0, .i6 0] 26], [bx b1 #[vt_1] 24]] fr)) 5 x2 S hy12) rfl tc23 rfl rfl ?_; clear F a S
           rintro _ a w ⟨g13, l13, S, rfl⟩ F; replace S : St g13 [[bx b2 #[.i6 0, .i6 0] 26], [bx b1 #[vt_1] 24]] fr w := S
           refine wl_storeC (wn rfl) rfl F S rfl rfl (vs := [.i6 y12.Code, .i6 y12.Index]) rfl ts26 (one_cons rfl (one_cons rfl one_nil)) (k := 0) rfl (lb rfl) (c' := #[.i6 y12.Code, .i6 y12.Index]) rfl rfl ?_; clear S; intro w S
           refine wpList_nil ?_
           refine then_n ?_
           refine wp_ret ?_
           refine then_r ?_
           refine inb_r ?_
           refine then_r ?_
           refine then_r ?_
           refine inb_r ?_
           refine then_r ?_
           refine inb_r ?_
           refine then_r ?_
           refine then_r ?_
           refine inb_r ?_
           refine then_r ?_
           obtain rfl := sinj hm
           obtain rfl := hfin2 _ rfl
           clear hm
           have hm : (some (Step.done (Sum.inl y12)) : Option (Step Int (Fault ⊕ Unit))) = some _ := hmo2
           obtain rfl := sinj hm
           obtain rfl := hfin1 _ rfl
           clear hm
           have hm : (some y12 : Option Fault) = some _ := hmo1
           obtain rfl := sinj hm
           refine post_r _ F rfl (ar_cons (resA rfl tu26 rfl (box_ptr (cells := [.i6 y12.Code, .i6 y12.Index]) 0 rfl 0 rfl (lb rfl) w S) ts26) ar_nil) ?_
           replace S : St g13 [] fr w := St.tail [] _ S
           exact ⟨_, rfl, g13, (((l5.trans l7).trans l12).trans l13), S, rfl⟩
          ·refine wp_condF F rfl hc9 ?_
           refine wp_skip ?_
           refine then_n ?_
           refine wp_quiet mo (by kernel_rfl) S ?_
           refine wq_ev (wn rfl) (ev_move rfl) F rfl rfl ?_; clear F a; intro a F
           refine wq_ev (wn rfl) (ev_loadA tu24 rfl (cs := [vt_1]) ts24 rfl (box_ptr (cells := [vt_1]) 1 rfl 0 rfl (lb rfl))) F rfl rfl ?_; clear F a; intro a F
           refine wq_ev (wn rfl) (ev_move rfl) F rfl rfl ?_; clear F a; intro a F
           refine wq_ev (wn rfl) (ev_move rfl) F rfl rfl ?_; clear F a; intro a F
           obtain ⟨y13, hy13, hm⟩ := bind_some hm
           obtain ⟨cs5, hr7, hp7⟩ := elemS (h2.mono l12) hy13
           obtain rfl := rep_int hr7
           refine wq_ev (wn rfl) (ev_idxS (h2.mono l12) hy13 tu38 ts3 rfl rfl) F rfl rfl ?_; clear F a; intro a F
           refine wq_ev (wn rfl) (ev_load1 tu3 rfl rfl (ptr_mono (cks := [[bx b2 #[.i6 0, .i6 0] 26], [bx b1 #[vt_1] 24]]) (fr := fr) hp7 (Le.refl _))) F rfl rfl ?_; clear F a; intro a F
           obtain ⟨y14, hy14, hm⟩ := bind_some hm
           refine wq_call (wn rfl) rfl (xs := [.tmp 66, .tmp 70]) (vs := [.agg #[vt_1], .i6 y13]) (cap := []) F rfl rfl tc25 (v := .i6 y14) (fun w S => (changeforgeref2_Size_ok (g := g12) (fr := (fl [[bx b2 #[.i6 0, .i6 0] 26], [bx b1 #[vt_1] 24]] fr)) (w := w) t_ vt_1 (ht_1.mono ((l5.trans l7).trans l12)) y13 S hy14).mono (by rintro en w' ⟨_, rfl, g2, l2, S2, rfl⟩; exact ⟨rfl, S2.weak l2⟩)) rfl rfl ?_; clear F a; intro a F
           obtain ⟨z5, hz5, hm⟩ := bind_some hm
           refine wq_ev (wn rfl) (ev_int rfl rfl (bo_sub hz5)) F rfl rfl ?_; clear F a; intro a F
           refine wq_ev (wn rfl) (ev_assign rfl) F rfl rfl ?_; clear F a; intro a F
           refine wq_nil ?_; clear S; intro w S
           refine inb_n ?_
           refine then_n ?_
           refine wp_region_lit ?_
           refine wE (ev_move rfl) F S rfl fun a F=>?_
           obtain ⟨z6, hz6, hm⟩ := bind_some hm
           refine wE (ev_int rfl rfl (bo_sub hz6)) F S rfl fun a F=>?_
           refine wE (ev_assign rfl) F S rfl fun a F=>?_
           refine wpList_nil ?_
           refine then_n ?_
           obtain rfl := sinj hm
           refine ⟨_, rfl, ?_⟩
           dsimp only
           exact ⟨g12, F.sub ⟨rfl, rfl, rfl, rfl, rfl, rfl, trivial⟩, l12, S⟩
         ·refine wp_condF F rfl hc7 ?_
          refine wp_exit ?_
          refine then_e ?_
          refine then_e ?_
          refine inb_x ?_
          refine then_n ?_
          obtain rfl := sinj hm
          obtain rfl := hfin2 _ rfl
          clear hm
          have hm : (changeforgeref2_SyntaxFault.j3 t_ x2 : Option (Step Int (Fault ⊕ Unit))) = some _ := hmo2
          exact ⟨g12, F.sub ⟨rfl, rfl, rfl, trivial⟩, l12, S, hm⟩
       ·clear F S hm; rintro a w ⟨g9, F, l9, S, hm⟩
        refine wp_seq ?_
        refine wp_region_lit ?_
        refine wE (ev_loadA tu24 rfl (cs := [vt_1]) ts24 rfl (box_ptr (cells := [vt_1]) 1 rfl 0 rfl (lb rfl))) F S rfl fun a F=>?_
        refine wE (ev_move rfl) F S rfl fun a F=>?_
        obtain ⟨y8, hy8, hm⟩ := bind_some hm
        refine wl_call0 (wn rfl) rfl F rfl (changeforgeref2_Depth_ok (fr := (fl [[bx b2 #[.i6 0, .i6 0] 26], [bx b1 #[vt_1] 24]] fr)) t_ vt_1 (ht_1.mono ((l5.trans l7).trans l9)) x2 S hy8) rfl tc26 rfl rfl ?_; clear F a S
        rintro _ a w ⟨g10, l10, S, rfl⟩ F; replace S : St g10 [[bx b2 #[.i6 0, .i6 0] 26], [bx b1 #[vt_1] 24]] fr w := S
        refine wE (ev_int rfl rfl (bo_gtr _ _ _ _)) F S rfl fun a F=>?_
        refine wpList_nil ?_
        refine then_n ?_
        obtain ⟨hc6, hm⟩ | ⟨hc6, hm⟩ := ite_or hm
        ·refine wp_condT F rfl hc6 ?_
         refine wp_seq ?_
         refine wp_region_lit ?_
         refine wE (ev_move rfl) F S rfl fun a F=>?_
         obtain ⟨y9, hy9, hm⟩ := bind_some hm
         refine wl_call0 (wn rfl) rfl F rfl (changeforgeref1_At_ok (fr := (fl [[bx b2 #[.i6 0, .i6 0] 26], [bx b1 #[vt_1] 24]] fr)) 10 x2 S hy9) rfl tc23 rfl rfl ?_; clear F a S
         rintro _ a w ⟨g11, l11, S, rfl⟩ F; replace S : St g11 [[bx b2 #[.i6 0, .i6 0] 26], [bx b1 #[vt_1] 24]] fr w := S
         refine wl_storeC (wn rfl) rfl F S rfl rfl (vs := [.i6 y9.Code, .i6 y9.Index]) rfl ts26 (one_cons rfl (one_cons rfl one_nil)) (k := 0) rfl (lb rfl) (c' := #[.i6 y9.Code, .i6 y9.Index]) rfl rfl ?_; clear S; intro w S
         refine wpList_nil ?_
         refine then_n ?_
         refine wp_ret ?_
         refine inb_r ?_
         refine then_r ?_
         refine then_r ?_
         refine inb_r ?_
         refine then_r ?_
         obtain rfl := sinj hm
         obtain rfl := hfin1 _ rfl
         clear hm
         have hm : (some y9 : Option Fault) = some _ := hmo1
         obtain rfl := sinj hm
         refine post_r _ F rfl (ar_cons (resA rfl tu26 rfl (box_ptr (cells := [.i6 y9.Code, .i6 y9.Index]) 0 rfl 0 rfl (lb rfl) w S) ts26) ar_nil) ?_
         replace S : St g11 [] fr w := St.tail [] _ S
         exact ⟨_, rfl, g11, ((((l5.trans l7).trans l9).trans l10).trans l11), S, rfl⟩
        ·refine wp_condF F rfl hc6 ?_
         refine wp_skip ?_
         refine inb_n ?_
         refine then_n ?_
         exact ⟨g10, F.sub ⟨rfl, rfl, rfl, trivial⟩, ((l7.trans l9).trans l10), S, hm⟩
     ·clear F S hm; rintro a w ⟨g6, F, l6, S, hm⟩
      refine wp_region_lit ?_
      refine wE (ev_move rfl) F S rfl fun a F=>?_
      obtain ⟨z2, hz2, hm⟩ := bind_some hm
      refine wE (ev_int rfl rfl (bo_add hz2)) F S rfl fun a F=>?_
      refine wE (ev_assign rfl) F S rfl fun a F=>?_
      refine wpList_nil ?_
      refine then_n ?_
      obtain rfl := sinj hm
      refine ⟨_, rfl, ?_⟩
      exact ⟨g6, F.sub ⟨rfl, rfl, rfl, trivial⟩, (l5.trans l6), S⟩
    ·refine wp_condF F rfl hc4 ?_
     refine wp_exit ?_
     refine then_e ?_
     refine then_e ?_
     refine inb_x ?_
     refine then_n ?_
     obtain rfl := sinj hm
     obtain rfl := hfin1 _ rfl
     clear hm
     have hm : (changeforgeref2_SyntaxFault.j1 t_ : Option Fault) = some _ := hmo1
     exact ⟨g5, F.sub ⟨rfl, rfl, trivial⟩, l5, S, hm⟩
  ·clear F S hm; rintro a w ⟨g2, F, l2, S, hm⟩
   refine wp_seq ?_
   refine wp_seq ?_
   refine wp_quiet mo (by kernel_rfl) S ?_
   refine wq_ev (wn rfl) (ev_loadA tu24 rfl (cs := [vt_1]) ts24 rfl (box_ptr (cells := [vt_1]) 1 rfl 0 rfl (lb rfl))) F rfl rfl ?_; clear F a; intro a F
   refine wq_ev (wn rfl) (ev_fieldAddr' tu24 tf24_0 (z := 0) ts22 rfl ⟨_, rfl⟩ rfl) F rfl rfl ?_; clear F a; intro a F
   refine wq_ev (wn rfl) (ev_load1 tu22 rfl rfl (box_ptr (cells := [vt_1]) 1 rfl 0 rfl (lb rfl))) F rfl rfl ?_; clear F a; intro a F
   refine wq_ev (wn rfl) (ev_lenSh ht_1 rfl tu22) F rfl rfl ?_; clear F a; intro a F
   obtain ⟨z1, hz1, hm⟩ := bind_some hm
   refine wq_ev (wn rfl) (ev_int rfl rfl (bo_sub hz1)) F rfl rfl ?_; clear F a; intro a F
   obtain ⟨y2, hy2, hm⟩ := bind_some hm
   refine wq_call (wn rfl) rfl (xs := [.tmp 79, .tmp 83]) (vs := [.agg #[vt_1], .i6 z1]) (cap := []) F rfl rfl tc25 (v := .i6 y2) (fun w S => (changeforgeref2_Size_ok (g := g2) (fr := (fl [[bx b2 #[.i6 0, .i6 0] 26], [bx b1 #[vt_1] 24]] fr)) (w := w) t_ vt_1 (ht_1.mono l2) z1 S hy2).mono (by rintro en w' ⟨_, rfl, g2, l2, S2, rfl⟩; exact ⟨rfl, S2.weak l2⟩)) rfl rfl ?_; clear F a; intro a F
   refine wq_ev (wn rfl) (ev_fieldAddr' tu24 tf24_0 (z := 0) ts22 rfl ⟨_, rfl⟩ rfl) F rfl rfl ?_; clear F a; intro a F
   refine wq_ev (wn rfl) (ev_load1 tu22 rfl rfl (box_ptr (cells := [vt_1]) 1 rfl 0 rfl (lb rfl))) F rfl rfl ?_; clear F a; intro a F
   refine wq_ev (wn rfl) (ev_lenSh ht_1 rfl tu22) F rfl rfl ?_; clear F a; intro a F
   refine wq_ev (wn rfl) (ev_int rfl rfl (bo_neq _ _ _ _)) F rfl rfl ?_; clear F a; intro a F
   refine wq_nil ?_; clear S; intro w S
   refine then_n ?_
   obtain ⟨hc3, hm⟩ | ⟨hc3, hm⟩ := ite_or hm
   ·refine wp_condT F rfl hc3 ?_
    refine wp_seq ?_
    refine wp_region_lit ?_
    obtain ⟨y3, hy3, hm⟩ := bind_some hm
    refine wl_call0 (wn rfl) rfl F rfl (changeforgeref1_At_ok (fr := (fl [[bx b2 #[.i6 0, .i6 0] 26], [bx b1 #[vt_1] 24]] fr)) 5 (-1) S hy3) rfl tc23 rfl rfl ?_; clear F a S
    rintro _ a w ⟨g4, l4, S, rfl⟩ F; replace S : St g4 [[bx b2 #[.i6 0, .i6 0] 26], [bx b1 #[vt_1] 24]] fr w := S
    refine wl_storeC (wn rfl) rfl F S rfl rfl (vs := [.i6 y3.Code, .i6 y3.Index]) rfl ts26 (one_cons rfl (one_cons rfl one_nil)) (k := 0) rfl (lb rfl) (c' := #[.i6 y3.Code, .i6 y3.Index]) rfl rfl ?_; clear S; intro w S
    refine wpList_nil ?_
    refine then_n ?_
    refine wp_ret ?_
    refine then_r ?_
    obtain rfl := sinj hm
    refine post_r _ F rfl (ar_cons (resA rfl tu26 rfl (box_ptr (cells := [.i6 y3.Code, .i6 y3.Index]) 0 rfl 0 rfl (lb rfl) w S) ts26) ar_nil) ?_
    replace S : St g4 [] fr w := St.tail [] _ S
    exact ⟨_, rfl, g4, (l2.trans l4), S, rfl⟩
   ·refine wp_condF F rfl hc3 ?_
    refine wp_skip ?_
    refine then_n ?_
    refine wp_seq ?_
    refine wp_region_lit ?_
    refine wE (ev_build (parts := []) (vs := []) rfl (fun w => tb26_  w)) F S rfl fun a F=>?_
    refine wl_storeC (wn rfl) rfl F S rfl rfl (vs := [.i6 0, .i6 0]) rfl ts26 (one_cons rfl (one_cons rfl one_nil)) (k := 0) rfl (lb rfl) (c' := #[.i6 0, .i6 0]) rfl rfl ?_; clear S; intro w S
    refine wpList_nil ?_
    refine then_n ?_
    refine wp_ret ?_
    obtain rfl := sinj hm
    refine post_r _ F rfl (ar_cons (resA rfl tu26 rfl (box_ptr (cells := [.i6 0, .i6 0]) 0 rfl 0 rfl (lb rfl) w S) ts26) ar_nil) ?_
    replace S : St g2 [] fr w := St.tail [] _ S
    exact ⟨_, rfl, g2, l2, S, rfl⟩

theorem changeforgeref2_Printed.body_ok {rec_ : SyntaxTree → Int → Option ByteArray} (hrec : ∀ {g : Gh} {fr : Hl} {w : World} {r : ByteArray} (t_ : SyntaxTree) (vt_1 : Value) (ht_1 : RepSl g t_.Nodes vt_1) (i_ : Int) (S : St g [] fr w) (hm : rec_ t_ i_ = some r), Calls Try.prog 17 [.agg #[vt_1], .i6 i_].toArray w (fun en w' => ∃ v, en = .returned v ∧ ∃ (g' : Gh), Le g g' ∧ St g' [] fr w' ∧ .string r = v)) {g : Gh} {fr : Hl} {w : World} {r : ByteArray} (t_ : SyntaxTree) (vt_1 : Value) (ht_1 : RepSl g t_.Nodes vt_1) (i_ : Int) (S : St g [] fr w) (hm : changeforgeref2_Printed.body rec_ t_ i_ = some r) :
  Calls Try.prog 17 [.agg #[vt_1], .i6 i_].toArray w (fun en w' => ∃ v, en = .returned v ∧ ∃ (g' : Gh), Le g g' ∧ St g' [] fr w' ∧ .string r = v) := by
 unfold changeforgeref2_Printed.body at hm
 refine calls_enter (fn := Try.f17) Try.func17 rfl Try.ntmps17 (lb rfl) ?_
 intro a F
 replace F : Fr 47 a [(0, .agg #[vt_1]), (1, .i6 i_)] := F
 refine wp_seq ?_
 refine wp_region_lit ?_
 refine wl_boxC (wn rfl) rfl rfl rfl F S rfl rfl ?_; clear F a S; rintro b1 a w F S
 refine wE (ev_assign rfl) F S rfl fun a F=>?_
 refine wpList_nil ?_
 refine then_n ?_
 refine wp_seq ?_
 refine wp_region_lit ?_
 refine wE (ev_fieldAddr' tu24 tf24_0 (z := 0) ts22 rfl ⟨_, rfl⟩ rfl) F S rfl fun a F=>?_
 refine wE (ev_load1 tu22 rfl rfl (box_ptr (cells := [vt_1]) 0 rfl 0 rfl (lb rfl))) F S rfl fun a F=>?_
 refine wE (ev_move rfl) F S rfl fun a F=>?_
 obtain ⟨y1, hy1, hm⟩ := bind_some hm
 obtain ⟨cs1, hr1, hp1⟩ := elemS ht_1 hy1
 obtain ⟨v1, rfl, h1⟩ := rep_Node hr1
 refine wE (ev_idxS ht_1 hy1 tu22 ts50 rfl rfl) F S rfl fun a F=>?_
 have hp2 := PtrC.field hp1 1 1 (lb rfl)
 have hp2 : PtrC g (addP (elemP vt_1 i_ 2) 1) [v1] := hp2
 refine wE (ev_fieldAddr' tu50 tf50_1 (z := 0) ts38 rfl hp1.ptr rfl) F S rfl fun a F=>?_
 refine wE (ev_load1 tu38 rfl rfl (ptr_mono (cks := [[bx b1 #[vt_1] 24]]) (fr := fr) hp2 (Le.refl _))) F S rfl fun a F=>?_
 refine wE (ev_assign rfl) F S rfl fun a F=>?_
 refine wpList_nil ?_
 refine then_n ?_
 refine wp_seq ?_
 refine wp_seq ?_
 refine wp_region_lit ?_
 refine wE (ev_move rfl) F S rfl fun a F=>?_
 refine wE (ev_lenSh h1 rfl tu38) F S rfl fun a F=>?_
 refine wE (ev_int rfl rfl (bo_eql _ _ _ _)) F S rfl fun a F=>?_
 refine wpList_nil ?_
 refine then_n ?_
 obtain ⟨hc1, hm⟩ | ⟨hc1, hm⟩ := ite_or hm
 ·refine wp_condT F rfl hc1 ?_
  refine wp_seq ?_
  refine wp_region_lit ?_
  refine wE (ev_fieldAddr' tu24 tf24_0 (z := 0) ts22 rfl ⟨_, rfl⟩ rfl) F S rfl fun a F=>?_
  refine wE (ev_load1 tu22 rfl rfl (box_ptr (cells := [vt_1]) 0 rfl 0 rfl (lb rfl))) F S rfl fun a F=>?_
  refine wE (ev_move rfl) F S rfl fun a F=>?_
  obtain ⟨y2, hy2, hm⟩ := bind_some hm
  obtain ⟨cs2, hr2, hp3⟩ := elemS ht_1 hy2
  obtain ⟨v2, rfl, h2⟩ := rep_Node hr2
  refine wE (ev_idxS ht_1 hy2 tu22 ts50 rfl rfl) F S rfl fun a F=>?_
  have hp4 := PtrC.field hp3 0 1 (lb rfl)
  have hp4 : PtrC g (addP (elemP vt_1 i_ 2) 0) [.string y2.Label] := hp4
  refine wE (ev_fieldAddr' tu50 tf50_0 (z := 0) ts9 rfl hp3.ptr rfl) F S rfl fun a F=>?_
  refine wE (ev_load1 tu9 rfl rfl (ptr_mono (cks := [[bx b1 #[vt_1] 24]]) (fr := fr) hp4 (Le.refl _))) F S rfl fun a F=>?_
  refine wE (ev_assign rfl) F S rfl fun a F=>?_
  refine wpList_nil ?_
  refine then_n ?_
  refine wp_ret ?_
  refine then_r ?_
  obtain rfl := sinj hm
  refine post_r _ F rfl (ar_cons (resT rfl) ar_nil) ?_
  replace S : St g [] fr w := St.tail [] _ S
  exact ⟨_, rfl, g, (Le.refl _), S, rfl⟩
 ·refine wp_condF F rfl hc1 ?_
  refine wp_skip ?_
  refine then_n ?_
  refine wp_seq ?_
  refine wp_region_lit ?_
  refine wE (ev_fieldAddr' tu24 tf24_0 (z := 0) ts22 rfl ⟨_, rfl⟩ rfl) F S rfl fun a F=>?_
  refine wE (ev_load1 tu22 rfl rfl (box_ptr (cells := [vt_1]) 0 rfl 0 rfl (lb rfl))) F S rfl fun a F=>?_
  refine wE (ev_move rfl) F S rfl fun a F=>?_
  obtain ⟨y3, hy3, hm⟩ := bind_some hm
  obtain ⟨cs3, hr3, hp5⟩ := elemS ht_1 hy3
  obtain ⟨v3, rfl, h3⟩ := rep_Node hr3
  refine wE (ev_idxS ht_1 hy3 tu22 ts50 rfl rfl) F S rfl fun a F=>?_
  have hp6 := PtrC.field hp5 0 1 (lb rfl)
  have hp6 : PtrC g (addP (elemP vt_1 i_ 2) 0) [.string y3.Label] := hp6
  refine wE (ev_fieldAddr' tu50 tf50_0 (z := 0) ts9 rfl hp5.ptr rfl) F S rfl fun a F=>?_
  refine wE (ev_load1 tu9 rfl rfl (ptr_mono (cks := [[bx b1 #[vt_1] 24]]) (fr := fr) hp6 (Le.refl _))) F S rfl fun a F=>?_
  obtain ⟨z1, hz1, hm⟩ := bind_some hm
  refine wE (ev_str rfl rfl (bs_add hz1)) F S rfl fun a F=>?_
  refine wE (ev_assign rfl) F S rfl fun a F=>?_
  refine wpList_nil ?_
  refine then_n ?_
  refine wp_cut (fun a w => ∃ (x1 : ByteArray) (g1 : Gh), Fr 47 a [(6, .string x1)] ∧ Le g g1 ∧ St g1 [] fr w ∧ changeforgeref2_Printed.j1 x1 = some r) ?_ ?_
  ·refine wp_seq ?_
   refine wp_region_lit ?_
   refine wE (ev_assign rfl) F S rfl fun a F=>?_
   refine wpList_nil ?_
   refine then_n ?_
   refine wp_block ?_
   obtain ⟨r1, hr4, hm⟩ := bind_some hm
   have hmo1 := hm; clear hm
   refine wp_iter (σ := Int × ByteArray) (ρ := ByteArray) (m := fun s => changeforgeref2_Printed.l1 t_ rec_ y1 s.1 s.2) (I := fun s a w => match s with | (x2, x3) => ∃ (g2 : Gh), Fr 47 a [(7, .i6 x2), (6, .string x3), (5, v1), (2, bp b1 0)] ∧ Le g g2 ∧ St g2 [[bx b1 #[vt_1] 24]] fr w) hr4 ?_ ?_
   ·dsimp only
    exact ⟨g, F.sub ⟨rfl, rfl, rfl, rfl, trivial⟩, (Le.refl _), S⟩
   ·clear F S; rintro ⟨x2, x3⟩ a w x4 ⟨g2, F, l2, S⟩ hx1 hfin1
    have hm : changeforgeref2_Printed.l1 t_ rec_ y1 x2 x3 = some x4 := hx1; clear hx1
    unfold changeforgeref2_Printed.l1 at hm
    refine wp_seq ?_
    refine wp_seq ?_
    refine wp_region_lit ?_
    refine wE (ev_move rfl) F S rfl fun a F=>?_
    refine wE (ev_move rfl) F S rfl fun a F=>?_
    refine wE (ev_lenSh h1 rfl tu38) F S rfl fun a F=>?_
    refine wE (ev_int rfl rfl (bo_lss _ _ _ _)) F S rfl fun a F=>?_
    refine wpList_nil ?_
    refine then_n ?_
    obtain ⟨hc2, hm⟩ | ⟨hc2, hm⟩ := ite_or hm
    ·refine wp_condT F rfl hc2 ?_
     refine wp_skip ?_
     refine then_n ?_
     refine wp_seq ?_
     refine wp_block ?_
     refine wp_quiet mo (by kernel_rfl) S ?_
     refine wq_ev (wn rfl) (ev_move rfl) F rfl rfl ?_; clear F a; intro a F
     obtain ⟨z3, hz3, hm⟩ := bind_some hm
     refine wq_ev (wn rfl) (ev_str rfl rfl (bs_add hz3)) F rfl rfl ?_; clear F a; intro a F
     refine wq_ev (wn rfl) (ev_loadA tu24 rfl (cs := [vt_1]) ts24 rfl (box_ptr (cells := [vt_1]) 0 rfl 0 rfl (lb rfl))) F rfl rfl ?_; clear F a; intro a F
     refine wq_ev (wn rfl) (ev_move rfl) F rfl rfl ?_; clear F a; intro a F
     refine wq_ev (wn rfl) (ev_move rfl) F rfl rfl ?_; clear F a; intro a F
     obtain ⟨y4, hy4, hm⟩ := bind_some hm
     obtain ⟨cs4, hr5, hp7⟩ := elemS (h1.mono l2) hy4
     obtain rfl := rep_int hr5
     refine wq_ev (wn rfl) (ev_idxS (h1.mono l2) hy4 tu38 ts3 rfl rfl) F rfl rfl ?_; clear F a; intro a F
     refine wq_ev (wn rfl) (ev_load1 tu3 rfl rfl (ptr_mono (cks := [[bx b1 #[vt_1] 24]]) (fr := fr) hp7 (Le.refl _))) F rfl rfl ?_; clear F a; intro a F
     obtain ⟨y5, hy5, hm⟩ := bind_some hm
     refine wq_call (wn rfl) rfl (xs := [.tmp 38, .tmp 42]) (vs := [.agg #[vt_1], .i6 y4]) (cap := []) F rfl rfl tc17 (v := .string y5) (fun w S => (hrec (g := g2) (fr := (fl [[bx b1 #[vt_1] 24]] fr)) (w := w) t_ vt_1 (ht_1.mono l2) y4 S hy5).mono (by rintro en w' ⟨_, rfl, g2, l2, S2, rfl⟩; exact ⟨rfl, S2.weak l2⟩)) rfl rfl ?_; clear F a; intro a F
     obtain ⟨z4, hz4, hm⟩ := bind_some hm
     refine wq_ev (wn rfl) (ev_str rfl rfl (bs_add hz4)) F rfl rfl ?_; clear F a; intro a F
     refine wq_ev (wn rfl) (ev_assign rfl) F rfl rfl ?_; clear F a; intro a F
     refine wq_nil ?_; clear S; intro w S
     refine inb_n ?_
     refine then_n ?_
     refine wp_region_lit ?_
     refine wE (ev_move rfl) F S rfl fun a F=>?_
     obtain ⟨z5, hz5, hm⟩ := bind_some hm
     refine wE (ev_int rfl rfl (bo_add hz5)) F S rfl fun a F=>?_
     refine wE (ev_assign rfl) F S rfl fun a F=>?_
     refine wpList_nil ?_
     refine then_n ?_
     obtain rfl := sinj hm
     refine ⟨_, rfl, ?_⟩
     dsimp only
     exact ⟨g2, F.sub ⟨rfl, rfl, rfl, rfl, trivial⟩, l2, S⟩
    ·refine wp_condF F rfl hc2 ?_
     refine wp_exit ?_
     refine then_e ?_
     refine then_e ?_
     refine inb_x ?_
     refine then_n ?_
     obtain rfl := sinj hm
     obtain rfl := hfin1 _ rfl
     clear hm
     have hm : (changeforgeref2_Printed.j1 x3 : Option ByteArray) = some _ := hmo1
     replace S : St g2 [] fr w := St.tail [] _ S
     exact ⟨x3, g2, F.sub ⟨rfl, trivial⟩, l2, S, hm⟩
  ·clear F S hm; rintro a w ⟨x1, g1, F, l1, S, hm⟩
   refine wp_seq ?_
   refine wp_region_lit ?_
   refine wE (ev_move rfl) F S rfl fun a F=>?_
   obtain ⟨z2, hz2, hm⟩ := bind_some hm
   refine wE (ev_str rfl rfl (bs_add hz2)) F S rfl fun a F=>?_
   refine wE (ev_assign rfl) F S rfl fun a F=>?_
   refine wpList_nil ?_
   refine then_n ?_
   refine wp_ret ?_
   obtain rfl := sinj hm
   refine post_r _ F rfl (ar_cons (resT rfl) ar_nil) ?_
   exact ⟨_, rfl, g1, l1, S, rfl⟩

theorem changeforgeref2_Printed.m_ok : ∀ (fu_ : Nat) {g : Gh} {fr : Hl} {w : World} {r : ByteArray} (t_ : SyntaxTree) (vt_1 : Value) (ht_1 : RepSl g t_.Nodes vt_1) (i_ : Int) (S : St g [] fr w) (hm : changeforgeref2_Printed.m fu_ t_ i_ = some r), Calls Try.prog 17 [.agg #[vt_1], .i6 i_].toArray w (fun en w' => ∃ v, en = .returned v ∧ ∃ (g' : Gh), Le g g' ∧ St g' [] fr w' ∧ .string r = v)
 | 0 => by intros; rename_i hm; cases hm
 | fu_ + 1 => changeforgeref2_Printed.body_ok (changeforgeref2_Printed.m_ok fu_)

theorem changeforgeref2_Printed_ok {g : Gh} {fr : Hl} {w : World} {r : ByteArray} (t_ : SyntaxTree) (vt_1 : Value) (ht_1 : RepSl g t_.Nodes vt_1) (i_ : Int) (S : St g [] fr w) (hm : changeforgeref2_Printed t_ i_ = some r) :
  Calls Try.prog 17 [.agg #[vt_1], .i6 i_].toArray w (fun en w' => ∃ v, en = .returned v ∧ ∃ (g' : Gh), Le g g' ∧ St g' [] fr w' ∧ .string r = v) := changeforgeref2_Printed.m_ok _ t_ vt_1 ht_1 i_ S hm
end Go.Dc
