/- Walks: each function comes to what its model says. -/
import Derived.Test.YtigjmijbekhdgaaDcTab
import Derived.Test.YtigjmijbekhdgaaDcM
namespace Go.Dc
open Go Go.Proofs
set_option maxRecDepth 100000
set_option maxHeartbeats 4000000
set_option linter.unusedVariables false
theorem syntax_equal.body_ok {rec_ : SyntaxTree → Int → SyntaxTree → Int → Option Bool} (hrec : ∀ {g : Gh} {fr : Hl} {w : World} {r : Bool} (s_ : SyntaxTree) (vs_1 : Value) (hs_1 : RepSl g s_.Nodes vs_1) (i_ : Int) (t_ : SyntaxTree) (vt_1 : Value) (ht_1 : RepSl g t_.Nodes vt_1) (k_ : Int) (S : St g [] fr w) (hm : rec_ s_ i_ t_ k_ = some r), Calls Try.prog 37 [.agg #[vs_1], .i6 i_, .agg #[vt_1], .i6 k_].toArray w (fun en w' => ∃ v, en = .returned v ∧ ∃ (g' : Gh), Le g g' ∧ St g' [] fr w' ∧ .bool r = v)) {g : Gh} {fr : Hl} {w : World} {r : Bool} (s_ : SyntaxTree) (vs_1 : Value) (hs_1 : RepSl g s_.Nodes vs_1) (i_ : Int) (t_ : SyntaxTree) (vt_1 : Value) (ht_1 : RepSl g t_.Nodes vt_1) (k_ : Int) (S : St g [] fr w) (hm : syntax_equal.body rec_ s_ i_ t_ k_ = some r) :
  Calls Try.prog 37 [.agg #[vs_1], .i6 i_, .agg #[vt_1], .i6 k_].toArray w (fun en w' => ∃ v, en = .returned v ∧ ∃ (g' : Gh), Le g g' ∧ St g' [] fr w' ∧ .bool r = v) := by
 unfold syntax_equal.body at hm
 refine calls_enter (fn := Try.f37) Try.func37 rfl Try.ntmps37 (lb rfl) ?_
 intro a F
 replace F : Fr 57 a [(0, .agg #[vs_1]), (1, .i6 i_), (2, .agg #[vt_1]), (3, .i6 k_)] := F
 refine wp_seq ?_
 refine wp_region_lit ?_
 refine wl_boxC (wn rfl) rfl rfl rfl F S rfl rfl ?_; clear F a S; rintro b1 a w F S
 refine wl_boxC (wn rfl) rfl rfl rfl F S rfl rfl ?_; clear F a S; rintro b2 a w F S
 refine wE (ev_assign rfl) F S rfl fun a F=>?_
 refine wpList_nil ?_
 refine then_n ?_
 refine wp_seq ?_
 refine wp_dv [] mo S ?_; clear S; intro ok1 w S
 refine dv_et ok1 0 rfl (ev_fieldAddr' tu24 tf24_0 (z := 0) ts22 rfl ⟨_, rfl⟩ rfl) F rfl fun a F=>?_
 refine dv_ev ok1 1 rfl (ev_load1 tu22 rfl rfl (box_ptr (cells := [vs_1]) 1 rfl 0 rfl (lb rfl))) F S rfl fun a F=>?_
 refine dv_et ok1 2 rfl (ev_move rfl) F rfl fun a F=>?_
 obtain ⟨y1, hy1, hm⟩ := bind_some hm
 obtain ⟨cs1, hr1, hp1⟩ := elemS hs_1 hy1
 obtain ⟨v1, rfl, h1⟩ := rep_Node hr1
 refine dv_et ok1 3 rfl (ev_idxS hs_1 hy1 tu22 ts50 rfl rfl) F rfl fun a F=>?_
 refine dv_ev ok1 4 rfl (ev_loadA tu50 rfl (cs := [.string y1.Label, v1]) ts50 rfl (ptr_mono (cks := [[bx b2 #[vt_1] 24], [bx b1 #[vs_1] 24]]) (fr := fr) hp1 (Le.refl _))) F S rfl fun a F=>?_
 refine dv_et ok1 5 rfl (ev_fieldAddr' tu24 tf24_0 (z := 0) ts22 rfl ⟨_, rfl⟩ rfl) F rfl fun a F=>?_
 refine dv_ev ok1 6 rfl (ev_load1 tu22 rfl rfl (box_ptr (cells := [vt_1]) 0 rfl 0 rfl (lb rfl))) F S rfl fun a F=>?_
 refine dv_et ok1 7 rfl (ev_move rfl) F rfl fun a F=>?_
 obtain ⟨y2, hy2, hm⟩ := bind_some hm
 obtain ⟨cs2, hr2, hp2⟩ := elemS ht_1 hy2
 obtain ⟨v2, rfl, h2⟩ := rep_Node hr2
 refine dv_et ok1 8 rfl (ev_idxS ht_1 hy2 tu22 ts50 rfl rfl) F rfl fun a F=>?_
 refine dv_ev ok1 9 rfl (ev_loadA tu50 rfl (cs := [.string y2.Label, v2]) ts50 rfl (ptr_mono (cks := [[bx b2 #[vt_1] 24], [bx b1 #[vs_1] 24]]) (fr := fr) hp2 (Le.refl _))) F S rfl fun a F=>?_
 refine dv_cut [0, 1, 2, 3, 4, 5, 6, 7, 8, 9, 10, 11] [(9, .agg #[.string y2.Label, v2]), (6, vt_1), (4, .agg #[.string y1.Label, v1]), (1, vs_1)] (fun a w => ∃ (x1 : ByteArray) (x2 : ByteArray) (b5 b6 : Nat) (g1 : Gh), Fr 57 a [(10, bp b5 0), (9, bp b6 0), (21, .agg #[.string y2.Label, v2]), (20, (elemP vt_1 k_ 2)), (18, vt_1), (17, bp b2 0), (16, .agg #[.string y1.Label, v1]), (15, (elemP vs_1 i_ 2)), (13, vs_1), (12, bp b1 0), (6, bp b2 0), (4, bp b1 0)] ∧ Le g g1 ∧ St g1 [[bx b5 #[.string x1, nilS] 50], [bx b6 #[.string x2, nilS] 50], [bx b2 #[vt_1] 24], [bx b1 #[vs_1] 24]] fr w ∧ syntax_equal.j1 s_ t_ rec_ y1 y2 x1 x2 = some r) ?_ ?_
 ·intro HJ
  refine dv_fork ok1 10 [11] (fk 10 rfl [(9, .agg #[.string y2.Label, v2]), (6, vt_1), (4, .agg #[.string y1.Label, v1]), (1, vs_1)] ?_ (fk 11 rfl [(9, .agg #[.string y2.Label, v2]), (6, vt_1), (4, .agg #[.string y1.Label, v1]), (1, vs_1)] ?_ trivial))
  ·refine wl_alloc (wn rfl) rfl tz50 (cs := [.string ByteArray.empty, nilS]) rfl F S rfl rfl ?_; clear F a S; rintro b3 a w F S
   refine dv_nx ⟨yl_ev rfl rfl (ev_loadA tu50 rfl (cs := [.string y2.Label, v2]) ts50 rfl (ptr_mono (cks := [[bx b3 #[.string ByteArray.empty, nilS] 50], [bx b2 #[vt_1] 24], [bx b1 #[vs_1] 24]]) (fr := fr) hp2 (Le.refl _))) F S, yl_ev rfl rfl (ev_load1 tu22 rfl rfl (box_ptr (cells := [vt_1]) 1 rfl 0 rfl (lb rfl))) F S, yl_ev rfl rfl (ev_loadA tu50 rfl (cs := [.string y1.Label, v1]) ts50 rfl (ptr_mono (cks := [[bx b3 #[.string ByteArray.empty, nilS] 50], [bx b2 #[vt_1] 24], [bx b1 #[vs_1] 24]]) (fr := fr) hp1 (Le.refl _))) F S, yl_ev rfl rfl (ev_load1 tu22 rfl rfl (box_ptr (cells := [vs_1]) 2 rfl 0 rfl (lb rfl))) F S, trivial⟩ ?_
   refine dv_op ok1 11 rfl [(9, .agg #[.string y2.Label, v2]), (6, vt_1), (4, .agg #[.string y1.Label, v1]), (1, vs_1)] ?_
   refine wl_alloc (wn rfl) rfl tz50 (cs := [.string ByteArray.empty, nilS]) rfl F S rfl rfl ?_; clear F a S; rintro b4 a w F S
   refine dv_nx ⟨yl_ev rfl rfl (ev_loadA tu50 rfl (cs := [.string y2.Label, v2]) ts50 rfl (ptr_mono (cks := [[bx b4 #[.string ByteArray.empty, nilS] 50], [bx b3 #[.string ByteArray.empty, nilS] 50], [bx b2 #[vt_1] 24], [bx b1 #[vs_1] 24]]) (fr := fr) hp2 (Le.refl _))) F S, yl_ev rfl rfl (ev_load1 tu22 rfl rfl (box_ptr (cells := [vt_1]) 2 rfl 0 rfl (lb rfl))) F S, yl_ev rfl rfl (ev_loadA tu50 rfl (cs := [.string y1.Label, v1]) ts50 rfl (ptr_mono (cks := [[bx b4 #[.string ByteArray.empty, nilS] 50], [bx b3 #[.string ByteArray.empty, nilS] 50], [bx b2 #[vt_1] 24], [bx b1 #[vs_1] 24]]) (fr := fr) hp1 (Le.refl _))) F S, yl_ev rfl rfl (ev_load1 tu22 rfl rfl (box_ptr (cells := [vs_1]) 3 rfl 0 rfl (lb rfl))) F S, trivial⟩ ?_
   refine dv_join (HJ _ _ ?_)
   exact ⟨ByteArray.empty, ByteArray.empty, b4, b3, g, F.sub ⟨rfl, rfl, rfl, rfl, rfl, rfl, rfl, rfl, rfl, rfl, rfl, rfl, trivial⟩, (Le.refl _), S, hm⟩
  ·refine wl_alloc (wn rfl) rfl tz50 (cs := [.string ByteArray.empty, nilS]) rfl F S rfl rfl ?_; clear F a S; rintro b4 a w F S
   refine dv_nx ⟨yl_ev rfl rfl (ev_loadA tu50 rfl (cs := [.string y2.Label, v2]) ts50 rfl (ptr_mono (cks := [[bx b4 #[.string ByteArray.empty, nilS] 50], [bx b2 #[vt_1] 24], [bx b1 #[vs_1] 24]]) (fr := fr) hp2 (Le.refl _))) F S, yl_ev rfl rfl (ev_load1 tu22 rfl rfl (box_ptr (cells := [vt_1]) 1 rfl 0 rfl (lb rfl))) F S, yl_ev rfl rfl (ev_loadA tu50 rfl (cs := [.string y1.Label, v1]) ts50 rfl (ptr_mono (cks := [[bx b4 #[.string ByteArray.empty, nilS] 50], [bx b2 #[vt_1] 24], [bx b1 #[vs_1] 24]]) (fr := fr) hp1 (Le.refl _))) F S, yl_ev rfl rfl (ev_load1 tu22 rfl rfl (box_ptr (cells := [vs_1]) 2 rfl 0 rfl (lb rfl))) F S, trivial⟩ ?_
   refine dv_op ok1 10 rfl [(9, .agg #[.string y2.Label, v2]), (6, vt_1), (4, .agg #[.string y1.Label, v1]), (1, vs_1)] ?_
   refine wl_alloc (wn rfl) rfl tz50 (cs := [.string ByteArray.empty, nilS]) rfl F S rfl rfl ?_; clear F a S; rintro b3 a w F S
   refine dv_nx ⟨yl_ev rfl rfl (ev_loadA tu50 rfl (cs := [.string y2.Label, v2]) ts50 rfl (ptr_mono (cks := [[bx b3 #[.string ByteArray.empty, nilS] 50], [bx b4 #[.string ByteArray.empty, nilS] 50], [bx b2 #[vt_1] 24], [bx b1 #[vs_1] 24]]) (fr := fr) hp2 (Le.refl _))) F S, yl_ev rfl rfl (ev_load1 tu22 rfl rfl (box_ptr (cells := [vt_1]) 2 rfl 0 rfl (lb rfl))) F S, yl_ev rfl rfl (ev_loadA tu50 rfl (cs := [.string y1.Label, v1]) ts50 rfl (ptr_mono (cks := [[bx b3 #[.string ByteArray.empty, nilS] 50], [bx b4 #[.string ByteArray.empty, nilS] 50], [bx b2 #[vt_1] 24], [bx b1 #[vs_1] 24]]) (fr := fr) hp1 (Le.refl _))) F S, yl_ev rfl rfl (ev_load1 tu22 rfl rfl (box_ptr (cells := [vs_1]) 3 rfl 0 rfl (lb rfl))) F S, trivial⟩ ?_
   refine dv_join (HJ _ _ ?_)
   replace S : St g [[bx b4 #[.string ByteArray.empty, nilS] 50], [bx b3 #[.string ByteArray.empty, nilS] 50], [bx b2 #[vt_1] 24], [bx b1 #[vs_1] 24]] fr w := St.tail [[bx b4 #[.string ByteArray.empty, nilS] 50], [bx b3 #[.string ByteArray.empty, nilS] 50], [bx b2 #[vt_1] 24], [bx b1 #[vs_1] 24]] _ ((((S.frontC 3 rfl).frontC 3 rfl).frontC 2 rfl).frontC 4 rfl)
   exact ⟨ByteArray.empty, ByteArray.empty, b4, b3, g, F.sub ⟨rfl, rfl, rfl, rfl, rfl, rfl, rfl, rfl, rfl, rfl, rfl, rfl, trivial⟩, (Le.refl _), S, hm⟩
 ·clear F S hm; rintro a w ⟨x1, x2, b5, b6, g1, F, l1, S, hm⟩
  refine dv_op ok1 12 rfl [(9, .agg #[.string y2.Label, v2]), (6, vt_1)] ?_
  refine wl_storeC (wn rfl) rfl F S rfl rfl (vs := [.string y1.Label, v1]) rfl ts50 (one_cons rfl (one_cons h1.one one_nil)) (k := 1) rfl (lb rfl) (c' := #[.string y1.Label, v1]) rfl rfl ?_; clear S; intro w S
  refine dv_nx ⟨yl_ev rfl rfl (ev_loadA tu50 rfl (cs := [.string y2.Label, v2]) ts50 rfl (ptr_mono (cks := [[bx b5 #[.string x1, nilS] 50], [bx b6 #[.string y1.Label, v1] 50], [bx b2 #[vt_1] 24], [bx b1 #[vs_1] 24]]) (fr := fr) hp2 l1)) F S, yl_ev rfl rfl (ev_load1 tu22 rfl rfl (box_ptr (cells := [vt_1]) 2 rfl 0 rfl (lb rfl))) F S, trivial⟩ ?_
  refine dv_op ok1 13 rfl [] ?_
  refine wl_storeC (wn rfl) rfl F S rfl rfl (vs := [.string y2.Label, v2]) rfl ts50 (one_cons rfl (one_cons h2.one one_nil)) (k := 0) rfl (lb rfl) (c' := #[.string y2.Label, v2]) rfl rfl ?_; clear S; intro w S
  refine dv_nx trivial ?_
  refine dv_fin ok1 ?_
  refine then_n ?_
  refine wp_seq ?_
  refine wp_seq ?_
  refine wp_region_lit ?_
  refine wE (ev_fieldAddr' tu50 tf50_0 (z := 0) ts9 rfl ⟨_, rfl⟩ rfl) F S rfl fun a F=>?_
  refine wE (ev_load1 tu9 rfl rfl (box_ptr (cells := [.string y1.Label]) 1 rfl 0 rfl (lb rfl))) F S rfl fun a F=>?_
  refine wE (ev_fieldAddr' tu50 tf50_0 (z := 0) ts9 rfl ⟨_, rfl⟩ rfl) F S rfl fun a F=>?_
  refine wE (ev_load1 tu9 rfl rfl (box_ptr (cells := [.string y2.Label]) 0 rfl 0 rfl (lb rfl))) F S rfl fun a F=>?_
  refine wE (ev_str rfl rfl (bs_neq _ _ _)) F S rfl fun a F=>?_
  refine wE (ev_move rfl) F S rfl fun a F=>?_
  obtain ⟨x3, hx1, hm⟩ := bind_some hm
  refine wl_cut 8 (fun a w' => w = w' ∧ Fr 57 a [(35, .bool x3), (10, bp b5 0), (9, bp b6 0), (6, bp b2 0), (4, bp b1 0)]) ?_ ?_
  ·clear hm; obtain ⟨hc1, hm⟩ | ⟨hc1, hm⟩ := ite_or hx1
   ·refine wl_skip rfl rfl rfl rfl (ne_ft hc1) F rfl rfl ?_; clear F a; intro a F
    refine wl_skip rfl rfl rfl rfl (ne_ft hc1) F rfl rfl ?_; clear F a; intro a F
    refine wl_skip rfl rfl rfl rfl (ne_ft hc1) F rfl rfl ?_; clear F a; intro a F
    refine wl_skip rfl rfl rfl rfl (ne_ft hc1) F rfl rfl ?_; clear F a; intro a F
    refine wl_skip rfl rfl rfl rfl (ne_ft hc1) F rfl rfl ?_; clear F a; intro a F
    refine wl_skip rfl rfl rfl rfl (ne_ft hc1) F rfl rfl ?_; clear F a; intro a F
    refine wl_skip rfl rfl rfl rfl (ne_ft hc1) F rfl rfl ?_; clear F a; intro a F
    refine wE (ev_pickT rfl hc1 rfl) F S rfl fun a F=>?_
    obtain rfl := sinj hm
    refine wpList_nil (then_n ?_); exact ⟨rfl, F.sub ⟨rfl, rfl, rfl, rfl, rfl, trivial⟩⟩
   ·refine wl_ev (wg F rfl rfl rfl rfl hc1) (ev_fieldAddr' tu50 tf50_1 (z := 0) ts38 rfl ⟨_, rfl⟩ rfl) F S rfl rfl ?_; clear F a; intro a F
    refine wl_ev (wg F rfl rfl rfl rfl hc1) (ev_load1 tu38 rfl rfl (box_ptr (cells := [v1]) 1 rfl 1 rfl (lb rfl))) F S rfl rfl ?_; clear F a; intro a F
    refine wl_ev (wg F rfl rfl rfl rfl hc1) (ev_lenSh h1 rfl tu38) F S rfl rfl ?_; clear F a; intro a F
    refine wl_ev (wg F rfl rfl rfl rfl hc1) (ev_fieldAddr' tu50 tf50_1 (z := 0) ts38 rfl ⟨_, rfl⟩ rfl) F S rfl rfl ?_; clear F a; intro a F
    refine wl_ev (wg F rfl rfl rfl rfl hc1) (ev_load1 tu38 rfl rfl (box_ptr (cells := [v2]) 0 rfl 1 rfl (lb rfl))) F S rfl rfl ?_; clear F a; intro a F
    refine wl_ev (wg F rfl rfl rfl rfl hc1) (ev_lenSh h2 rfl tu38) F S rfl rfl ?_; clear F a; intro a F
    refine wl_ev (wg F rfl rfl rfl rfl hc1) (ev_int rfl rfl (bo_neq _ _ _ _)) F S rfl rfl ?_; clear F a; intro a F
    refine wE (ev_pickF rfl hc1 rfl) F S rfl fun a F=>?_
    obtain rfl := sinj hm
    refine wpList_nil (then_n ?_); exact ⟨rfl, F.sub ⟨rfl, rfl, rfl, rfl, rfl, trivial⟩⟩
  clear F; rintro a w' ⟨rfl, F⟩
  refine wpList_nil ?_
  refine then_n ?_
  obtain ⟨hc2, hm⟩ | ⟨hc2, hm⟩ := ite_or hm
  ·refine wp_condT F rfl hc2 ?_
   refine wp_seq ?_
   refine wp_region_lit ?_
   refine wE (ev_assign rfl) F S rfl fun a F=>?_
   refine wpList_nil ?_
   refine then_n ?_
   refine wp_ret ?_
   refine then_r ?_
   obtain rfl := sinj hm
   refine post_r _ F rfl (ar_cons (resT rfl) ar_nil) ?_
   replace S : St g1 [] fr w := St.tail [] _ S
   exact ⟨_, rfl, g1, l1, S, rfl⟩
  ·refine wp_condF F rfl hc2 ?_
   refine wp_skip ?_
   refine then_n ?_
   refine wp_cut (fun a w => ∃ (g2 : Gh), Fr 57 a [] ∧ Le g1 g2 ∧ St g2 [] fr w ∧ syntax_equal.j2 = some r) ?_ ?_
   ·refine wp_seq ?_
    refine wp_region_lit ?_
    refine wE (ev_fieldAddr' tu50 tf50_1 (z := 0) ts38 rfl ⟨_, rfl⟩ rfl) F S rfl fun a F=>?_
    refine wE (ev_load1 tu38 rfl rfl (box_ptr (cells := [v1]) 1 rfl 1 rfl (lb rfl))) F S rfl fun a F=>?_
    refine wE (ev_lenSh h1 rfl tu38) F S rfl fun a F=>?_
    refine wE (ev_move rfl) F S rfl fun a F=>?_
    refine wpList_nil ?_
    refine then_n ?_
    refine wp_block ?_
    obtain ⟨r1, hr3, hm⟩ := bind_some hm
    have hmo1 := hm; clear hm
    refine wp_iter (σ := Int) (ρ := Bool ⊕ Unit) (m := fun s => syntax_equal.l1 s_ t_ rec_ y1 y2 s) (I := fun x4 a w => ∃ (g3 : Gh), Fr 57 a [(39, .i6 x4), (38, .i6 (y1.Children.length : Int)), (10, bp b5 0), (9, bp b6 0), (6, bp b2 0), (4, bp b1 0)] ∧ Le g1 g3 ∧ St g3 [[bx b5 #[.string y2.Label, v2] 50], [bx b6 #[.string y1.Label, v1] 50], [bx b2 #[vt_1] 24], [bx b1 #[vs_1] 24]] fr w) hr3 ?_ ?_
    ·exact ⟨g1, F.sub ⟨rfl, rfl, rfl, rfl, rfl, rfl, trivial⟩, (Le.refl _), S⟩
    ·clear F S; rintro x4 a w x5 ⟨g3, F, l3, S⟩ hx2 hfin1
     have hm : syntax_equal.l1 s_ t_ rec_ y1 y2 x4 = some x5 := hx2; clear hx2
     unfold syntax_equal.l1 at hm
     refine wp_seq ?_
     refine wp_region_lit ?_
     refine wE (ev_int rfl rfl (bo_lss _ _ _ _)) F S rfl fun a F=>?_
     refine wpList_nil ?_
     refine then_n ?_
     refine wp_seq ?_
     obtain ⟨hc3, hm⟩ | ⟨hc3, hm⟩ := ite_or hm
     ·refine wp_condT F rfl hc3 ?_
      refine wp_skip ?_
      refine then_n ?_
      refine wp_seq ?_
      refine wp_block ?_
      refine wp_seq ?_
      refine wp_region_lit ?_
      refine wE (ev_move rfl) F S rfl fun a F=>?_
      refine wE (ev_assign rfl) F S rfl fun a F=>?_
      refine wpList_nil ?_
      refine then_n ?_
      refine wp_seq ?_
      refine wp_quiet mo (by kernel_rfl) S ?_
      refine wq_ev (wn rfl) (ev_loadA tu24 rfl (cs := [vs_1]) ts24 rfl (box_ptr (cells := [vs_1]) 3 rfl 0 rfl (lb rfl))) F rfl rfl ?_; clear F a; intro a F
      refine wq_ev (wn rfl) (ev_fieldAddr' tu50 tf50_1 (z := 0) ts38 rfl ⟨_, rfl⟩ rfl) F rfl rfl ?_; clear F a; intro a F
      refine wq_ev (wn rfl) (ev_load1 tu38 rfl rfl (box_ptr (cells := [v1]) 1 rfl 1 rfl (lb rfl))) F rfl rfl ?_; clear F a; intro a F
      refine wq_ev (wn rfl) (ev_move rfl) F rfl rfl ?_; clear F a; intro a F
      obtain ⟨y3, hy3, hm⟩ := bind_some hm
      obtain ⟨cs3, hr4, hp3⟩ := elemS (h1.mono (l1.trans l3)) hy3
      obtain rfl := rep_int hr4
      refine wq_ev (wn rfl) (ev_idxS (h1.mono (l1.trans l3)) hy3 tu38 ts3 rfl rfl) F rfl rfl ?_; clear F a; intro a F
      refine wq_ev (wn rfl) (ev_load1 tu3 rfl rfl (ptr_mono (cks := [[bx b5 #[.string y2.Label, v2] 50], [bx b6 #[.string y1.Label, v1] 50], [bx b2 #[vt_1] 24], [bx b1 #[vs_1] 24]]) (fr := fr) hp3 (Le.refl _))) F rfl rfl ?_; clear F a; intro a F
      refine wq_ev (wn rfl) (ev_loadA tu24 rfl (cs := [vt_1]) ts24 rfl (box_ptr (cells := [vt_1]) 2 rfl 0 rfl (lb rfl))) F rfl rfl ?_; clear F a; intro a F
      refine wq_ev (wn rfl) (ev_fieldAddr' tu50 tf50_1 (z := 0) ts38 rfl ⟨_, rfl⟩ rfl) F rfl rfl ?_; clear F a; intro a F
      refine wq_ev (wn rfl) (ev_load1 tu38 rfl rfl (box_ptr (cells := [v2]) 0 rfl 1 rfl (lb rfl))) F rfl rfl ?_; clear F a; intro a F
      refine wq_ev (wn rfl) (ev_move rfl) F rfl rfl ?_; clear F a; intro a F
      obtain ⟨y4, hy4, hm⟩ := bind_some hm
      obtain ⟨cs4, hr5, hp4⟩ := elemS (h2.mono (l1.trans l3)) hy4
      obtain rfl := rep_int hr5
      refine wq_ev (wn rfl) (ev_idxS (h2.mono (l1.trans l3)) hy4 tu38 ts3 rfl rfl) F rfl rfl ?_; clear F a; intro a F
      refine wq_ev (wn rfl) (ev_load1 tu3 rfl rfl (ptr_mono (cks := [[bx b5 #[.string y2.Label, v2] 50], [bx b6 #[.string y1.Label, v1] 50], [bx b2 #[vt_1] 24], [bx b1 #[vs_1] 24]]) (fr := fr) hp4 (Le.refl _))) F rfl rfl ?_; clear F a; intro a F
      obtain ⟨y5, hy5, hm⟩ := bind_some hm
      refine wq_call (wn rfl) rfl (xs := [.tmp 42, .tmp 47, .tmp 48, .tmp 53]) (vs := [.agg #[vs_1], .i6 y3, .agg #[vt_1], .i6 y4]) (cap := []) F rfl rfl tc37 (v := .bool y5) (fun w S => (hrec (g := g3) (fr := (fl [[bx b5 #[.string y2.Label, v2] 50], [bx b6 #[.string y1.Label, v1] 50], [bx b2 #[vt_1] 24], [bx b1 #[vs_1] 24]] fr)) (w := w) s_ vs_1 (hs_1.mono (l1.trans l3)) y3 t_ vt_1 (ht_1.mono (l1.trans l3)) y4 S hy5).mono (by rintro en w' ⟨_, rfl, g2, l2, S2, rfl⟩; exact ⟨rfl, S2.weak l2⟩)) rfl rfl ?_; clear F a; intro a F
      refine wq_ev (wn rfl) (ev_not rfl) F rfl rfl ?_; clear F a; intro a F
      refine wq_nil ?_; clear S; intro w S
      refine then_n ?_
      obtain ⟨hc4, hm⟩ | ⟨hc4, hm⟩ := ite_or hm
      ·refine wp_condT F rfl hc4 ?_
       refine wp_seq ?_
       refine wp_region_lit ?_
       refine wE (ev_assign rfl) F S rfl fun a F=>?_
       refine wpList_nil ?_
       refine then_n ?_
       refine wp_ret ?_
       refine inb_r ?_
       refine then_r ?_
       refine then_r ?_
       refine inb_r ?_
       refine then_r ?_
       obtain rfl := sinj hm
       obtain rfl := hfin1 _ rfl
       clear hm
       have hm : (some false : Option Bool) = some _ := hmo1
       obtain rfl := sinj hm
       refine post_r _ F rfl (ar_cons (resT rfl) ar_nil) ?_
       replace S : St g3 [] fr w := St.tail [] _ S
       exact ⟨_, rfl, g3, (l1.trans l3), S, rfl⟩
      ·refine wp_condF F rfl hc4 ?_
       refine wp_skip ?_
       refine inb_n ?_
       refine then_n ?_
       refine wp_region_lit ?_
       obtain ⟨z1, hz1, hm⟩ := bind_some hm
       refine wE (ev_int rfl rfl (bo_add hz1)) F S rfl fun a F=>?_
       refine wE (ev_move rfl) F S rfl fun a F=>?_
       refine wpList_nil ?_
       refine then_n ?_
       obtain rfl := sinj hm
       refine ⟨_, rfl, ?_⟩
       exact ⟨g3, F.sub ⟨rfl, rfl, rfl, rfl, rfl, rfl, trivial⟩, l3, S⟩
     ·refine wp_condF F rfl hc3 ?_
      refine wp_exit ?_
      refine then_e ?_
      refine then_e ?_
      refine inb_x ?_
      refine then_n ?_
      obtain rfl := sinj hm
      obtain rfl := hfin1 _ rfl
      clear hm
      have hm : (syntax_equal.j2 : Option Bool) = some _ := hmo1
      replace S : St g3 [] fr w := St.tail [] _ S
      exact ⟨g3, F.sub trivial, l3, S, hm⟩
   ·clear F S hm; rintro a w ⟨g2, F, l2, S, hm⟩
    refine wp_seq ?_
    refine wp_region_lit ?_
    refine wE (ev_assign rfl) F S rfl fun a F=>?_
    refine wpList_nil ?_
    refine then_n ?_
    refine wp_ret ?_
    obtain rfl := sinj hm
    refine post_r _ F rfl (ar_cons (resT rfl) ar_nil) ?_
    exact ⟨_, rfl, g2, (l1.trans l2), S, rfl⟩

theorem syntax_equal.m_ok : ∀ (fu_ : Nat) {g : Gh} {fr : Hl} {w : World} {r : Bool} (s_ : SyntaxTree) (vs_1 : Value) (hs_1 : RepSl g s_.Nodes vs_1) (i_ : Int) (t_ : SyntaxTree) (vt_1 : Value) (ht_1 : RepSl g t_.Nodes vt_1) (k_ : Int) (S : St g [] fr w) (hm : syntax_equal.m fu_ s_ i_ t_ k_ = some r), Calls Try.prog 37 [.agg #[vs_1], .i6 i_, .agg #[vt_1], .i6 k_].toArray w (fun en w' => ∃ v, en = .returned v ∧ ∃ (g' : Gh), Le g g' ∧ St g' [] fr w' ∧ .bool r = v)
 | 0 => by intros; rename_i hm; cases hm
 | fu_ + 1 => syntax_equal.body_ok (syntax_equal.m_ok fu_)

theorem syntax_equal_ok {g : Gh} {fr : Hl} {w : World} {r : Bool} (s_ : SyntaxTree) (vs_1 : Value) (hs_1 : RepSl g s_.Nodes vs_1) (i_ : Int) (t_ : SyntaxTree) (vt_1 : Value) (ht_1 : RepSl g t_.Nodes vt_1) (k_ : Int) (S : St g [] fr w) (hm : syntax_equal s_ i_ t_ k_ = some r) :
  Calls Try.prog 37 [.agg #[vs_1], .i6 i_, .agg #[vt_1], .i6 k_].toArray w (fun en w' => ∃ v, en = .returned v ∧ ∃ (g' : Gh), Le g g' ∧ St g' [] fr w' ∧ .bool r = v) := syntax_equal.m_ok _ s_ vs_1 hs_1 i_ t_ vt_1 ht_1 k_ S hm

theorem syntax_merger__copy.body_ok {rec_ : Merger_syntax → SyntaxTree → Int → Option Merger_syntax} (hrec : ∀ {g : Gh} {fr : Hl} {w : World} {r : Merger_syntax} (bm_ : Nat) (m_ : Merger_syntax) (vm_1 : Value) (hm_1 : RepSl g m_.base.Nodes vm_1) (vm_2 : Value) (hm_2 : RepSl g m_.left.Nodes vm_2) (vm_3 : Value) (hm_3 : RepSl g m_.right.Nodes vm_3) (vm_4 : Value) (cm_1 : Hl) (hm_4 : OwnS g m_.out vm_4 cm_1) (vm_5 : Value) (cm_2 : Hl) (hm_5 : OwnS g m_.bad vm_5 cm_2) (t_ : SyntaxTree) (vt_1 : Value) (ht_1 : RepSl g t_.Nodes vt_1) (i_ : Int) (S : St g [[bx bm_ #[vm_1, vm_2, vm_3, vm_4, vm_5] 58], cm_1, cm_2] fr w) (hm : rec_ m_ t_ i_ = some r), Calls Try.prog 38 [bp bm_ 0, .agg #[vt_1], .i6 i_].toArray w (fun en w' => ∃ v, en = .returned v ∧ ∃ (g' : Gh) (v1 v2 v3 v4 v5 : Value) (c1 c2 : Hl), Le g g' ∧ St g' [[bx bm_ #[v1, v2, v3, v4, v5] 58], c1, c2] fr w' ∧ RepSl g' r.base.Nodes v1 ∧ RepSl g' r.left.Nodes v2 ∧ RepSl g' r.right.Nodes v3 ∧ OwnS g' r.out v4 c1 ∧ OwnS g' r.bad v5 c2 ∧ .tuple #[] = v)) {g : Gh} {fr : Hl} {w : World} {r : Merger_syntax} (bm_ : Nat) (m_ : Merger_syntax) (vm_1 : Value) (hm_1 : RepSl g m_.base.Nodes vm_1) (vm_2 : Value) (hm_2 : RepSl g m_.left.Nodes vm_2) (vm_3 : Value) (hm_3 : RepSl g m_.right.Nodes vm_3) (vm_4 : Value) (cm_1 : Hl) (hm_4 : OwnS g m_.out vm_4 cm_1) (vm_5 : Value) (cm_2 : Hl) (hm_5 : OwnS g m_.bad vm_5 cm_2) (t_ : SyntaxTree) (vt_1 : Value) (ht_1 : RepSl g t_.Nodes vt_1) (i_ : Int) (S : St g [[bx bm_ #[vm_1, vm_2, vm_3, vm_4, vm_5] 58], cm_1, cm_2] fr w) (hm : syntax_merger__copy.body rec_ m_ t_ i_ = some r) :
  Calls Try.prog 38 [bp bm_ 0, .agg #[vt_1], .i6 i_].toArray w (fun en w' => ∃ v, en = .returned v ∧ ∃ (g' : Gh) (v1 v2 v3 v4 v5 : Value) (c1 c2 : Hl), Le g g' ∧ St g' [[bx bm_ #[v1, v2, v3, v4, v5] 58], c1, c2] fr w' ∧ RepSl g' r.base.Nodes v1 ∧ RepSl g' r.left.Nodes v2 ∧ RepSl g' r.right.Nodes v3 ∧ OwnS g' r.out v4 c1 ∧ OwnS g' r.bad v5 c2 ∧ .tuple #[] = v) := by
 unfold syntax_merger__copy.body at hm
 refine calls_enter (fn := Try.f38) Try.func38 rfl Try.ntmps38 (lb rfl) ?_
 intro a F
 replace F : Fr 53 a [(0, bp bm_ 0), (1, .agg #[vt_1]), (2, .i6 i_)] := F
 refine wp_seq ?_
 refine wp_region_lit ?_
 refine wl_boxC (wn rfl) rfl rfl rfl F S rfl rfl ?_; clear F a S; rintro b1 a w F S
 refine wpList_nil ?_
 refine then_n ?_
 refine wp_seq ?_
 refine wp_region_lit ?_
 refine wE (ev_fieldAddr' tu24 tf24_0 (z := 0) ts22 rfl ⟨_, rfl⟩ rfl) F S rfl fun a F=>?_
 refine wE (ev_load1 tu22 rfl rfl (box_ptr (cells := [vt_1]) 0 rfl 0 rfl (lb rfl))) F S rfl fun a F=>?_
 refine wE (ev_move rfl) F S rfl fun a F=>?_
 obtain ⟨y1, hy1, hm⟩ := bind_some hm
 obtain ⟨cs1, hr1, hp1⟩ := elemS ht_1 hy1
 obtain ⟨v1, rfl, h1⟩ := rep_Node hr1
 refine wE (ev_idxS ht_1 hy1 tu22 ts50 rfl rfl) F S rfl fun a F=>?_
 have hp2 := PtrC.field hp1 0 1 (lb rfl)
 have hp2 : PtrC g (addP (elemP vt_1 i_ 2) 0) [.string y1.Label] := hp2
 refine wE (ev_fieldAddr' tu50 tf50_0 (z := 0) ts9 rfl hp1.ptr rfl) F S rfl fun a F=>?_
 refine wE (ev_load1 tu9 rfl rfl (ptr_mono (cks := [[bx b1 #[vt_1] 24], [bx bm_ #[vm_1, vm_2, vm_3, vm_4, vm_5] 58], cm_1, cm_2]) (fr := fr) hp2 (Le.refl _))) F S rfl fun a F=>?_
 refine wE (ev_build (parts := [(0, .tmp 14)]) (vs := [(0, .string y1.Label)]) rfl (fun w => tb50_0 y1.Label w)) F S rfl fun a F=>?_
 refine wl_alloc (wn rfl) rfl tz50 (cs := [.string ByteArray.empty, nilS]) rfl F S rfl rfl ?_; clear F a S; rintro b2 a w F S
 refine wl_storeC (wn rfl) rfl F S rfl rfl (vs := [.string y1.Label, nilS]) rfl ts50 (one_cons rfl (one_cons rfl one_nil)) (k := 0) rfl (lb rfl) (c' := #[.string y1.Label, nilS]) rfl rfl ?_; clear S; intro w S
 refine wpList_nil ?_
 refine then_n ?_
 refine wp_cut (fun a w => ∃ (x1 : List Int) (x2 : List Node) (x3 : List Node) (x4 : List Node) (x5 : List Node) (x6 : List Int) (v2 v3 v4 v5 v6 v7 : Value) (c1 c2 c3 : Hl) (g1 : Gh), Fr 53 a [(6, bp b2 0), (0, bp bm_ 0)] ∧ Le g g1 ∧ St g1 [[bx b2 #[.string y1.Label, v2] 50], [bx bm_ #[v3, v4, v5, v6, v7] 58], c1, c2, c3] fr w ∧ OwnS g1 x1 v2 c1 ∧ RepSl g1 x2 v3 ∧ RepSl g1 x3 v4 ∧ RepSl g1 x4 v5 ∧ OwnS g1 x5 v6 c2 ∧ OwnS g1 x6 v7 c3 ∧ syntax_merger__copy.j1 y1 x1 x2 x3 x4 x5 x6 = some r) ?_ ?_
 ·refine wp_seq ?_
  refine wp_region_lit ?_
  refine wE (ev_fieldAddr' tu24 tf24_0 (z := 0) ts22 rfl ⟨_, rfl⟩ rfl) F S rfl fun a F=>?_
  refine wE (ev_load1 tu22 rfl rfl (box_ptr (cells := [vt_1]) 1 rfl 0 rfl (lb rfl))) F S rfl fun a F=>?_
  refine wE (ev_move rfl) F S rfl fun a F=>?_
  obtain ⟨y3, hy3, hm⟩ := bind_some hm
  obtain ⟨cs3, hr3, hp3⟩ := elemS ht_1 hy3
  obtain ⟨v10, rfl, h11⟩ := rep_Node hr3
  refine wE (ev_idxS ht_1 hy3 tu22 ts50 rfl rfl) F S rfl fun a F=>?_
  have hp4 := PtrC.field hp3 1 1 (lb rfl)
  have hp4 : PtrC g (addP (elemP vt_1 i_ 2) 1) [v10] := hp4
  refine wE (ev_fieldAddr' tu50 tf50_1 (z := 0) ts38 rfl hp3.ptr rfl) F S rfl fun a F=>?_
  refine wE (ev_load1 tu38 rfl rfl (ptr_mono (cks := [[bx b2 #[.string y1.Label, nilS] 50], [bx b1 #[vt_1] 24], [bx bm_ #[vm_1, vm_2, vm_3, vm_4, vm_5] 58], cm_1, cm_2]) (fr := fr) hp4 (Le.refl _))) F S rfl fun a F=>?_
  refine wE (ev_lenSh h11 rfl tu38) F S rfl fun a F=>?_
  refine wE (ev_move rfl) F S rfl fun a F=>?_
  refine wpList_nil ?_
  refine then_n ?_
  refine wp_block ?_
  obtain ⟨r1, hr4, hm⟩ := bind_some hm
  have hmo1 := hm; clear hm
  refine wp_iter (σ := Int × (List Int) × (List Node) × (List Node) × (List Node) × (List Node) × (List Int)) (ρ := (List Int) × (List Node) × (List Node) × (List Node) × (List Node) × (List Int)) (m := fun s => syntax_merger__copy.l1 t_ rec_ y3 s.1 s.2.1 s.2.2.1 s.2.2.2.1 s.2.2.2.2.1 s.2.2.2.2.2.1 s.2.2.2.2.2.2) (I := fun s a w => match s with | (x7, x8, x9, x10, x11, x12, x13) => ∃ (v11 v12 v13 v14 v15 v16 : Value) (c6 c7 c8 : Hl) (g3 : Gh), Fr 53 a [(23, .i6 x7), (22, .i6 (y3.Children.length : Int)), (21, v10), (6, bp b2 0), (4, bp b1 0), (0, bp bm_ 0)] ∧ Le g g3 ∧ St g3 [[bx b2 #[.string y1.Label, v11] 50], [bx b1 #[vt_1] 24], [bx bm_ #[v12, v13, v14, v15, v16] 58], c6, c7, c8] fr w ∧ OwnS g3 x8 v11 c6 ∧ RepSl g3 x9 v12 ∧ RepSl g3 x10 v13 ∧ RepSl g3 x11 v14 ∧ OwnS g3 x12 v15 c7 ∧ OwnS g3 x13 v16 c8) hr4 ?_ ?_
  ·dsimp only
   replace S : St g [[], [bx b2 #[.string y1.Label, nilS] 50], [bx b1 #[vt_1] 24], [bx bm_ #[vm_1, vm_2, vm_3, vm_4, vm_5] 58], cm_1, cm_2] fr w := S
   replace S : St g [[bx b2 #[.string y1.Label, nilS] 50], [bx b1 #[vt_1] 24], [bx bm_ #[vm_1, vm_2, vm_3, vm_4, vm_5] 58], [], cm_1, cm_2] fr w := St.tail [[bx b2 #[.string y1.Label, nilS] 50], [bx b1 #[vt_1] 24], [bx bm_ #[vm_1, vm_2, vm_3, vm_4, vm_5] 58], [], cm_1, cm_2] _ ((((((S.frontC 5 rfl).frontC 5 rfl).frontC 2 rfl).frontC 6 rfl).frontC 6 rfl).frontC 6 rfl)
   exact ⟨(nilS), vm_1, vm_2, vm_3, vm_4, vm_5, [], cm_1, cm_2, g, F.sub ⟨rfl, rfl, rfl, rfl, rfl, rfl, trivial⟩, (Le.refl _), S, (OwnS.nil _), hm_1, hm_2, hm_3, hm_4, hm_5⟩
  ·clear F S; rintro ⟨x7, x8, x9, x10, x11, x12, x13⟩ a w x14 ⟨v11, v12, v13, v14, v15, v16, c6, c7, c8, g3, F, l3, S, h12, h13, h14, h15, h16, h17⟩ hx1 hfin1
   have hm : syntax_merger__copy.l1 t_ rec_ y3 x7 x8 x9 x10 x11 x12 x13 = some x14 := hx1; clear hx1
   unfold syntax_merger__copy.l1 at hm
   refine wp_seq ?_
   refine wp_region_lit ?_
   refine wE (ev_int rfl rfl (bo_lss _ _ _ _)) F S rfl fun a F=>?_
   refine wpList_nil ?_
   refine then_n ?_
   refine wp_seq ?_
   obtain ⟨hc1, hm⟩ | ⟨hc1, hm⟩ := ite_or hm
   ·refine wp_condT F rfl hc1 ?_
    refine wp_skip ?_
    refine then_n ?_
    refine wp_seq ?_
    refine wp_block ?_
    refine wp_seq ?_
    refine wp_region_lit ?_
    obtain ⟨y4, hy4, hm⟩ := bind_some hm
    obtain ⟨cs4, hr5, hp5⟩ := elemS (h11.mono l3) hy4
    obtain rfl := rep_int hr5
    refine wE (ev_idxS (h11.mono l3) hy4 tu38 ts3 rfl rfl) F S rfl fun a F=>?_
    refine wE (ev_load1 tu3 rfl rfl (ptr_mono (cks := [[bx b2 #[.string y1.Label, v11] 50], [bx b1 #[vt_1] 24], [bx bm_ #[v12, v13, v14, v15, v16] 58], c6, c7, c8]) (fr := fr) hp5 (Le.refl _))) F S rfl fun a F=>?_
    refine wE (ev_assign rfl) F S rfl fun a F=>?_
    refine wpList_nil ?_
    refine then_n ?_
    refine wp_seq ?_
    refine wp_region_lit ?_
    refine wE (ev_move rfl) F S rfl fun a F=>?_
    refine wE (ev_loadA tu24 rfl (cs := [vt_1]) ts24 rfl (box_ptr (cells := [vt_1]) 1 rfl 0 rfl (lb rfl))) F S rfl fun a F=>?_
    refine wE (ev_move rfl) F S rfl fun a F=>?_
    replace S : St g3 [[bx bm_ #[v12, v13, v14, v15, v16] 58], c7, c8, [bx b2 #[.string y1.Label, v11] 50], [bx b1 #[vt_1] 24], c6] fr w := ((((((S.frontC 3 rfl).frontC 2 rfl).frontC 2 rfl).frontC 8 rfl).frontC 8 rfl).frontC 7 rfl)
    obtain ⟨y5, hy5, hm⟩ := bind_some hm
    refine wl_call0 (wn rfl) rfl F rfl (hrec (fr := (fl [[bx b2 #[.string y1.Label, v11] 50], [bx b1 #[vt_1] 24], c6] fr)) bm_ ({ base := ({ Nodes := x9 } : SyntaxTree), left := ({ Nodes := x10 } : SyntaxTree), right := ({ Nodes := x11 } : SyntaxTree), out := x12, bad := x13 } : Merger_syntax) v12 h13 v13 h14 v14 h15 v15 c7 h16 v16 c8 h17 t_ vt_1 (ht_1.mono l3) y4 S hy5) rfl tc38 rfl rfl ?_; clear F a S
    rintro _ a w ⟨g4, v17, v18, v19, v20, v21, c9, c10, l4, S, h18, h19, h20, h21, h22, rfl⟩ F; replace S : St g4 [[bx bm_ #[v17, v18, v19, v20, v21] 58], c9, c10, [bx b2 #[.string y1.Label, v11] 50], [bx b1 #[vt_1] 24], c6] fr w := S
    refine wpList_nil ?_
    refine then_n ?_
    refine wp_dv [] mo S ?_; clear S; intro ok2 w S
    refine dv_et ok2 0 rfl (ev_fieldAddr' tu50 tf50_1 (z := 0) ts38 rfl ⟨_, rfl⟩ rfl) F rfl fun a F=>?_
    refine dv_ev ok2 1 rfl (ev_load1 tu38 rfl rfl (box_ptr (cells := [v11]) 3 rfl 1 rfl (lb rfl))) F S rfl fun a F=>?_
    refine dv_et ok2 2 rfl (ev_move rfl) F rfl fun a F=>?_
    refine dv_et ok2 3 rfl (ev_nil rfl) F rfl fun a F=>?_
    refine dv_et ok2 4 rfl (ev_fieldAddr' tu58 tf58_3 (z := 0) ts22 rfl ⟨_, rfl⟩ rfl) F rfl fun a F=>?_
    refine dv_ev ok2 5 rfl (ev_load1 tu22 rfl rfl (box_ptr (cells := [v20]) 0 rfl 3 rfl (lb rfl))) F S rfl fun a F=>?_
    refine dv_et ok2 6 rfl (ev_lenOw h21 rfl tu22) F rfl fun a F=>?_
    obtain ⟨z1, hz1, hm⟩ := bind_some hm
    refine dv_et ok2 7 rfl (ev_int rfl rfl (bo_sub hz1)) F rfl fun a F=>?_
    refine dv_op ok2 8 rfl [(1, v11)] ?_
    refine wl_lit (l := ([z1] : List Int)) (vs := [.i6 z1]) (parts := [(0, .tmp 38)]) (wn rfl) rfl rfl rfl tu38 te3 (sz_cons rfl sz_nil) rfl (Cat.cons (show Rep.rep _ z1 _ from rfl) (Cat.nil _)) (coa_cons rfl coa_nil) rfl F S rfl rfl ?_; clear F a S
    rintro v22 c11 a w h23 F S
    refine dv_nx ⟨yl_ev rfl rfl (ev_load1 tu38 rfl rfl (box_ptr (cells := [v11]) 4 rfl 1 rfl (lb rfl))) F S, trivial⟩ ?_
    refine dv_op ok2 9 rfl [] ?_
    obtain ⟨cs5, hk2, hr6⟩ := OwnS.reads h23
    obtain ⟨y6, hy6, hm⟩ := bind_some hm
    refine wl_append (wn rfl) rfl tu38 tu38 te3 (by decide) (by decide) F S rfl rfl (k := 6) rfl (h12.mono l4) hk2 rfl (hr6 _ _ _ 0 rfl S) hy6 rfl rfl ?_; clear F a S
    rintro v23 c12 a w h24 S F; replace S : St g4 [c11, [bx bm_ #[v17, v18, v19, v20, v21] 58], c9, c10, [bx b2 #[.string y1.Label, v11] 50], [bx b1 #[vt_1] 24], c12] fr w := S
    refine dv_nx trivial ?_
    refine dv_et ok2 10 rfl (ev_fieldAddr' tu50 tf50_1 (z := 0) ts38 rfl ⟨_, rfl⟩ rfl) F rfl fun a F=>?_
    refine dv_op ok2 11 rfl [] ?_
    refine wl_storeC (wn rfl) rfl F S rfl rfl (vs := [v23]) (OwnS.cl h24) ts38 (one_cons (OwnS.one h24) one_nil) (k := 4) rfl (lb rfl) (c' := #[.string y1.Label, v23]) rfl rfl ?_; clear S; intro w S
    refine dv_nx trivial ?_
    refine dv_fin ok2 ?_
    refine inb_n ?_
    refine then_n ?_
    refine wp_region_lit ?_
    obtain ⟨z2, hz2, hm⟩ := bind_some hm
    refine wE (ev_int rfl rfl (bo_add hz2)) F S rfl fun a F=>?_
    refine wE (ev_move rfl) F S rfl fun a F=>?_
    refine wpList_nil ?_
    refine then_n ?_
    obtain rfl := sinj hm
    refine ⟨_, rfl, ?_⟩
    dsimp only
    replace S : St g4 [[bx b2 #[.string y1.Label, v23] 50], [bx b1 #[vt_1] 24], [bx bm_ #[v17, v18, v19, v20, v21] 58], c12, c9, c10] fr w := St.tail [[bx b2 #[.string y1.Label, v23] 50], [bx b1 #[vt_1] 24], [bx bm_ #[v17, v18, v19, v20, v21] 58], c12, c9, c10] _ ((((((S.frontC 3 rfl).frontC 3 rfl).frontC 8 rfl).frontC 4 rfl).frontC 9 rfl).frontC 9 rfl)
    exact ⟨v23, v17, v18, v19, v20, v21, c12, c9, c10, g4, F.sub ⟨rfl, rfl, rfl, rfl, rfl, rfl, trivial⟩, (l3.trans l4), S, h24, h18, h19, h20, h21, h22⟩
   ·refine wp_condF F rfl hc1 ?_
    refine wp_exit ?_
    refine then_e ?_
    refine then_e ?_
    refine inb_x ?_
    refine then_n ?_
    obtain rfl := sinj hm
    obtain rfl := hfin1 _ rfl
    clear hm
    have hm : (syntax_merger__copy.j1 y1 x8 x9 x10 x11 x12 x13 : Option Merger_syntax) = some _ := hmo1
    replace S : St g3 [[bx b2 #[.string y1.Label, v11] 50], [bx bm_ #[v12, v13, v14, v15, v16] 58], c6, c7, c8] fr w := St.tail [[bx b2 #[.string y1.Label, v11] 50], [bx bm_ #[v12, v13, v14, v15, v16] 58], c6, c7, c8] _ (((((S.frontC 5 rfl).frontC 5 rfl).frontC 5 rfl).frontC 5 rfl).frontC 4 rfl)
    exact ⟨x8, x9, x10, x11, x12, x13, v11, v12, v13, v14, v15, v16, c6, c7, c8, g3, F.sub ⟨rfl, rfl, trivial⟩, l3, S, h12, h13, h14, h15, h16, h17, hm⟩
 ·clear F S hm; rintro a w ⟨x1, x2, x3, x4, x5, x6, v2, v3, v4, v5, v6, v7, c1, c2, c3, g1, F, l1, S, h2, h3, h4, h5, h6, h7, hm⟩
  refine wp_dv [] mo S ?_; clear S; intro ok1 w S
  refine dv_et ok1 0 rfl (ev_move rfl) F rfl fun a F=>?_
  refine dv_et ok1 1 rfl (ev_move rfl) F rfl fun a F=>?_
  refine dv_et ok1 2 rfl (ev_nil rfl) F rfl fun a F=>?_
  refine dv_et ok1 3 rfl (ev_fieldAddr' tu58 tf58_3 (z := 0) ts22 rfl ⟨_, rfl⟩ rfl) F rfl fun a F=>?_
  refine dv_ev ok1 4 rfl (ev_load1 tu22 rfl rfl (box_ptr (cells := [v6]) 1 rfl 3 rfl (lb rfl))) F S rfl fun a F=>?_
  refine dv_ev ok1 5 rfl (ev_loadA tu50 rfl (cs := [.string y1.Label, v2]) ts50 rfl (box_ptr (cells := [.string y1.Label, v2]) 0 rfl 0 rfl (lb rfl))) F S rfl fun a F=>?_
  refine dv_op ok1 6 rfl [(4, v6)] ?_
  obtain ⟨g2, l2, S, h8⟩ : ∃ gz, Le g1 gz ∧ St gz [[bx b2 #[.string y1.Label, v2] 50], [bx bm_ #[v3, v4, v5, v6, v7] 58], c2, c3] fr w ∧ RepSl gz x1 v2 := ⟨_, Le.add _ _, S.freeze 2 rfl, OwnS.freeze (S.front 2 rfl) h2⟩
  refine wl_lit (l := ([({ Label := y1.Label, Children := x1 } : Node)] : List Node)) (vs := [.agg #[.string y1.Label, v2]]) (parts := [(0, .tmp 48)]) (wn rfl) rfl rfl rfl tu22 te50 (sz_cons rfl sz_nil) rfl (Cat.cons (rep_Node_mk (x := ({ Label := y1.Label, Children := x1 } : Node)) h8) (Cat.nil _)) (coa_cons rfl coa_nil) rfl F S rfl rfl ?_; clear F a S
  rintro v8 c4 a w h9 F S
  refine dv_nx ⟨yl_ev rfl rfl (ev_load1 tu22 rfl rfl (box_ptr (cells := [v6]) 2 rfl 3 rfl (lb rfl))) F S, trivial⟩ ?_
  refine dv_op ok1 7 rfl [] ?_
  obtain ⟨cs2, hk1, hr2⟩ := OwnS.reads h9
  obtain ⟨y2, hy2, hm⟩ := bind_some hm
  refine wl_append (wn rfl) rfl tu22 tu22 te50 (by decide) (by decide) F S rfl rfl (k := 3) rfl (h6.mono l2) hk1 rfl (hr2 _ _ _ 0 rfl S) hy2 rfl rfl ?_; clear F a S
  rintro v9 c5 a w h10 S F; replace S : St g2 [c4, [bx b2 #[.string y1.Label, v2] 50], [bx bm_ #[v3, v4, v5, v6, v7] 58], c5, c3] fr w := S
  refine dv_nx trivial ?_
  refine dv_et ok1 8 rfl (ev_nil rfl) F rfl fun a F=>?_
  refine dv_et ok1 9 rfl (ev_fieldAddr' tu58 tf58_3 (z := 0) ts22 rfl ⟨_, rfl⟩ rfl) F rfl fun a F=>?_
  refine dv_op ok1 10 rfl [] ?_
  refine wl_storeC (wn rfl) rfl F S rfl rfl (vs := [v9]) (OwnS.cl h10) ts22 (one_cons (OwnS.one h10) one_nil) (k := 2) rfl (lb rfl) (c' := #[v3, v4, v5, v9, v7]) rfl rfl ?_; clear S; intro w S
  refine dv_nx trivial ?_
  refine dv_fin ok1 ?_
  obtain rfl := sinj hm
  refine post_n _ F rfl ar_nil ?_
  replace S : St g2 [[bx bm_ #[v3, v4, v5, v9, v7] 58], c5, c3] fr w := St.tail [[bx bm_ #[v3, v4, v5, v9, v7] 58], c5, c3] _ (((S.frontC 4 rfl).frontC 4 rfl).frontC 4 rfl)
  exact ⟨_, rfl, g2, v3, v4, v5, v9, v7, c5, c3, (l1.trans l2), S, (h3.mono l2), (h4.mono l2), (h5.mono l2), h10, (h7.mono l2), rfl⟩

theorem syntax_merger__copy.m_ok : ∀ (fu_ : Nat) {g : Gh} {fr : Hl} {w : World} {r : Merger_syntax} (bm_ : Nat) (m_ : Merger_syntax) (vm_1 : Value) (hm_1 : RepSl g m_.base.Nodes vm_1) (vm_2 : Value) (hm_2 : RepSl g m_.left.Nodes vm_2) (vm_3 : Value) (hm_3 : RepSl g m_.right.Nodes vm_3) (vm_4 : Value) (cm_1 : Hl) (hm_4 : OwnS g m_.out vm_4 cm_1) (vm_5 : Value) (cm_2 : Hl) (hm_5 : OwnS g m_.bad vm_5 cm_2) (t_ : SyntaxTree) (vt_1 : Value) (ht_1 : RepSl g t_.Nodes vt_1) (i_ : Int) (S : St g [[bx bm_ #[vm_1, vm_2, vm_3, vm_4, vm_5] 58], cm_1, cm_2] fr w) (hm : syntax_merger__copy.m fu_ m_ t_ i_ = some r), Calls Try.prog 38 [bp bm_ 0, .agg #[vt_1], .i6 i_].toArray w (fun en w' => ∃ v, en = .returned v ∧ ∃ (g' : Gh) (v1 v2 v3 v4 v5 : Value) (c1 c2 : Hl), Le g g' ∧ St g' [[bx bm_ #[v1, v2, v3, v4, v5] 58], c1, c2] fr w' ∧ RepSl g' r.base.Nodes v1 ∧ RepSl g' r.left.Nodes v2 ∧ RepSl g' r.right.Nodes v3 ∧ OwnS g' r.out v4 c1 ∧ OwnS g' r.bad v5 c2 ∧ .tuple #[] = v)
 | 0 => by intros; rename_i hm; cases hm
 | fu_ + 1 => syntax_merger__copy.body_ok (syntax_merger__copy.m_ok fu_)

theorem syntax_merger__copy_ok {g : Gh} {fr : Hl} {w : World} {r : Merger_syntax} (bm_ : Nat) (m_ : Merger_syntax) (vm_1 : Value) (hm_1 : RepSl g m_.base.Nodes vm_1) (vm_2 : Value) (hm_2 : RepSl g m_.left.Nodes vm_2) (vm_3 : Value) (hm_3 : RepSl g m_.right.Nodes vm_3) (vm_4 : Value) (cm_1 : Hl) (hm_4 : OwnS g m_.out vm_4 cm_1) (vm_5 : Value) (cm_2 : Hl) (hm_5 : OwnS g m_.bad vm_5 cm_2) (t_ : SyntaxTree) (vt_1 : Value) (ht_1 : RepSl g t_.Nodes vt_1) (i_ : Int) (S : St g [[bx bm_ #[vm_1, vm_2, vm_3, vm_4, vm_5] 58], cm_1, cm_2] fr w) (hm : syntax_merger__copy m_ t_ i_ = some r) :
  Calls Try.prog 38 [bp bm_ 0, .agg #[vt_1], .i6 i_].toArray w (fun en w' => ∃ v, en = .returned v ∧ ∃ (g' : Gh) (v1 v2 v3 v4 v5 : Value) (c1 c2 : Hl), Le g g' ∧ St g' [[bx bm_ #[v1, v2, v3, v4, v5] 58], c1, c2] fr w' ∧ RepSl g' r.base.Nodes v1 ∧ RepSl g' r.left.Nodes v2 ∧ RepSl g' r.right.Nodes v3 ∧ OwnS g' r.out v4 c1 ∧ OwnS g' r.bad v5 c2 ∧ .tuple #[] = v) := syntax_merger__copy.m_ok _ bm_ m_ vm_1 hm_1 vm_2 hm_2 vm_3 hm_3 vm_4 cm_1 hm_4 vm_5 cm_2 hm_5 t_ vt_1 ht_1 i_ S hm
end Go.Dc
