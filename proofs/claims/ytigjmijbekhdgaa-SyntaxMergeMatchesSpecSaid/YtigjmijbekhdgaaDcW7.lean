/- Walks: each function comes to what its model says. -/
import Derived.Test.YtigjmijbekhdgaaDcTab
import Derived.Test.YtigjmijbekhdgaaDcM
import Derived.Test.YtigjmijbekhdgaaDcW3
import Derived.Test.YtigjmijbekhdgaaDcW6
namespace Go.Dc
open Go Go.Proofs
set_option maxRecDepth 100000
set_option maxHeartbeats 4000000
set_option linter.unusedVariables false
theorem syntax_merger__merge.body_ok {rec_ : Merger_syntax → Int → Int → Int → Option Merger_syntax} (hrec : ∀ {g : Gh} {fr : Hl} {w : World} {r : Merger_syntax} (bm_ : Nat) (m_ : Merger_syntax) (vm_1 : Value) (hm_1 : RepSl g m_.base.Nodes vm_1) (vm_2 : Value) (hm_2 : RepSl g m_.left.Nodes vm_2) (vm_3 : Value) (hm_3 : RepSl g m_.right.Nodes vm_3) (vm_4 : Value) (cm_1 : Hl) (hm_4 : OwnS g m_.out vm_4 cm_1) (vm_5 : Value) (cm_2 : Hl) (hm_5 : OwnS g m_.bad vm_5 cm_2) (o_ : Int) (a_ : Int) (b_ : Int) (S : St g [[bx bm_ #[vm_1, vm_2, vm_3, vm_4, vm_5] 58], cm_1, cm_2] fr w) (hm : rec_ m_ o_ a_ b_ = some r), Calls Try.prog 30 [bp bm_ 0, .i6 o_, .i6 a_, .i6 b_].toArray w (fun en w' => ∃ v, en = .returned v ∧ ∃ (g' : Gh) (v1 v2 v3 v4 v5 : Value) (c1 c2 : Hl), Le g g' ∧ St g' [[bx bm_ #[v1, v2, v3, v4, v5] 58], c1, c2] fr w' ∧ RepSl g' r.base.Nodes v1 ∧ RepSl g' r.left.Nodes v2 ∧ RepSl g' r.right.Nodes v3 ∧ OwnS g' r.out v4 c1 ∧ OwnS g' r.bad v5 c2 ∧ .tuple #[] = v)) {g : Gh} {fr : Hl} {w : World} {r : Merger_syntax} (bm_ : Nat) (m_ : Merger_syntax) (vm_1 : Value) (hm_1 : RepSl g m_.base.Nodes vm_1) (vm_2 : Value) (hm_2 : RepSl g m_.left.Nodes vm_2) (vm_3 : Value) (hm_3 : RepSl g m_.right.Nodes vm_3) (vm_4 : Value) (cm_1 : Hl) (hm_4 : OwnS g m_.out vm_4 cm_1) (vm_5 : Value) (cm_2 : Hl) (hm_5 : OwnS g m_.bad vm_5 cm_2) (o_ : Int) (a_ : Int) (b_ : Int) (S : St g [[bx bm_ #[vm_1, vm_2, vm_3, vm_4, vm_5] 58], cm_1, cm_2] fr w) (hm : syntax_merger__merge.body rec_ m_ o_ a_ b_ = some r) :
  Calls Try.prog 30 [bp bm_ 0, .i6 o_, .i6 a_, .i6 b_].toArray w (fun en w' => ∃ v, en = .returned v ∧ ∃ (g' : Gh) (v1 v2 v3 v4 v5 : Value) (c1 c2 : Hl), Le g g' ∧ St g' [[bx bm_ #[v1, v2, v3, v4, v5] 58], c1, c2] fr w' ∧ RepSl g' r.base.Nodes v1 ∧ RepSl g' r.left.Nodes v2 ∧ RepSl g' r.right.Nodes v3 ∧ OwnS g' r.out v4 c1 ∧ OwnS g' r.bad v5 c2 ∧ .tuple #[] = v) := by
 unfold syntax_merger__merge.body at hm
 refine calls_enter (fn := Try.f30) Try.func30 rfl Try.ntmps30 (lb rfl) ?_
 intro a F
 replace F : Fr 209 a [(0, bp bm_ 0), (1, .i6 o_), (2, .i6 a_), (3, .i6 b_)] := F
 refine wp_seq ?_
 refine wp_dv [] mo S ?_; clear S; intro ok1 w S
 refine dv_et ok1 0 rfl (ev_move rfl) F rfl fun a F=>?_
 refine dv_et ok1 1 rfl (ev_nil rfl) F rfl fun a F=>?_
 refine dv_et ok1 2 rfl (ev_fieldAddr' tu58 tf58_0 (z := 0) ts24 rfl ⟨_, rfl⟩ rfl) F rfl fun a F=>?_
 refine dv_et ok1 3 rfl (ev_fieldAddr' tu24 tf24_0 (z := 0) ts22 rfl ⟨_, rfl⟩ rfl) F rfl fun a F=>?_
 refine dv_ev ok1 4 rfl (ev_load1 tu22 rfl rfl (box_ptr (cells := [vm_1]) 0 rfl 0 rfl (lb rfl))) F S rfl fun a F=>?_
 refine dv_et ok1 5 rfl (ev_move rfl) F rfl fun a F=>?_
 obtain ⟨y1, hy1, hm⟩ := bind_some hm
 obtain ⟨cs1, hr1, hp1⟩ := elemS hm_1 hy1
 obtain ⟨v1, rfl, h1⟩ := rep_Node hr1
 refine dv_et ok1 6 rfl (ev_idxS hm_1 hy1 tu22 ts50 rfl rfl) F rfl fun a F=>?_
 refine dv_ev ok1 7 rfl (ev_loadA tu50 rfl (cs := [.string y1.Label, v1]) ts50 rfl (ptr_mono (cks := [[bx bm_ #[vm_1, vm_2, vm_3, vm_4, vm_5] 58], cm_1, cm_2]) (fr := fr) hp1 (Le.refl _))) F S rfl fun a F=>?_
 refine dv_et ok1 8 rfl (ev_move rfl) F rfl fun a F=>?_
 refine dv_et ok1 9 rfl (ev_nil rfl) F rfl fun a F=>?_
 refine dv_et ok1 10 rfl (ev_fieldAddr' tu58 tf58_1 (z := 0) ts24 rfl ⟨_, rfl⟩ rfl) F rfl fun a F=>?_
 refine dv_et ok1 11 rfl (ev_fieldAddr' tu24 tf24_0 (z := 0) ts22 rfl ⟨_, rfl⟩ rfl) F rfl fun a F=>?_
 refine dv_ev ok1 12 rfl (ev_load1 tu22 rfl rfl (box_ptr (cells := [vm_2]) 0 rfl 1 rfl (lb rfl))) F S rfl fun a F=>?_
 refine dv_et ok1 13 rfl (ev_move rfl) F rfl fun a F=>?_
 obtain ⟨y2, hy2, hm⟩ := bind_some hm
 obtain ⟨cs2, hr2, hp2⟩ := elemS hm_2 hy2
 obtain ⟨v2, rfl, h2⟩ := rep_Node hr2
 refine dv_et ok1 14 rfl (ev_idxS hm_2 hy2 tu22 ts50 rfl rfl) F rfl fun a F=>?_
 refine dv_ev ok1 15 rfl (ev_loadA tu50 rfl (cs := [.string y2.Label, v2]) ts50 rfl (ptr_mono (cks := [[bx bm_ #[vm_1, vm_2, vm_3, vm_4, vm_5] 58], cm_1, cm_2]) (fr := fr) hp2 (Le.refl _))) F S rfl fun a F=>?_
 refine dv_et ok1 16 rfl (ev_move rfl) F rfl fun a F=>?_
 refine dv_et ok1 17 rfl (ev_nil rfl) F rfl fun a F=>?_
 refine dv_et ok1 18 rfl (ev_fieldAddr' tu58 tf58_2 (z := 0) ts24 rfl ⟨_, rfl⟩ rfl) F rfl fun a F=>?_
 refine dv_et ok1 19 rfl (ev_fieldAddr' tu24 tf24_0 (z := 0) ts22 rfl ⟨_, rfl⟩ rfl) F rfl fun a F=>?_
 refine dv_ev ok1 20 rfl (ev_load1 tu22 rfl rfl (box_ptr (cells := [vm_3]) 0 rfl 2 rfl (lb rfl))) F S rfl fun a F=>?_
 refine dv_et ok1 21 rfl (ev_move rfl) F rfl fun a F=>?_
 obtain ⟨y3, hy3, hm⟩ := bind_some hm
 obtain ⟨cs3, hr3, hp3⟩ := elemS hm_3 hy3
 obtain ⟨v3, rfl, h3⟩ := rep_Node hr3
 refine dv_et ok1 22 rfl (ev_idxS hm_3 hy3 tu22 ts50 rfl rfl) F rfl fun a F=>?_
 refine dv_ev ok1 23 rfl (ev_loadA tu50 rfl (cs := [.string y3.Label, v3]) ts50 rfl (ptr_mono (cks := [[bx bm_ #[vm_1, vm_2, vm_3, vm_4, vm_5] 58], cm_1, cm_2]) (fr := fr) hp3 (Le.refl _))) F S rfl fun a F=>?_
 refine dv_cut [0, 1, 2, 3, 4, 5, 6, 7, 8, 9, 10, 11, 12, 13, 14, 15, 16, 17, 18, 19, 20, 21, 22, 23, 24, 25, 26] [(23, .agg #[.string y3.Label, v3]), (20, vm_3), (15, .agg #[.string y2.Label, v2]), (12, vm_2), (7, .agg #[.string y1.Label, v1]), (4, vm_1)] (fun a w => ∃ (x1 : ByteArray) (x2 : ByteArray) (x3 : ByteArray) (b4 b5 b6 : Nat) (g1 : Gh), Fr 209 a [(10, bp b4 0), (9, bp b5 0), (8, bp b6 0), (37, .agg #[.string y3.Label, v3]), (36, (elemP vm_3 b_ 2)), (34, vm_3), (33, bp bm_ 2), (29, .agg #[.string y2.Label, v2]), (28, (elemP vm_2 a_ 2)), (26, vm_2), (25, bp bm_ 1), (21, .agg #[.string y1.Label, v1]), (20, (elemP vm_1 o_ 2)), (18, vm_1), (17, bp bm_ 0), (0, bp bm_ 0), (1, .i6 o_), (2, .i6 a_), (3, .i6 b_)] ∧ Le g g1 ∧ St g1 [[bx b4 #[.string x1, nilS] 50], [bx b5 #[.string x2, nilS] 50], [bx b6 #[.string x3, nilS] 50], [bx bm_ #[vm_1, vm_2, vm_3, vm_4, vm_5] 58], cm_1, cm_2] fr w ∧ syntax_merger__merge.j1 m_ o_ a_ b_ rec_ y1 y2 y3 x1 x2 x3 = some r) ?_ ?_
 ·intro HJ
  refine dv_fork ok1 24 [25, 26] (fk 24 rfl [(23, .agg #[.string y3.Label, v3]), (20, vm_3), (15, .agg #[.string y2.Label, v2]), (12, vm_2), (7, .agg #[.string y1.Label, v1]), (4, vm_1)] ?_ (fk 25 rfl [(23, .agg #[.string y3.Label, v3]), (20, vm_3), (15, .agg #[.string y2.Label, v2]), (12, vm_2), (7, .agg #[.string y1.Label, v1]), (4, vm_1)] ?_ (fk 26 rfl [(23, .agg #[.string y3.Label, v3]), (20, vm_3), (15, .agg #[.string y2.Label, v2]), (12, vm_2), (7, .agg #[.string y1.Label, v1]), (4, vm_1)] ?_ trivial)))
  ·refine wl_alloc (wn rfl) rfl tz50 (cs := [.string ByteArray.empty, nilS]) rfl F S rfl rfl ?_; clear F a S; rintro b1 a w F S
   refine dv_nx ⟨yl_ev rfl rfl (ev_loadA tu50 rfl (cs := [.string y3.Label, v3]) ts50 rfl (ptr_mono (cks := [[bx b1 #[.string ByteArray.empty, nilS] 50], [bx bm_ #[vm_1, vm_2, vm_3, vm_4, vm_5] 58], cm_1, cm_2]) (fr := fr) hp3 (Le.refl _))) F S, yl_ev rfl rfl (ev_load1 tu22 rfl rfl (box_ptr (cells := [vm_3]) 1 rfl 2 rfl (lb rfl))) F S, yl_ev rfl rfl (ev_loadA tu50 rfl (cs := [.string y2.Label, v2]) ts50 rfl (ptr_mono (cks := [[bx b1 #[.string ByteArray.empty, nilS] 50], [bx bm_ #[vm_1, vm_2, vm_3, vm_4, vm_5] 58], cm_1, cm_2]) (fr := fr) hp2 (Le.refl _))) F S, yl_ev rfl rfl (ev_load1 tu22 rfl rfl (box_ptr (cells := [vm_2]) 1 rfl 1 rfl (lb rfl))) F S, yl_ev rfl rfl (ev_loadA tu50 rfl (cs := [.string y1.Label, v1]) ts50 rfl (ptr_mono (cks := [[bx b1 #[.string ByteArray.empty, nilS] 50], [bx bm_ #[vm_1, vm_2, vm_3, vm_4, vm_5] 58], cm_1, cm_2]) (fr := fr) hp1 (Le.refl _))) F S, yl_ev rfl rfl (ev_load1 tu22 rfl rfl (box_ptr (cells := [vm_1]) 1 rfl 0 rfl (lb rfl))) F S, trivial⟩ ?_
   refine dv_fork ok1 25 [26] (fk 25 rfl [(23, .agg #[.string y3.Label, v3]), (20, vm_3), (15, .agg #[.string y2.Label, v2]), (12, vm_2), (7, .agg #[.string y1.Label, v1]), (4, vm_1)] ?_ (fk 26 rfl [(23, .agg #[.string y3.Label, v3]), (20, vm_3), (15, .agg #[.string y2.Label, v2]), (12, vm_2), (7, .agg #[.string y1.Label, v1]), (4, vm_1)] ?_ trivial))
   ·refine wl_alloc (wn rfl) rfl tz50 (cs := [.string ByteArray.empty, nilS]) rfl F S rfl rfl ?_; clear F a S; rintro b2 a w F S
    refine dv_nx ⟨yl_ev rfl rfl (ev_loadA tu50 rfl (cs := [.string y3.Label, v3]) ts50 rfl (ptr_mono (cks := [[bx b2 #[.string ByteArray.empty, nilS] 50], [bx b1 #[.string ByteArray.empty, nilS] 50], [bx bm_ #[vm_1, vm_2, vm_3, vm_4, vm_5] 58], cm_1, cm_2]) (fr := fr) hp3 (Le.refl _))) F S, yl_ev rfl rfl (ev_load1 tu22 rfl rfl (box_ptr (cells := [vm_3]) 2 rfl 2 rfl (lb rfl))) F S, yl_ev rfl rfl (ev_loadA tu50 rfl (cs := [.string y2.Label, v2]) ts50 rfl (ptr_mono (cks := [[bx b2 #[.string ByteArray.empty, nilS] 50], [bx b1 #[.string ByteArray.empty, nilS] 50], [bx bm_ #[vm_1, vm_2, vm_3, vm_4, vm_5] 58], cm_1, cm_2]) (fr := fr) hp2 (Le.refl _))) F S, yl_ev rfl rfl (ev_load1 tu22 rfl rfl (box_ptr (cells := [vm_2]) 2 rfl 1 rfl (lb rfl))) F S, yl_ev rfl rfl (ev_loadA tu50 rfl (cs := [.string y1.Label, v1]) ts50 rfl (ptr_mono (cks := [[bx b2 #[.string ByteArray.empty, nilS] 50], [bx b1 #[.string ByteArray.empty, nilS] 50], [bx bm_ #[vm_1, vm_2, vm_3, vm_4, vm_5] 58], cm_1, cm_2]) (fr := fr) hp1 (Le.refl _))) F S, yl_ev rfl rfl (ev_load1 tu22 rfl rfl (box_ptr (cells := [vm_1]) 2 rfl 0 rfl (lb rfl))) F S, trivial⟩ ?_
    refine dv_op ok1 26 rfl [(23, .agg #[.string y3.Label, v3]), (20, vm_3), (15, .agg #[.string y2.Label, v2]), (12, vm_2), (7, .agg #[.string y1.Label, v1]), (4, vm_1)] ?_
    refine wl_alloc (wn rfl) rfl tz50 (cs := [.string ByteArray.empty, nilS]) rfl F S rfl rfl ?_; clear F a S; rintro b3 a w F S
    refine dv_nx ⟨yl_ev rfl rfl (ev_loadA tu50 rfl (cs := [.string y3.Label, v3]) ts50 rfl (ptr_mono (cks := [[bx b3 #[.string ByteArray.empty, nilS] 50], [bx b2 #[.string ByteArray.empty, nilS] 50], [bx b1 #[.string ByteArray.empty, nilS] 50], [bx bm_ #[vm_1, vm_2, vm_3, vm_4, vm_5] 58], cm_1, cm_2]) (fr := fr) hp3 (Le.refl _))) F S, yl_ev rfl rfl (ev_load1 tu22 rfl rfl (box_ptr (cells := [vm_3]) 3 rfl 2 rfl (lb rfl))) F S, yl_ev rfl rfl (ev_loadA tu50 rfl (cs := [.string y2.Label, v2]) ts50 rfl (ptr_mono (cks := [[bx b3 #[.string ByteArray.empty, nilS] 50], [bx b2 #[.string ByteArray.empty, nilS] 50], [bx b1 #[.string ByteArray.empty, nilS] 50], [bx bm_ #[vm_1, vm_2, vm_3, vm_4, vm_5] 58], cm_1, cm_2]) (fr := fr) hp2 (Le.refl _))) F S, yl_ev rfl rfl (ev_load1 tu22 rfl rfl (box_ptr (cells := [vm_2]) 3 rfl 1 rfl (lb rfl))) F S, yl_ev rfl rfl (ev_loadA tu50 rfl (cs := [.string y1.Label, v1]) ts50 rfl (ptr_mono (cks := [[bx b3 #[.string ByteArray.empty, nilS] 50], [bx b2 #[.string ByteArray.empty, nilS] 50], [bx b1 #[.string ByteArray.empty, nilS] 50], [bx bm_ #[vm_1, vm_2, vm_3, vm_4, vm_5] 58], cm_1, cm_2]) (fr := fr) hp1 (Le.refl _))) F S, yl_ev rfl rfl (ev_load1 tu22 rfl rfl (box_ptr (cells := [vm_1]) 3 rfl 0 rfl (lb rfl))) F S, trivial⟩ ?_
    refine dv_join (HJ _ _ ?_)
    exact ⟨ByteArray.empty, ByteArray.empty, ByteArray.empty, b3, b2, b1, g, F.sub ⟨rfl, rfl, rfl, rfl, rfl, rfl, rfl, rfl, rfl, rfl, rfl, rfl, rfl, rfl, rfl, rfl, rfl, rfl, rfl, trivial⟩, (Le.refl _), S, hm⟩
   ·refine wl_alloc (wn rfl) rfl tz50 (cs := [.string ByteArray.empty, nilS]) rfl F S rfl rfl ?_; clear F a S; rintro b3 a w F S
    refine dv_nx ⟨yl_ev rfl rfl (ev_loadA tu50 rfl (cs := [.string y3.Label, v3]) ts50 rfl (ptr_mono (cks := [[bx b3 #[.string ByteArray.empty, nilS] 50], [bx b1 #[.string ByteArray.empty, nilS] 50], [bx bm_ #[vm_1, vm_2, vm_3, vm_4, vm_5] 58], cm_1, cm_2]) (fr := fr) hp3 (Le.refl _))) F S, yl_ev rfl rfl (ev_load1 tu22 rfl rfl (box_ptr (cells := [vm_3]) 2 rfl 2 rfl (lb rfl))) F S, yl_ev rfl rfl (ev_loadA tu50 rfl (cs := [.string y2.Label, v2]) ts50 rfl (ptr_mono (cks := [[bx b3 #[.string ByteArray.empty, nilS] 50], [bx b1 #[.string ByteArray.empty, nilS] 50], [bx bm_ #[vm_1, vm_2, vm_3, vm_4, vm_5] 58], cm_1, cm_2]) (fr := fr) hp2 (Le.refl _))) F S, yl_ev rfl rfl (ev_load1 tu22 rfl rfl (box_ptr (cells := [vm_2]) 2 rfl 1 rfl (lb rfl))) F S, yl_ev rfl rfl (ev_loadA tu50 rfl (cs := [.string y1.Label, v1]) ts50 rfl (ptr_mono (cks := [[bx b3 #[.string ByteArray.empty, nilS] 50], [bx b1 #[.string ByteArray.empty, nilS] 50], [bx bm_ #[vm_1, vm_2, vm_3, vm_4, vm_5] 58], cm_1, cm_2]) (fr := fr) hp1 (Le.refl _))) F S, yl_ev rfl rfl (ev_load1 tu22 rfl rfl (box_ptr (cells := [vm_1]) 2 rfl 0 rfl (lb rfl))) F S, trivial⟩ ?_
    refine dv_op ok1 25 rfl [(23, .agg #[.string y3.Label, v3]), (20, vm_3), (15, .agg #[.string y2.Label, v2]), (12, vm_2), (7, .agg #[.string y1.Label, v1]), (4, vm_1)] ?_
    refine wl_alloc (wn rfl) rfl tz50 (cs := [.string ByteArray.empty, nilS]) rfl F S rfl rfl ?_; clear F a S; rintro b2 a w F S
    refine dv_nx ⟨yl_ev rfl rfl (ev_loadA tu50 rfl (cs := [.string y3.Label, v3]) ts50 rfl (ptr_mono (cks := [[bx b2 #[.string ByteArray.empty, nilS] 50], [bx b3 #[.string ByteArray.empty, nilS] 50], [bx b1 #[.string ByteArray.empty, nilS] 50], [bx bm_ #[vm_1, vm_2, vm_3, vm_4, vm_5] 58], cm_1, cm_2]) (fr := fr) hp3 (Le.refl _))) F S, yl_ev rfl rfl (ev_load1 tu22 rfl rfl (box_ptr (cells := [vm_3]) 3 rfl 2 rfl (lb rfl))) F S, yl_ev rfl rfl (ev_loadA tu50 rfl (cs := [.string y2.Label, v2]) ts50 rfl (ptr_mono (cks := [[bx b2 #[.string ByteArray.empty, nilS] 50], [bx b3 #[.string ByteArray.empty, nilS] 50], [bx b1 #[.string ByteArray.empty, nilS] 50], [bx bm_ #[vm_1, vm_2, vm_3, vm_4, vm_5] 58], cm_1, cm_2]) (fr := fr) hp2 (Le.refl _))) F S, yl_ev rfl rfl (ev_load1 tu22 rfl rfl (box_ptr (cells := [vm_2]) 3 rfl 1 rfl (lb rfl))) F S, yl_ev rfl rfl (ev_loadA tu50 rfl (cs := [.string y1.Label, v1]) ts50 rfl (ptr_mono (cks := [[bx b2 #[.string ByteArray.empty, nilS] 50], [bx b3 #[.string ByteArray.empty, nilS] 50], [bx b1 #[.string ByteArray.empty, nilS] 50], [bx bm_ #[vm_1, vm_2, vm_3, vm_4, vm_5] 58], cm_1, cm_2]) (fr := fr) hp1 (Le.refl _))) F S, yl_ev rfl rfl (ev_load1 tu22 rfl rfl (box_ptr (cells := [vm_1]) 3 rfl 0 rfl (lb rfl))) F S, trivial⟩ ?_
    refine dv_join (HJ _ _ ?_)
    replace S : St g [[bx b3 #[.string ByteArray.empty, nilS] 50], [bx b2 #[.string ByteArray.empty, nilS] 50], [bx b1 #[.string ByteArray.empty, nilS] 50], [bx bm_ #[vm_1, vm_2, vm_3, vm_4, vm_5] 58], cm_1, cm_2] fr w := St.tail [[bx b3 #[.string ByteArray.empty, nilS] 50], [bx b2 #[.string ByteArray.empty, nilS] 50], [bx b1 #[.string ByteArray.empty, nilS] 50], [bx bm_ #[vm_1, vm_2, vm_3, vm_4, vm_5] 58], cm_1, cm_2] _ ((((((S.frontC 5 rfl).frontC 5 rfl).frontC 5 rfl).frontC 5 rfl).frontC 4 rfl).frontC 6 rfl)
    exact ⟨ByteArray.empty, ByteArray.empty, ByteArray.empty, b3, b2, b1, g, F.sub ⟨rfl, rfl, rfl, rfl, rfl, rfl, rfl, rfl, rfl, rfl, rfl, rfl, rfl, rfl, rfl, rfl, rfl, rfl, rfl, trivial⟩, (Le.refl _), S, hm⟩
  ·refine wl_alloc (wn rfl) rfl tz50 (cs := [.string ByteArray.empty, nilS]) rfl F S rfl rfl ?_; clear F a S; rintro b2 a w F S
   refine dv_nx ⟨yl_ev rfl rfl (ev_loadA tu50 rfl (cs := [.string y3.Label, v3]) ts50 rfl (ptr_mono (cks := [[bx b2 #[.string ByteArray.empty, nilS] 50], [bx bm_ #[vm_1, vm_2, vm_3, vm_4, vm_5] 58], cm_1, cm_2]) (fr := fr) hp3 (Le.refl _))) F S, yl_ev rfl rfl (ev_load1 tu22 rfl rfl (box_ptr (cells := [vm_3]) 1 rfl 2 rfl (lb rfl))) F S, yl_ev rfl rfl (ev_loadA tu50 rfl (cs := [.string y2.Label, v2]) ts50 rfl (ptr_mono (cks := [[bx b2 #[.string ByteArray.empty, nilS] 50], [bx bm_ #[vm_1, vm_2, vm_3, vm_4, vm_5] 58], cm_1, cm_2]) (fr := fr) hp2 (Le.refl _))) F S, yl_ev rfl rfl (ev_load1 tu22 rfl rfl (box_ptr (cells := [vm_2]) 1 rfl 1 rfl (lb rfl))) F S, yl_ev rfl rfl (ev_loadA tu50 rfl (cs := [.string y1.Label, v1]) ts50 rfl (ptr_mono (cks := [[bx b2 #[.string ByteArray.empty, nilS] 50], [bx bm_ #[vm_1, vm_2, vm_3, vm_4, vm_5] 58], cm_1, cm_2]) (fr := fr) hp1 (Le.refl _))) F S, yl_ev rfl rfl (ev_load1 tu22 rfl rfl (box_ptr (cells := [vm_1]) 1 rfl 0 rfl (lb rfl))) F S, trivial⟩ ?_
   refine dv_fork ok1 24 [26] (fk 24 rfl [(23, .agg #[.string y3.Label, v3]), (20, vm_3), (15, .agg #[.string y2.Label, v2]), (12, vm_2), (7, .agg #[.string y1.Label, v1]), (4, vm_1)] ?_ (fk 26 rfl [(23, .agg #[.string y3.Label, v3]), (20, vm_3), (15, .agg #[.string y2.Label, v2]), (12, vm_2), (7, .agg #[.string y1.Label, v1]), (4, vm_1)] ?_ trivial))
   ·refine wl_alloc (wn rfl) rfl tz50 (cs := [.string ByteArray.empty, nilS]) rfl F S rfl rfl ?_; clear F a S; rintro b1 a w F S
    refine dv_nx ⟨yl_ev rfl rfl (ev_loadA tu50 rfl (cs := [.string y3.Label, v3]) ts50 rfl (ptr_mono (cks := [[bx b1 #[.string ByteArray.empty, nilS] 50], [bx b2 #[.string ByteArray.empty, nilS] 50], [bx bm_ #[vm_1, vm_2, vm_3, vm_4, vm_5] 58], cm_1, cm_2]) (fr := fr) hp3 (Le.refl _))) F S, yl_ev rfl rfl (ev_load1 tu22 rfl rfl (box_ptr (cells := [vm_3]) 2 rfl 2 rfl (lb rfl))) F S, yl_ev rfl rfl (ev_loadA tu50 rfl (cs := [.string y2.Label, v2]) ts50 rfl (ptr_mono (cks := [[bx b1 #[.string ByteArray.empty, nilS] 50], [bx b2 #[.string ByteArray.empty, nilS] 50], [bx bm_ #[vm_1, vm_2, vm_3, vm_4, vm_5] 58], cm_1, cm_2]) (fr := fr) hp2 (Le.refl _))) F S, yl_ev rfl rfl (ev_load1 tu22 rfl rfl (box_ptr (cells := [vm_2]) 2 rfl 1 rfl (lb rfl))) F S, yl_ev rfl rfl (ev_loadA tu50 rfl (cs := [.string y1.Label, v1]) ts50 rfl (ptr_mono (cks := [[bx b1 #[.string ByteArray.empty, nilS] 50], [bx b2 #[.string ByteArray.empty, nilS] 50], [bx bm_ #[vm_1, vm_2, vm_3, vm_4, vm_5] 58], cm_1, cm_2]) (fr := fr) hp1 (Le.refl _))) F S, yl_ev rfl rfl (ev_load1 tu22 rfl rfl (box_ptr (cells := [vm_1]) 2 rfl 0 rfl (lb rfl))) F S, trivial⟩ ?_
    refine dv_op ok1 26 rfl [(23, .agg #[.string y3.Label, v3]), (20, vm_3), (15, .agg #[.string y2.Label, v2]), (12, vm_2), (7, .agg #[.string y1.Label, v1]), (4, vm_1)] ?_
    refine wl_alloc (wn rfl) rfl tz50 (cs := [.string ByteArray.empty, nilS]) rfl F S rfl rfl ?_; clear F a S; rintro b3 a w F S
    refine dv_nx ⟨yl_ev rfl rfl (ev_loadA tu50 rfl (cs := [.string y3.Label, v3]) ts50 rfl (ptr_mono (cks := [[bx b3 #[.string ByteArray.empty, nilS] 50], [bx b1 #[.string ByteArray.empty, nilS] 50], [bx b2 #[.string ByteArray.empty, nilS] 50], [bx bm_ #[vm_1, vm_2, vm_3, vm_4, vm_5] 58], cm_1, cm_2]) (fr := fr) hp3 (Le.refl _))) F S, yl_ev rfl rfl (ev_load1 tu22 rfl rfl (box_ptr (cells := [vm_3]) 3 rfl 2 rfl (lb rfl))) F S, yl_ev rfl rfl (ev_loadA tu50 rfl (cs := [.string y2.Label, v2]) ts50 rfl (ptr_mono (cks := [[bx b3 #[.string ByteArray.empty, nilS] 50], [bx b1 #[.string ByteArray.empty, nilS] 50], [bx b2 #[.string ByteArray.empty, nilS] 50], [bx bm_ #[vm_1, vm_2, vm_3, vm_4, vm_5] 58], cm_1, cm_2]) (fr := fr) hp2 (Le.refl _))) F S, yl_ev rfl rfl (ev_load1 tu22 rfl rfl (box_ptr (cells := [vm_2]) 3 rfl 1 rfl (lb rfl))) F S, yl_ev rfl rfl (ev_loadA tu50 rfl (cs := [.string y1.Label, v1]) ts50 rfl (ptr_mono (cks := [[bx b3 #[.string ByteArray.empty, nilS] 50], [bx b1 #[.string ByteArray.empty, nilS] 50], [bx b2 #[.string ByteArray.empty, nilS] 50], [bx bm_ #[vm_1, vm_2, vm_3, vm_4, vm_5] 58], cm_1, cm_2]) (fr := fr) hp1 (Le.refl _))) F S, yl_ev rfl rfl (ev_load1 tu22 rfl rfl (box_ptr (cells := [vm_1]) 3 rfl 0 rfl (lb rfl))) F S, trivial⟩ ?_
    refine dv_join (HJ _ _ ?_)
    replace S : St g [[bx b3 #[.string ByteArray.empty, nilS] 50], [bx b2 #[.string ByteArray.empty, nilS] 50], [bx b1 #[.string ByteArray.empty, nilS] 50], [bx bm_ #[vm_1, vm_2, vm_3, vm_4, vm_5] 58], cm_1, cm_2] fr w := St.tail [[bx b3 #[.string ByteArray.empty, nilS] 50], [bx b2 #[.string ByteArray.empty, nilS] 50], [bx b1 #[.string ByteArray.empty, nilS] 50], [bx bm_ #[vm_1, vm_2, vm_3, vm_4, vm_5] 58], cm_1, cm_2] _ ((((((S.frontC 5 rfl).frontC 5 rfl).frontC 5 rfl).frontC 4 rfl).frontC 6 rfl).frontC 5 rfl)
    exact ⟨ByteArray.empty, ByteArray.empty, ByteArray.empty, b3, b2, b1, g, F.sub ⟨rfl, rfl, rfl, rfl, rfl, rfl, rfl, rfl, rfl, rfl, rfl, rfl, rfl, rfl, rfl, rfl, rfl, rfl, rfl, trivial⟩, (Le.refl _), S, hm⟩
   ·refine wl_alloc (wn rfl) rfl tz50 (cs := [.string ByteArray.empty, nilS]) rfl F S rfl rfl ?_; clear F a S; rintro b3 a w F S
    refine dv_nx ⟨yl_ev rfl rfl (ev_loadA tu50 rfl (cs := [.string y3.Label, v3]) ts50 rfl (ptr_mono (cks := [[bx b3 #[.string ByteArray.empty, nilS] 50], [bx b2 #[.string ByteArray.empty, nilS] 50], [bx bm_ #[vm_1, vm_2, vm_3, vm_4, vm_5] 58], cm_1, cm_2]) (fr := fr) hp3 (Le.refl _))) F S, yl_ev rfl rfl (ev_load1 tu22 rfl rfl (box_ptr (cells := [vm_3]) 2 rfl 2 rfl (lb rfl))) F S, yl_ev rfl rfl (ev_loadA tu50 rfl (cs := [.string y2.Label, v2]) ts50 rfl (ptr_mono (cks := [[bx b3 #[.string ByteArray.empty, nilS] 50], [bx b2 #[.string ByteArray.empty, nilS] 50], [bx bm_ #[vm_1, vm_2, vm_3, vm_4, vm_5] 58], cm_1, cm_2]) (fr := fr) hp2 (Le.refl _))) F S, yl_ev rfl rfl (ev_load1 tu22 rfl rfl (box_ptr (cells := [vm_2]) 2 rfl 1 rfl (lb rfl))) F S, yl_ev rfl rfl (ev_loadA tu50 rfl (cs := [.string y1.Label, v1]) ts50 rfl (ptr_mono (cks := [[bx b3 #[.string ByteArray.empty, nilS] 50], [bx b2 #[.string ByteArray.empty, nilS] 50], [bx bm_ #[vm_1, vm_2, vm_3, vm_4, vm_5] 58], cm_1, cm_2]) (fr := fr) hp1 (Le.refl _))) F S, yl_ev rfl rfl (ev_load1 tu22 rfl rfl (box_ptr (cells := [vm_1]) 2 rfl 0 rfl (lb rfl))) F S, trivial⟩ ?_
    refine dv_op ok1 24 rfl [(23, .agg #[.string y3.Label, v3]), (20, vm_3), (15, .agg #[.string y2.Label, v2]), (12, vm_2), (7, .agg #[.string y1.Label, v1]), (4, vm_1)] ?_
    refine wl_alloc (wn rfl) rfl tz50 (cs := [.string ByteArray.empty, nilS]) rfl F S rfl rfl ?_; clear F a S; rintro b1 a w F S
    refine dv_nx ⟨yl_ev rfl rfl (ev_loadA tu50 rfl (cs := [.string y3.Label, v3]) ts50 rfl (ptr_mono (cks := [[bx b1 #[.string ByteArray.empty, nilS] 50], [bx b3 #[.string ByteArray.empty, nilS] 50], [bx b2 #[.string ByteArray.empty, nilS] 50], [bx bm_ #[vm_1, vm_2, vm_3, vm_4, vm_5] 58], cm_1, cm_2]) (fr := fr) hp3 (Le.refl _))) F S, yl_ev rfl rfl (ev_load1 tu22 rfl rfl (box_ptr (cells := [vm_3]) 3 rfl 2 rfl (lb rfl))) F S, yl_ev rfl rfl (ev_loadA tu50 rfl (cs := [.string y2.Label, v2]) ts50 rfl (ptr_mono (cks := [[bx b1 #[.string ByteArray.empty, nilS] 50], [bx b3 #[.string ByteArray.empty, nilS] 50], [bx b2 #[.string ByteArray.empty, nilS] 50], [bx bm_ #[vm_1, vm_2, vm_3, vm_4, vm_5] 58], cm_1, cm_2]) (fr := fr) hp2 (Le.refl _))) F S, yl_ev rfl rfl (ev_load1 tu22 rfl rfl (box_ptr (cells := [vm_2]) 3 rfl 1 rfl (lb rfl))) F S, yl_ev rfl rfl (ev_loadA tu50 rfl (cs := [.string y1.Label, v1]) ts50 rfl (ptr_mono (cks := [[bx b1 #[.string ByteArray.empty, nilS] 50], [bx b3 #[.string ByteArray.empty, nilS] 50], [bx b2 #[.string ByteArray.empty, nilS] 50], [bx bm_ #[vm_1, vm_2, vm_3, vm_4, vm_5] 58], cm_1, cm_2]) (fr := fr) hp1 (Le.refl _))) F S, yl_ev rfl rfl (ev_load1 tu22 rfl rfl (box_ptr (cells := [vm_1]) 3 rfl 0 rfl (lb rfl))) F S, trivial⟩ ?_
    refine dv_join (HJ _ _ ?_)
    replace S : St g [[bx b3 #[.string ByteArray.empty, nilS] 50], [bx b2 #[.string ByteArray.empty, nilS] 50], [bx b1 #[.string ByteArray.empty, nilS] 50], [bx bm_ #[vm_1, vm_2, vm_3, vm_4, vm_5] 58], cm_1, cm_2] fr w := St.tail [[bx b3 #[.string ByteArray.empty, nilS] 50], [bx b2 #[.string ByteArray.empty, nilS] 50], [bx b1 #[.string ByteArray.empty, nilS] 50], [bx bm_ #[vm_1, vm_2, vm_3, vm_4, vm_5] 58], cm_1, cm_2] _ ((((((S.frontC 5 rfl).frontC 5 rfl).frontC 5 rfl).frontC 3 rfl).frontC 6 rfl).frontC 6 rfl)
    exact ⟨ByteArray.empty, ByteArray.empty, ByteArray.empty, b3, b2, b1, g, F.sub ⟨rfl, rfl, rfl, rfl, rfl, rfl, rfl, rfl, rfl, rfl, rfl, rfl, rfl, rfl, rfl, rfl, rfl, rfl, rfl, trivial⟩, (Le.refl _), S, hm⟩
  ·refine wl_alloc (wn rfl) rfl tz50 (cs := [.string ByteArray.empty, nilS]) rfl F S rfl rfl ?_; clear F a S; rintro b3 a w F S
   refine dv_nx ⟨yl_ev rfl rfl (ev_loadA tu50 rfl (cs := [.string y3.Label, v3]) ts50 rfl (ptr_mono (cks := [[bx b3 #[.string ByteArray.empty, nilS] 50], [bx bm_ #[vm_1, vm_2, vm_3, vm_4, vm_5] 58], cm_1, cm_2]) (fr := fr) hp3 (Le.refl _))) F S, yl_ev rfl rfl (ev_load1 tu22 rfl rfl (box_ptr (cells := [vm_3]) 1 rfl 2 rfl (lb rfl))) F S, yl_ev rfl rfl (ev_loadA tu50 rfl (cs := [.string y2.Label, v2]) ts50 rfl (ptr_mono (cks := [[bx b3 #[.string ByteArray.empty, nilS] 50], [bx bm_ #[vm_1, vm_2, vm_3, vm_4, vm_5] 58], cm_1, cm_2]) (fr := fr) hp2 (Le.refl _))) F S, yl_ev rfl rfl (ev_load1 tu22 rfl rfl (box_ptr (cells := [vm_2]) 1 rfl 1 rfl (lb rfl))) F S, yl_ev rfl rfl (ev_loadA tu50 rfl (cs := [.string y1.Label, v1]) ts50 rfl (ptr_mono (cks := [[bx b3 #[.string ByteArray.empty, nilS] 50], [bx bm_ #[vm_1, vm_2, vm_3, vm_4, vm_5] 58], cm_1, cm_2]) (fr := fr) hp1 (Le.refl _))) F S, yl_ev rfl rfl (ev_load1 tu22 rfl rfl (box_ptr (cells := [vm_1]) 1 rfl 0 rfl (lb rfl))) F S, trivial⟩ ?_
   refine dv_fork ok1 24 [25] (fk 24 rfl [(23, .agg #[.string y3.Label, v3]), (20, vm_3), (15, .agg #[.string y2.Label, v2]), (12, vm_2), (7, .agg #[.string y1.Label, v1]), (4, vm_1)] ?_ (fk 25 rfl [(23, .agg #[.string y3.Label, v3]), (20, vm_3), (15, .agg #[.string y2.Label, v2]), (12, vm_2), (7, .agg #[.string y1.Label, v1]), (4, vm_1)] ?_ trivial))
   ·refine wl_alloc (wn rfl) rfl tz50 (cs := [.string ByteArray.empty, nilS]) rfl F S rfl rfl ?_; clear F a S; rintro b1 a w F S
    refine dv_nx ⟨yl_ev rfl rfl (ev_loadA tu50 rfl (cs := [.string y3.Label, v3]) ts50 rfl (ptr_mono (cks := [[bx b1 #[.string ByteArray.empty, nilS] 50], [bx b3 #[.string ByteArray.empty, nilS] 50], [bx bm_ #[vm_1, vm_2, vm_3, vm_4, vm_5] 58], cm_1, cm_2]) (fr := fr) hp3 (Le.refl _))) F S, yl_ev rfl rfl (ev_load1 tu22 rfl rfl (box_ptr (cells := [vm_3]) 2 rfl 2 rfl (lb rfl))) F S, yl_ev rfl rfl (ev_loadA tu50 rfl (cs := [.string y2.Label, v2]) ts50 rfl (ptr_mono (cks := [[bx b1 #[.string ByteArray.empty, nilS] 50], [bx b3 #[.string ByteArray.empty, nilS] 50], [bx bm_ #[vm_1, vm_2, vm_3, vm_4, vm_5] 58], cm_1, cm_2]) (fr := fr) hp2 (Le.refl _))) F S, yl_ev rfl rfl (ev_load1 tu22 rfl rfl (box_ptr (cells := [vm_2]) 2 rfl 1 rfl (lb rfl))) F S, yl_ev rfl rfl (ev_loadA tu50 rfl (cs := [.string y1.Label, v1]) ts50 rfl (ptr_mono (cks := [[bx b1 #[.string ByteArray.empty, nilS] 50], [bx b3 #[.string ByteArray.empty, nilS] 50], [bx bm_ #[vm_1, vm_2, vm_3, vm_4, vm_5] 58], cm_1, cm_2]) (fr := fr) hp1 (Le.refl _))) F S, yl_ev rfl rfl (ev_load1 tu22 rfl rfl (box_ptr (cells := [vm_1]) 2 rfl 0 rfl (lb rfl))) F S, trivial⟩ ?_
    refine dv_op ok1 25 rfl [(23, .agg #[.string y3.Label, v3]), (20, vm_3), (15, .agg #[.string y2.Label, v2]), (12, vm_2), (7, .agg #[.string y1.Label, v1]), (4, vm_1)] ?_
    refine wl_alloc (wn rfl) rfl tz50 (cs := [.string ByteArray.empty, nilS]) rfl F S rfl rfl ?_; clear F a S; rintro b2 a w F S
    refine dv_nx ⟨yl_ev rfl rfl (ev_loadA tu50 rfl (cs := [.string y3.Label, v3]) ts50 rfl (ptr_mono (cks := [[bx b2 #[.string ByteArray.empty, nilS] 50], [bx b1 #[.string ByteArray.empty, nilS] 50], [bx b3 #[.string ByteArray.empty, nilS] 50], [bx bm_ #[vm_1, vm_2, vm_3, vm_4, vm_5] 58], cm_1, cm_2]) (fr := fr) hp3 (Le.refl _))) F S, yl_ev rfl rfl (ev_load1 tu22 rfl rfl (box_ptr (cells := [vm_3]) 3 rfl 2 rfl (lb rfl))) F S, yl_ev rfl rfl (ev_loadA tu50 rfl (cs := [.string y2.Label, v2]) ts50 rfl (ptr_mono (cks := [[bx b2 #[.string ByteArray.empty, nilS] 50], [bx b1 #[.string ByteArray.empty, nilS] 50], [bx b3 #[.string ByteArray.empty, nilS] 50], [bx bm_ #[vm_1, vm_2, vm_3, vm_4, vm_5] 58], cm_1, cm_2]) (fr := fr) hp2 (Le.refl _))) F S, yl_ev rfl rfl (ev_load1 tu22 rfl rfl (box_ptr (cells := [vm_2]) 3 rfl 1 rfl (lb rfl))) F S, yl_ev rfl rfl (ev_loadA tu50 rfl (cs := [.string y1.Label, v1]) ts50 rfl (ptr_mono (cks := [[bx b2 #[.string ByteArray.empty, nilS] 50], [bx b1 #[.string ByteArray.empty, nilS] 50], [bx b3 #[.string ByteArray.empty, nilS] 50], [bx bm_ #[vm_1, vm_2, vm_3, vm_4, vm_5] 58], cm_1, cm_2]) (fr := fr) hp1 (Le.refl _))) F S, yl_ev rfl rfl (ev_load1 tu22 rfl rfl (box_ptr (cells := [vm_1]) 3 rfl 0 rfl (lb rfl))) F S, trivial⟩ ?_
    refine dv_join (HJ _ _ ?_)
    replace S : St g [[bx b3 #[.string ByteArray.empty, nilS] 50], [bx b2 #[.string ByteArray.empty, nilS] 50], [bx b1 #[.string ByteArray.empty, nilS] 50], [bx bm_ #[vm_1, vm_2, vm_3, vm_4, vm_5] 58], cm_1, cm_2] fr w := St.tail [[bx b3 #[.string ByteArray.empty, nilS] 50], [bx b2 #[.string ByteArray.empty, nilS] 50], [bx b1 #[.string ByteArray.empty, nilS] 50], [bx bm_ #[vm_1, vm_2, vm_3, vm_4, vm_5] 58], cm_1, cm_2] _ ((((((S.frontC 5 rfl).frontC 5 rfl).frontC 5 rfl).frontC 4 rfl).frontC 4 rfl).frontC 7 rfl)
    exact ⟨ByteArray.empty, ByteArray.empty, ByteArray.empty, b3, b2, b1, g, F.sub ⟨rfl, rfl, rfl, rfl, rfl, rfl, rfl, rfl, rfl, rfl, rfl, rfl, rfl, rfl, rfl, rfl, rfl, rfl, rfl, trivial⟩, (Le.refl _), S, hm⟩
   ·refine wl_alloc (wn rfl) rfl tz50 (cs := [.string ByteArray.empty, nilS]) rfl F S rfl rfl ?_; clear F a S; rintro b2 a w F S
    refine dv_nx ⟨yl_ev rfl rfl (ev_loadA tu50 rfl (cs := [.string y3.Label, v3]) ts50 rfl (ptr_mono (cks := [[bx b2 #[.string ByteArray.empty, nilS] 50], [bx b3 #[.string ByteArray.empty, nilS] 50], [bx bm_ #[vm_1, vm_2, vm_3, vm_4, vm_5] 58], cm_1, cm_2]) (fr := fr) hp3 (Le.refl _))) F S, yl_ev rfl rfl (ev_load1 tu22 rfl rfl (box_ptr (cells := [vm_3]) 2 rfl 2 rfl (lb rfl))) F S, yl_ev rfl rfl (ev_loadA tu50 rfl (cs := [.string y2.Label, v2]) ts50 rfl (ptr_mono (cks := [[bx b2 #[.string ByteArray.empty, nilS] 50], [bx b3 #[.string ByteArray.empty, nilS] 50], [bx bm_ #[vm_1, vm_2, vm_3, vm_4, vm_5] 58], cm_1, cm_2]) (fr := fr) hp2 (Le.refl _))) F S, yl_ev rfl rfl (ev_load1 tu22 rfl rfl (box_ptr (cells := [vm_2]) 2 rfl 1 rfl (lb rfl))) F S, yl_ev rfl rfl (ev_loadA tu50 rfl (cs := [.string y1.Label, v1]) ts50 rfl (ptr_mono (cks := [[bx b2 #[.string ByteArray.empty, nilS] 50], [bx b3 #[.string ByteArray.empty, nilS] 50], [bx bm_ #[vm_1, vm_2, vm_3, vm_4, vm_5] 58], cm_1, cm_2]) (fr := fr) hp1 (Le.refl _))) F S, yl_ev rfl rfl (ev_load1 tu22 rfl rfl (box_ptr (cells := [vm_1]) 2 rfl 0 rfl (lb rfl))) F S, trivial⟩ ?_
    refine dv_op ok1 24 rfl [(23, .agg #[.string y3.Label, v3]), (20, vm_3), (15, .agg #[.string y2.Label, v2]), (12, vm_2), (7, .agg #[.string y1.Label, v1]), (4, vm_1)] ?_
    refine wl_alloc (wn rfl) rfl tz50 (cs := [.string ByteArray.empty, nilS]) rfl F S rfl rfl ?_; clear F a S; rintro b1 a w F S
    refine dv_nx ⟨yl_ev rfl rfl (ev_loadA tu50 rfl (cs := [.string y3.Label, v3]) ts50 rfl (ptr_mono (cks := [[bx b1 #[.string ByteArray.empty, nilS] 50], [bx b2 #[.string ByteArray.empty, nilS] 50], [bx b3 #[.string ByteArray.empty, nilS] 50], [bx bm_ #[vm_1, vm_2, vm_3, vm_4, vm_5] 58], cm_1, cm_2]) (fr := fr) hp3 (Le.refl _))) F S, yl_ev rfl rfl (ev_load1 tu22 rfl rfl (box_ptr (cells := [vm_3]) 3 rfl 2 rfl (lb rfl))) F S, yl_ev rfl rfl (ev_loadA tu50 rfl (cs := [.string y2.Label, v2]) ts50 rfl (ptr_mono (cks := [[bx b1 #[.string ByteArray.empty, nilS] 50], [bx b2 #[.string ByteArray.empty, nilS] 50], [bx b3 #[.string ByteArray.empty, nilS] 50], [bx bm_ #[vm_1, vm_2, vm_3, vm_4, vm_5] 58], cm_1, cm_2]) (fr := fr) hp2 (Le.refl _))) F S, yl_ev rfl rfl (ev_load1 tu22 rfl rfl (box_ptr (cells := [vm_2]) 3 rfl 1 rfl (lb rfl))) F S, yl_ev rfl rfl (ev_loadA tu50 rfl (cs := [.string y1.Label, v1]) ts50 rfl (ptr_mono (cks := [[bx b1 #[.string ByteArray.empty, nilS] 50], [bx b2 #[.string ByteArray.empty, nilS] 50], [bx b3 #[.string ByteArray.empty, nilS] 50], [bx bm_ #[vm_1, vm_2, vm_3, vm_4, vm_5] 58], cm_1, cm_2]) (fr := fr) hp1 (Le.refl _))) F S, yl_ev rfl rfl (ev_load1 tu22 rfl rfl (box_ptr (cells := [vm_1]) 3 rfl 0 rfl (lb rfl))) F S, trivial⟩ ?_
    refine dv_join (HJ _ _ ?_)
    replace S : St g [[bx b3 #[.string ByteArray.empty, nilS] 50], [bx b2 #[.string ByteArray.empty, nilS] 50], [bx b1 #[.string ByteArray.empty, nilS] 50], [bx bm_ #[vm_1, vm_2, vm_3, vm_4, vm_5] 58], cm_1, cm_2] fr w := St.tail [[bx b3 #[.string ByteArray.empty, nilS] 50], [bx b2 #[.string ByteArray.empty, nilS] 50], [bx b1 #[.string ByteArray.empty, nilS] 50], [bx bm_ #[vm_1, vm_2, vm_3, vm_4, vm_5] 58], cm_1, cm_2] _ ((((((S.frontC 5 rfl).frontC 5 rfl).frontC 5 rfl).frontC 3 rfl).frontC 5 rfl).frontC 7 rfl)
    exact ⟨ByteArray.empty, ByteArray.empty, ByteArray.empty, b3, b2, b1, g, F.sub ⟨rfl, rfl, rfl, rfl, rfl, rfl, rfl, rfl, rfl, rfl, rfl, rfl, rfl, rfl, rfl, rfl, rfl, rfl, rfl, trivial⟩, (Le.refl _), S, hm⟩
 ·clear F S hm; rintro a w ⟨x1, x2, x3, b4, b5, b6, g1, F, l1, S, hm⟩
  refine dv_op ok1 27 rfl [(23, .agg #[.string y3.Label, v3]), (20, vm_3), (15, .agg #[.string y2.Label, v2]), (12, vm_2)] ?_
  refine wl_storeC (wn rfl) rfl F S rfl rfl (vs := [.string y1.Label, v1]) rfl ts50 (one_cons rfl (one_cons h1.one one_nil)) (k := 2) rfl (lb rfl) (c' := #[.string y1.Label, v1]) rfl rfl ?_; clear S; intro w S
  refine dv_nx ⟨yl_ev rfl rfl (ev_loadA tu50 rfl (cs := [.string y3.Label, v3]) ts50 rfl (ptr_mono (cks := [[bx b4 #[.string x1, nilS] 50], [bx b5 #[.string x2, nilS] 50], [bx b6 #[.string y1.Label, v1] 50], [bx bm_ #[vm_1, vm_2, vm_3, vm_4, vm_5] 58], cm_1, cm_2]) (fr := fr) hp3 l1)) F S, yl_ev rfl rfl (ev_load1 tu22 rfl rfl (box_ptr (cells := [vm_3]) 3 rfl 2 rfl (lb rfl))) F S, yl_ev rfl rfl (ev_loadA tu50 rfl (cs := [.string y2.Label, v2]) ts50 rfl (ptr_mono (cks := [[bx b4 #[.string x1, nilS] 50], [bx b5 #[.string x2, nilS] 50], [bx b6 #[.string y1.Label, v1] 50], [bx bm_ #[vm_1, vm_2, vm_3, vm_4, vm_5] 58], cm_1, cm_2]) (fr := fr) hp2 l1)) F S, yl_ev rfl rfl (ev_load1 tu22 rfl rfl (box_ptr (cells := [vm_2]) 3 rfl 1 rfl (lb rfl))) F S, trivial⟩ ?_
  refine dv_op ok1 28 rfl [(23, .agg #[.string y3.Label, v3]), (20, vm_3)] ?_
  refine wl_storeC (wn rfl) rfl F S rfl rfl (vs := [.string y2.Label, v2]) rfl ts50 (one_cons rfl (one_cons h2.one one_nil)) (k := 1) rfl (lb rfl) (c' := #[.string y2.Label, v2]) rfl rfl ?_; clear S; intro w S
  refine dv_nx ⟨yl_ev rfl rfl (ev_loadA tu50 rfl (cs := [.string y3.Label, v3]) ts50 rfl (ptr_mono (cks := [[bx b4 #[.string x1, nilS] 50], [bx b5 #[.string y2.Label, v2] 50], [bx b6 #[.string y1.Label, v1] 50], [bx bm_ #[vm_1, vm_2, vm_3, vm_4, vm_5] 58], cm_1, cm_2]) (fr := fr) hp3 l1)) F S, yl_ev rfl rfl (ev_load1 tu22 rfl rfl (box_ptr (cells := [vm_3]) 3 rfl 2 rfl (lb rfl))) F S, trivial⟩ ?_
  refine dv_op ok1 29 rfl [] ?_
  refine wl_storeC (wn rfl) rfl F S rfl rfl (vs := [.string y3.Label, v3]) rfl ts50 (one_cons rfl (one_cons h3.one one_nil)) (k := 0) rfl (lb rfl) (c' := #[.string y3.Label, v3]) rfl rfl ?_; clear S; intro w S
  refine dv_nx trivial ?_
  refine dv_fin ok1 ?_
  refine then_n ?_
  refine wp_seq ?_
  refine wp_region_lit ?_
  refine wE (ev_fieldAddr' tu50 tf50_1 (z := 0) ts38 rfl ⟨_, rfl⟩ rfl) F S rfl fun a F=>?_
  refine wE (ev_load1 tu38 rfl rfl (box_ptr (cells := [v1]) 2 rfl 1 rfl (lb rfl))) F S rfl fun a F=>?_
  refine wE (ev_lenSh h1 rfl tu38) F S rfl fun a F=>?_
  refine wE (ev_assign rfl) F S rfl fun a F=>?_
  refine wpList_nil ?_
  refine then_n ?_
  refine wp_cut1 (fun a w => ∃ (x4 : List Node) (x5 : List Node) (x6 : List Node) (x7 : List Node) (x8 : List Int) (v4 v5 v6 v7 v8 : Value) (c1 c2 : Hl) (g2 : Gh), Fr 209 a [(0, bp bm_ 0)] ∧ Le g1 g2 ∧ St g2 [[bx bm_ #[v4, v5, v6, v7, v8] 58], c1, c2] fr w ∧ RepSl g2 x4 v4 ∧ RepSl g2 x5 v5 ∧ RepSl g2 x6 v6 ∧ OwnS g2 x7 v7 c1 ∧ OwnS g2 x8 v8 c2 ∧ syntax_merger__merge.j2 x4 x5 x6 x7 x8 = some r) ?_ ?_
  ·refine wp_block ?_
   refine wp_seq ?_
   refine wp_quiet mo (by kernel_rfl) S ?_
   refine wq_ev (wn rfl) (ev_move rfl) F rfl rfl ?_; clear F a; intro a F
   refine wq_ev (wn rfl) (ev_nil rfl) F rfl rfl ?_; clear F a; intro a F
   refine wq_ev (wn rfl) (ev_fieldAddr' tu58 tf58_2 (z := 0) ts24 rfl ⟨_, rfl⟩ rfl) F rfl rfl ?_; clear F a; intro a F
   refine wq_ev (wn rfl) (ev_loadA tu24 rfl (cs := [vm_3]) ts24 rfl (box_ptr (cells := [vm_3]) 3 rfl 2 rfl (lb rfl))) F rfl rfl ?_; clear F a; intro a F
   refine wq_ev (wn rfl) (ev_move rfl) F rfl rfl ?_; clear F a; intro a F
   refine wq_ev (wn rfl) (ev_move rfl) F rfl rfl ?_; clear F a; intro a F
   refine wq_ev (wn rfl) (ev_nil rfl) F rfl rfl ?_; clear F a; intro a F
   refine wq_ev (wn rfl) (ev_fieldAddr' tu58 tf58_0 (z := 0) ts24 rfl ⟨_, rfl⟩ rfl) F rfl rfl ?_; clear F a; intro a F
   refine wq_ev (wn rfl) (ev_loadA tu24 rfl (cs := [vm_1]) ts24 rfl (box_ptr (cells := [vm_1]) 3 rfl 0 rfl (lb rfl))) F rfl rfl ?_; clear F a; intro a F
   refine wq_ev (wn rfl) (ev_move rfl) F rfl rfl ?_; clear F a; intro a F
   obtain ⟨y4, hy4, hm⟩ := bind_some hm
   refine wq_call (wn rfl) rfl (xs := [.tmp 67, .tmp 68, .tmp 72, .tmp 73]) (vs := [.agg #[vm_3], .i6 b_, .agg #[vm_1], .i6 o_]) (cap := []) F rfl rfl tc37 (v := .bool y4) (fun w S => (syntax_equal_ok (g := g1) (fr := (fl [[bx b4 #[.string y3.Label, v3] 50], [bx b5 #[.string y2.Label, v2] 50], [bx b6 #[.string y1.Label, v1] 50], [bx bm_ #[vm_1, vm_2, vm_3, vm_4, vm_5] 58], cm_1, cm_2] fr)) (w := w) m_.right vm_3 (hm_3.mono l1) b_ m_.base vm_1 (hm_1.mono l1) o_ S hy4).mono (by rintro en w' ⟨_, rfl, g2, l2, S2, rfl⟩; exact ⟨rfl, S2.weak l2⟩)) rfl rfl ?_; clear F a; intro a F
   refine wq_ev (wn rfl) (ev_move rfl) F rfl rfl ?_; clear F a; intro a F
   obtain ⟨x9, hx1, hm⟩ := bind_some hm
   refine wq_cut 12 (fun a => Fr 209 a [(87, .bool x9), (11, .i6 (y1.Children.length : Int)), (10, bp b4 0), (9, bp b5 0), (8, bp b6 0), (0, bp bm_ 0), (1, .i6 o_), (2, .i6 a_), (3, .i6 b_)]) ?_ ?_
   ·clear hm; obtain ⟨hc1, hm⟩ | ⟨hc1, hm⟩ := ite_or hx1
    ·refine wq_skip rfl rfl rfl rfl (ne_ft hc1) F rfl rfl ?_; clear F a; intro a F
     refine wq_skip rfl rfl rfl rfl (ne_ft hc1) F rfl rfl ?_; clear F a; intro a F
     refine wq_skip rfl rfl rfl rfl (ne_ft hc1) F rfl rfl ?_; clear F a; intro a F
     refine wq_skip rfl rfl rfl rfl (ne_ft hc1) F rfl rfl ?_; clear F a; intro a F
     refine wq_skip rfl rfl rfl rfl (ne_ft hc1) F rfl rfl ?_; clear F a; intro a F
     refine wq_skip rfl rfl rfl rfl (ne_ft hc1) F rfl rfl ?_; clear F a; intro a F
     refine wq_skip rfl rfl rfl rfl (ne_ft hc1) F rfl rfl ?_; clear F a; intro a F
     refine wq_skip rfl rfl rfl rfl (ne_ft hc1) F rfl rfl ?_; clear F a; intro a F
     refine wq_skip rfl rfl rfl rfl (ne_ft hc1) F rfl rfl ?_; clear F a; intro a F
     refine wq_skip rfl rfl rfl rfl (ne_ft hc1) F rfl rfl ?_; clear F a; intro a F
     refine wq_skip rfl rfl rfl rfl (ne_ft hc1) F rfl rfl ?_; clear F a; intro a F
     refine wq_ev (wn rfl) (ev_pickT rfl hc1 rfl) F rfl rfl ?_; clear F a; intro a F
     obtain rfl := sinj hm
     refine wq_nil ?_; exact F.sub ⟨rfl, rfl, rfl, rfl, rfl, rfl, rfl, rfl, rfl, trivial⟩
    ·refine wq_ev (wg F rfl rfl rfl rfl hc1) (ev_move rfl) F rfl rfl ?_; clear F a; intro a F
     refine wq_ev (wg F rfl rfl rfl rfl hc1) (ev_nil rfl) F rfl rfl ?_; clear F a; intro a F
     refine wq_ev (wg F rfl rfl rfl rfl hc1) (ev_fieldAddr' tu58 tf58_2 (z := 0) ts24 rfl ⟨_, rfl⟩ rfl) F rfl rfl ?_; clear F a; intro a F
     refine wq_ev (wg F rfl rfl rfl rfl hc1) (ev_loadA tu24 rfl (cs := [vm_3]) ts24 rfl (box_ptr (cells := [vm_3]) 3 rfl 2 rfl (lb rfl))) F rfl rfl ?_; clear F a; intro a F
     refine wq_ev (wg F rfl rfl rfl rfl hc1) (ev_move rfl) F rfl rfl ?_; clear F a; intro a F
     refine wq_ev (wg F rfl rfl rfl rfl hc1) (ev_move rfl) F rfl rfl ?_; clear F a; intro a F
     refine wq_ev (wg F rfl rfl rfl rfl hc1) (ev_nil rfl) F rfl rfl ?_; clear F a; intro a F
     refine wq_ev (wg F rfl rfl rfl rfl hc1) (ev_fieldAddr' tu58 tf58_1 (z := 0) ts24 rfl ⟨_, rfl⟩ rfl) F rfl rfl ?_; clear F a; intro a F
     refine wq_ev (wg F rfl rfl rfl rfl hc1) (ev_loadA tu24 rfl (cs := [vm_2]) ts24 rfl (box_ptr (cells := [vm_2]) 3 rfl 1 rfl (lb rfl))) F rfl rfl ?_; clear F a; intro a F
     refine wq_ev (wg F rfl rfl rfl rfl hc1) (ev_move rfl) F rfl rfl ?_; clear F a; intro a F
     obtain ⟨y5, hy5, hm⟩ := bind_some hm
     refine wq_call (wg F rfl rfl rfl rfl hc1) rfl (xs := [.tmp 79, .tmp 80, .tmp 84, .tmp 85]) (vs := [.agg #[vm_3], .i6 b_, .agg #[vm_2], .i6 a_]) (cap := []) F rfl rfl tc37 (v := .bool y5) (fun w S => (syntax_equal_ok (g := g1) (fr := (fl [[bx b4 #[.string y3.Label, v3] 50], [bx b5 #[.string y2.Label, v2] 50], [bx b6 #[.string y1.Label, v1] 50], [bx bm_ #[vm_1, vm_2, vm_3, vm_4, vm_5] 58], cm_1, cm_2] fr)) (w := w) m_.right vm_3 (hm_3.mono l1) b_ m_.left vm_2 (hm_2.mono l1) a_ S hy5).mono (by rintro en w' ⟨_, rfl, g2, l2, S2, rfl⟩; exact ⟨rfl, S2.weak l2⟩)) rfl rfl ?_; clear F a; intro a F
     refine wq_ev (wn rfl) (ev_pickF rfl hc1 rfl) F rfl rfl ?_; clear F a; intro a F
     obtain rfl := sinj hm
     refine wq_nil ?_; exact F.sub ⟨rfl, rfl, rfl, rfl, rfl, rfl, rfl, rfl, rfl, trivial⟩
   clear F; intro a F
   refine wq_ev (wn rfl) (ev_assign rfl) F rfl rfl ?_; clear F a; intro a F
   refine wq_nil ?_; clear S; intro w S
   refine then_n ?_
   obtain ⟨hc2, hm⟩ | ⟨hc2, hm⟩ := ite_or hm
   ·refine wp_condT F rfl hc2 ?_
    refine wp_region_lit ?_
    refine wE (ev_move rfl) F S rfl fun a F=>?_
    refine wE (ev_move rfl) F S rfl fun a F=>?_
    refine wE (ev_nil rfl) F S rfl fun a F=>?_
    refine wE (ev_fieldAddr' tu58 tf58_1 (z := 0) ts24 rfl ⟨_, rfl⟩ rfl) F S rfl fun a F=>?_
    refine wE (ev_loadA tu24 rfl (cs := [vm_2]) ts24 rfl (box_ptr (cells := [vm_2]) 3 rfl 1 rfl (lb rfl))) F S rfl fun a F=>?_
    refine wE (ev_move rfl) F S rfl fun a F=>?_
    replace S : St g1 [[bx bm_ #[vm_1, vm_2, vm_3, vm_4, vm_5] 58], cm_1, cm_2, [bx b4 #[.string y3.Label, v3] 50], [bx b5 #[.string y2.Label, v2] 50], [bx b6 #[.string y1.Label, v1] 50]] fr w := ((((((S.frontC 2 rfl).frontC 2 rfl).frontC 2 rfl).frontC 8 rfl).frontC 8 rfl).frontC 8 rfl)
    obtain ⟨y6, hy6, hm⟩ := bind_some hm
    refine wl_call0 (wn rfl) rfl F rfl (syntax_merger__copy_ok (fr := (fl [[bx b4 #[.string y3.Label, v3] 50], [bx b5 #[.string y2.Label, v2] 50], [bx b6 #[.string y1.Label, v1] 50]] fr)) bm_ m_ vm_1 (hm_1.mono l1) vm_2 (hm_2.mono l1) vm_3 (hm_3.mono l1) vm_4 cm_1 (hm_4.mono l1) vm_5 cm_2 (hm_5.mono l1) m_.left vm_2 (hm_2.mono l1) a_ S hy6) rfl tc38 rfl rfl ?_; clear F a S
    rintro _ a w ⟨g5, v9, v10, v11, v12, v13, c3, c4, l5, S, h9, h10, h11, h12, h13, rfl⟩ F; replace S : St g5 [[bx bm_ #[v9, v10, v11, v12, v13] 58], c3, c4, [bx b4 #[.string y3.Label, v3] 50], [bx b5 #[.string y2.Label, v2] 50], [bx b6 #[.string y1.Label, v1] 50]] fr w := S
    refine wpList_nil ?_
    refine inb_n ?_
    refine then_n ?_
    replace S : St g5 [[bx bm_ #[v9, v10, v11, v12, v13] 58], c3, c4] fr w := St.tail [[bx bm_ #[v9, v10, v11, v12, v13] 58], c3, c4] _ (((S.frontC 2 rfl).frontC 2 rfl).frontC 2 rfl)
    exact ⟨y6.base.Nodes, y6.left.Nodes, y6.right.Nodes, y6.out, y6.bad, v9, v10, v11, v12, v13, c3, c4, g5, F.sub ⟨rfl, trivial⟩, l5, S, h9, h10, h11, h12, h13, hm⟩
   ·refine wp_condF F rfl hc2 ?_
    refine wp_seq ?_
    refine wp_quiet mo (by kernel_rfl) S ?_
    refine wq_ev (wn rfl) (ev_move rfl) F rfl rfl ?_; clear F a; intro a F
    refine wq_ev (wn rfl) (ev_nil rfl) F rfl rfl ?_; clear F a; intro a F
    refine wq_ev (wn rfl) (ev_fieldAddr' tu58 tf58_1 (z := 0) ts24 rfl ⟨_, rfl⟩ rfl) F rfl rfl ?_; clear F a; intro a F
    refine wq_ev (wn rfl) (ev_loadA tu24 rfl (cs := [vm_2]) ts24 rfl (box_ptr (cells := [vm_2]) 3 rfl 1 rfl (lb rfl))) F rfl rfl ?_; clear F a; intro a F
    refine wq_ev (wn rfl) (ev_move rfl) F rfl rfl ?_; clear F a; intro a F
    refine wq_ev (wn rfl) (ev_move rfl) F rfl rfl ?_; clear F a; intro a F
    refine wq_ev (wn rfl) (ev_nil rfl) F rfl rfl ?_; clear F a; intro a F
    refine wq_ev (wn rfl) (ev_fieldAddr' tu58 tf58_0 (z := 0) ts24 rfl ⟨_, rfl⟩ rfl) F rfl rfl ?_; clear F a; intro a F
    refine wq_ev (wn rfl) (ev_loadA tu24 rfl (cs := [vm_1]) ts24 rfl (box_ptr (cells := [vm_1]) 3 rfl 0 rfl (lb rfl))) F rfl rfl ?_; clear F a; intro a F
    refine wq_ev (wn rfl) (ev_move rfl) F rfl rfl ?_; clear F a; intro a F
    obtain ⟨y7, hy7, hm⟩ := bind_some hm
    refine wq_call (wn rfl) rfl (xs := [.tmp 99, .tmp 100, .tmp 104, .tmp 105]) (vs := [.agg #[vm_2], .i6 a_, .agg #[vm_1], .i6 o_]) (cap := []) F rfl rfl tc37 (v := .bool y7) (fun w S => (syntax_equal_ok (g := g1) (fr := (fl [[bx b4 #[.string y3.Label, v3] 50], [bx b5 #[.string y2.Label, v2] 50], [bx b6 #[.string y1.Label, v1] 50], [bx bm_ #[vm_1, vm_2, vm_3, vm_4, vm_5] 58], cm_1, cm_2] fr)) (w := w) m_.left vm_2 (hm_2.mono l1) a_ m_.base vm_1 (hm_1.mono l1) o_ S hy7).mono (by rintro en w' ⟨_, rfl, g2, l2, S2, rfl⟩; exact ⟨rfl, S2.weak l2⟩)) rfl rfl ?_; clear F a; intro a F
    refine wq_ev (wn rfl) (ev_assign rfl) F rfl rfl ?_; clear F a; intro a F
    refine wq_nil ?_; clear S; intro w S
    refine then_n ?_
    obtain ⟨hc3, hm⟩ | ⟨hc3, hm⟩ := ite_or hm
    ·refine wp_condT F rfl hc3 ?_
     refine wp_region_lit ?_
     refine wE (ev_move rfl) F S rfl fun a F=>?_
     refine wE (ev_move rfl) F S rfl fun a F=>?_
     refine wE (ev_nil rfl) F S rfl fun a F=>?_
     refine wE (ev_fieldAddr' tu58 tf58_2 (z := 0) ts24 rfl ⟨_, rfl⟩ rfl) F S rfl fun a F=>?_
     refine wE (ev_loadA tu24 rfl (cs := [vm_3]) ts24 rfl (box_ptr (cells := [vm_3]) 3 rfl 2 rfl (lb rfl))) F S rfl fun a F=>?_
     refine wE (ev_move rfl) F S rfl fun a F=>?_
     replace S : St g1 [[bx bm_ #[vm_1, vm_2, vm_3, vm_4, vm_5] 58], cm_1, cm_2, [bx b4 #[.string y3.Label, v3] 50], [bx b5 #[.string y2.Label, v2] 50], [bx b6 #[.string y1.Label, v1] 50]] fr w := ((((((S.frontC 2 rfl).frontC 2 rfl).frontC 2 rfl).frontC 8 rfl).frontC 8 rfl).frontC 8 rfl)
     obtain ⟨y8, hy8, hm⟩ := bind_some hm
     refine wl_call0 (wn rfl) rfl F rfl (syntax_merger__copy_ok (fr := (fl [[bx b4 #[.string y3.Label, v3] 50], [bx b5 #[.string y2.Label, v2] 50], [bx b6 #[.string y1.Label, v1] 50]] fr)) bm_ m_ vm_1 (hm_1.mono l1) vm_2 (hm_2.mono l1) vm_3 (hm_3.mono l1) vm_4 cm_1 (hm_4.mono l1) vm_5 cm_2 (hm_5.mono l1) m_.right vm_3 (hm_3.mono l1) b_ S hy8) rfl tc38 rfl rfl ?_; clear F a S
     rintro _ a w ⟨g7, v14, v15, v16, v17, v18, c5, c6, l7, S, h14, h15, h16, h17, h18, rfl⟩ F; replace S : St g7 [[bx bm_ #[v14, v15, v16, v17, v18] 58], c5, c6, [bx b4 #[.string y3.Label, v3] 50], [bx b5 #[.string y2.Label, v2] 50], [bx b6 #[.string y1.Label, v1] 50]] fr w := S
     refine wpList_nil ?_
     refine inb_n ?_
     refine then_n ?_
     replace S : St g7 [[bx bm_ #[v14, v15, v16, v17, v18] 58], c5, c6] fr w := St.tail [[bx bm_ #[v14, v15, v16, v17, v18] 58], c5, c6] _ (((S.frontC 2 rfl).frontC 2 rfl).frontC 2 rfl)
     exact ⟨y8.base.Nodes, y8.left.Nodes, y8.right.Nodes, y8.out, y8.bad, v14, v15, v16, v17, v18, c5, c6, g7, F.sub ⟨rfl, trivial⟩, l7, S, h14, h15, h16, h17, h18, hm⟩
    ·refine wp_condF F rfl hc3 ?_
     refine wp_seq ?_
     refine wp_region_lit ?_
     refine wE (ev_move rfl) F S rfl fun a F=>?_
     refine wE (ev_fieldAddr' tu50 tf50_1 (z := 0) ts38 rfl ⟨_, rfl⟩ rfl) F S rfl fun a F=>?_
     refine wE (ev_load1 tu38 rfl rfl (box_ptr (cells := [v2]) 1 rfl 1 rfl (lb rfl))) F S rfl fun a F=>?_
     refine wE (ev_lenSh h2 rfl tu38) F S rfl fun a F=>?_
     refine wE (ev_int rfl rfl (bo_eql _ _ _ _)) F S rfl fun a F=>?_
     refine wE (ev_move rfl) F S rfl fun a F=>?_
     obtain ⟨x10, hx2, hm⟩ := bind_some hm
     refine wl_cut 6 (fun a w' => w = w' ∧ Fr 209 a [(126, .bool x10), (11, .i6 (y1.Children.length : Int)), (10, bp b4 0), (9, bp b5 0), (8, bp b6 0), (0, bp bm_ 0), (2, .i6 a_)]) ?_ ?_
     ·clear hm; obtain ⟨hc4, hm⟩ | ⟨hc4, hm⟩ := ite_or hx2
      ·refine wl_ev (wg F rfl rfl rfl rfl hc4) (ev_move rfl) F S rfl rfl ?_; clear F a; intro a F
       refine wl_ev (wg F rfl rfl rfl rfl hc4) (ev_fieldAddr' tu50 tf50_1 (z := 0) ts38 rfl ⟨_, rfl⟩ rfl) F S rfl rfl ?_; clear F a; intro a F
       refine wl_ev (wg F rfl rfl rfl rfl hc4) (ev_load1 tu38 rfl rfl (box_ptr (cells := [v3]) 0 rfl 1 rfl (lb rfl))) F S rfl rfl ?_; clear F a; intro a F
       refine wl_ev (wg F rfl rfl rfl rfl hc4) (ev_lenSh h3 rfl tu38) F S rfl rfl ?_; clear F a; intro a F
       refine wl_ev (wg F rfl rfl rfl rfl hc4) (ev_int rfl rfl (bo_eql _ _ _ _)) F S rfl rfl ?_; clear F a; intro a F
       refine wE (ev_pickT rfl hc4 rfl) F S rfl fun a F=>?_
       obtain rfl := sinj hm
       refine wpList_nil (then_n ?_); exact ⟨rfl, F.sub ⟨rfl, rfl, rfl, rfl, rfl, rfl, rfl, trivial⟩⟩
      ·refine wl_skip rfl rfl rfl rfl (ne_tf hc4) F rfl rfl ?_; clear F a; intro a F
       refine wl_skip rfl rfl rfl rfl (ne_tf hc4) F rfl rfl ?_; clear F a; intro a F
       refine wl_skip rfl rfl rfl rfl (ne_tf hc4) F rfl rfl ?_; clear F a; intro a F
       refine wl_skip rfl rfl rfl rfl (ne_tf hc4) F rfl rfl ?_; clear F a; intro a F
       refine wl_skip rfl rfl rfl rfl (ne_tf hc4) F rfl rfl ?_; clear F a; intro a F
       refine wE (ev_pickF rfl hc4 rfl) F S rfl fun a F=>?_
       obtain rfl := sinj hm
       refine wpList_nil (then_n ?_); exact ⟨rfl, F.sub ⟨rfl, rfl, rfl, rfl, rfl, rfl, rfl, trivial⟩⟩
     clear F; rintro a w' ⟨rfl, F⟩
     refine wE (ev_move rfl) F S rfl fun a F=>?_
     obtain ⟨x11, hx3, hm⟩ := bind_some hm
     refine wl_cut 20 (fun a w' => w = w' ∧ Fr 209 a [(147, .bool x11), (11, .i6 (y1.Children.length : Int)), (10, bp b4 0), (9, bp b5 0), (8, bp b6 0), (0, bp bm_ 0), (2, .i6 a_)]) ?_ ?_
     ·clear hm; obtain ⟨hc5, hm⟩ | ⟨hc5, hm⟩ := ite_or hx3
      ·refine wl_ev (wg F rfl rfl rfl rfl hc5) (ev_fieldAddr' tu50 tf50_0 (z := 0) ts9 rfl ⟨_, rfl⟩ rfl) F S rfl rfl ?_; clear F a; intro a F
       refine wl_ev (wg F rfl rfl rfl rfl hc5) (ev_load1 tu9 rfl rfl (box_ptr (cells := [.string y1.Label]) 2 rfl 0 rfl (lb rfl))) F S rfl rfl ?_; clear F a; intro a F
       refine wl_ev (wg F rfl rfl rfl rfl hc5) (ev_fieldAddr' tu50 tf50_0 (z := 0) ts9 rfl ⟨_, rfl⟩ rfl) F S rfl rfl ?_; clear F a; intro a F
       refine wl_ev (wg F rfl rfl rfl rfl hc5) (ev_load1 tu9 rfl rfl (box_ptr (cells := [.string y2.Label]) 1 rfl 0 rfl (lb rfl))) F S rfl rfl ?_; clear F a; intro a F
       refine wl_ev (wg F rfl rfl rfl rfl hc5) (ev_str rfl rfl (bs_eql _ _ _)) F S rfl rfl ?_; clear F a; intro a F
       refine wl_ev (wg F rfl rfl rfl rfl hc5) (ev_move rfl) F S rfl rfl ?_; clear F a; intro a F
       obtain ⟨x12, hx4, hm⟩ := bind_some hm
       refine wl_cut 6 (fun a w' => w = w' ∧ Fr 209 a [(139, .bool x12), (127, .bool x10), (11, .i6 (y1.Children.length : Int)), (10, bp b4 0), (9, bp b5 0), (8, bp b6 0), (0, bp bm_ 0), (2, .i6 a_)]) ?_ ?_
       ·clear hm; obtain ⟨hc6, hm⟩ | ⟨hc6, hm⟩ := ite_or hx4
        ·refine wl_skip rfl rfl rfl rfl (ne_ft hc6) F rfl rfl ?_; clear F a; intro a F
         refine wl_skip rfl rfl rfl rfl (ne_ft hc6) F rfl rfl ?_; clear F a; intro a F
         refine wl_skip rfl rfl rfl rfl (ne_ft hc6) F rfl rfl ?_; clear F a; intro a F
         refine wl_skip rfl rfl rfl rfl (ne_ft hc6) F rfl rfl ?_; clear F a; intro a F
         refine wl_skip rfl rfl rfl rfl (ne_ft hc6) F rfl rfl ?_; clear F a; intro a F
         refine wl_ev (wg F rfl rfl rfl rfl hc5) (ev_pickT rfl hc6 rfl) F S rfl rfl ?_; clear F a; intro a F
         obtain rfl := sinj hm
         refine wpList_nil (then_n ?_); exact ⟨rfl, F.sub ⟨rfl, rfl, rfl, rfl, rfl, rfl, rfl, rfl, trivial⟩⟩
        ·refine wl_ev (wg F rfl rfl rfl rfl hc6) (ev_fieldAddr' tu50 tf50_0 (z := 0) ts9 rfl ⟨_, rfl⟩ rfl) F S rfl rfl ?_; clear F a; intro a F
         refine wl_ev (wg F rfl rfl rfl rfl hc6) (ev_load1 tu9 rfl rfl (box_ptr (cells := [.string y1.Label]) 2 rfl 0 rfl (lb rfl))) F S rfl rfl ?_; clear F a; intro a F
         refine wl_ev (wg F rfl rfl rfl rfl hc6) (ev_fieldAddr' tu50 tf50_0 (z := 0) ts9 rfl ⟨_, rfl⟩ rfl) F S rfl rfl ?_; clear F a; intro a F
         refine wl_ev (wg F rfl rfl rfl rfl hc6) (ev_load1 tu9 rfl rfl (box_ptr (cells := [.string y3.Label]) 0 rfl 0 rfl (lb rfl))) F S rfl rfl ?_; clear F a; intro a F
         refine wl_ev (wg F rfl rfl rfl rfl hc6) (ev_str rfl rfl (bs_eql _ _ _)) F S rfl rfl ?_; clear F a; intro a F
         refine wl_ev (wg F rfl rfl rfl rfl hc5) (ev_pickF rfl hc6 rfl) F S rfl rfl ?_; clear F a; intro a F
         obtain rfl := sinj hm
         refine wpList_nil (then_n ?_); exact ⟨rfl, F.sub ⟨rfl, rfl, rfl, rfl, rfl, rfl, rfl, rfl, trivial⟩⟩
       clear F; rintro a w' ⟨rfl, F⟩
       refine wl_ev (wg F rfl rfl rfl rfl hc5) (ev_move rfl) F S rfl rfl ?_; clear F a; intro a F
       obtain ⟨x13, hx5, hm⟩ := bind_some hm
       refine wl_cut 6 (fun a w' => w = w' ∧ Fr 209 a [(146, .bool x13), (127, .bool x10), (11, .i6 (y1.Children.length : Int)), (10, bp b4 0), (9, bp b5 0), (8, bp b6 0), (0, bp bm_ 0), (2, .i6 a_)]) ?_ ?_
       ·clear hm; obtain ⟨hc7, hm⟩ | ⟨hc7, hm⟩ := ite_or hx5
        ·refine wl_skip rfl rfl rfl rfl (ne_ft hc7) F rfl rfl ?_; clear F a; intro a F
         refine wl_skip rfl rfl rfl rfl (ne_ft hc7) F rfl rfl ?_; clear F a; intro a F
         refine wl_skip rfl rfl rfl rfl (ne_ft hc7) F rfl rfl ?_; clear F a; intro a F
         refine wl_skip rfl rfl rfl rfl (ne_ft hc7) F rfl rfl ?_; clear F a; intro a F
         refine wl_skip rfl rfl rfl rfl (ne_ft hc7) F rfl rfl ?_; clear F a; intro a F
         refine wl_ev (wg F rfl rfl rfl rfl hc5) (ev_pickT rfl hc7 rfl) F S rfl rfl ?_; clear F a; intro a F
         obtain rfl := sinj hm
         refine wpList_nil (then_n ?_); exact ⟨rfl, F.sub ⟨rfl, rfl, rfl, rfl, rfl, rfl, rfl, rfl, trivial⟩⟩
        ·refine wl_ev (wg F rfl rfl rfl rfl hc7) (ev_fieldAddr' tu50 tf50_0 (z := 0) ts9 rfl ⟨_, rfl⟩ rfl) F S rfl rfl ?_; clear F a; intro a F
         refine wl_ev (wg F rfl rfl rfl rfl hc7) (ev_load1 tu9 rfl rfl (box_ptr (cells := [.string y2.Label]) 1 rfl 0 rfl (lb rfl))) F S rfl rfl ?_; clear F a; intro a F
         refine wl_ev (wg F rfl rfl rfl rfl hc7) (ev_fieldAddr' tu50 tf50_0 (z := 0) ts9 rfl ⟨_, rfl⟩ rfl) F S rfl rfl ?_; clear F a; intro a F
         refine wl_ev (wg F rfl rfl rfl rfl hc7) (ev_load1 tu9 rfl rfl (box_ptr (cells := [.string y3.Label]) 0 rfl 0 rfl (lb rfl))) F S rfl rfl ?_; clear F a; intro a F
         refine wl_ev (wg F rfl rfl rfl rfl hc7) (ev_str rfl rfl (bs_eql _ _ _)) F S rfl rfl ?_; clear F a; intro a F
         refine wl_ev (wg F rfl rfl rfl rfl hc5) (ev_pickF rfl hc7 rfl) F S rfl rfl ?_; clear F a; intro a F
         obtain rfl := sinj hm
         refine wpList_nil (then_n ?_); exact ⟨rfl, F.sub ⟨rfl, rfl, rfl, rfl, rfl, rfl, rfl, rfl, trivial⟩⟩
       clear F; rintro a w' ⟨rfl, F⟩
       refine wE (ev_pickT rfl hc5 rfl) F S rfl fun a F=>?_
       obtain rfl := sinj hm
       refine wpList_nil (then_n ?_); exact ⟨rfl, F.sub ⟨rfl, rfl, rfl, rfl, rfl, rfl, rfl, trivial⟩⟩
      ·refine wl_skip rfl rfl rfl rfl (ne_tf hc5) F rfl rfl ?_; clear F a; intro a F
       refine wl_skip rfl rfl rfl rfl (ne_tf hc5) F rfl rfl ?_; clear F a; intro a F
       refine wl_skip rfl rfl rfl rfl (ne_tf hc5) F rfl rfl ?_; clear F a; intro a F
       refine wl_skip rfl rfl rfl rfl (ne_tf hc5) F rfl rfl ?_; clear F a; intro a F
       refine wl_skip rfl rfl rfl rfl (ne_tf hc5) F rfl rfl ?_; clear F a; intro a F
       refine wl_skip rfl rfl rfl rfl (ne_tf hc5) F rfl rfl ?_; clear F a; intro a F
       refine wl_skipu rfl rfl rfl rfl F rfl rfl ?_; clear F a; intro a F
       refine wl_skipu rfl rfl rfl rfl F rfl rfl ?_; clear F a; intro a F
       refine wl_skipu rfl rfl rfl rfl F rfl rfl ?_; clear F a; intro a F
       refine wl_skipu rfl rfl rfl rfl F rfl rfl ?_; clear F a; intro a F
       refine wl_skipu rfl rfl rfl rfl F rfl rfl ?_; clear F a; intro a F
       refine wl_skip rfl rfl rfl rfl (ne_tf hc5) F rfl rfl ?_; clear F a; intro a F
       refine wl_skip rfl rfl rfl rfl (ne_tf hc5) F rfl rfl ?_; clear F a; intro a F
       refine wl_skipu rfl rfl rfl rfl F rfl rfl ?_; clear F a; intro a F
       refine wl_skipu rfl rfl rfl rfl F rfl rfl ?_; clear F a; intro a F
       refine wl_skipu rfl rfl rfl rfl F rfl rfl ?_; clear F a; intro a F
       refine wl_skipu rfl rfl rfl rfl F rfl rfl ?_; clear F a; intro a F
       refine wl_skipu rfl rfl rfl rfl F rfl rfl ?_; clear F a; intro a F
       refine wl_skip rfl rfl rfl rfl (ne_tf hc5) F rfl rfl ?_; clear F a; intro a F
       refine wE (ev_pickF rfl hc5 rfl) F S rfl fun a F=>?_
       obtain rfl := sinj hm
       refine wpList_nil (then_n ?_); exact ⟨rfl, F.sub ⟨rfl, rfl, rfl, rfl, rfl, rfl, rfl, trivial⟩⟩
     clear F; rintro a w' ⟨rfl, F⟩
     refine wE (ev_assign rfl) F S rfl fun a F=>?_
     refine wpList_nil ?_
     refine then_n ?_
     obtain ⟨hc8, hm⟩ | ⟨hc8, hm⟩ := ite_or hm
     ·refine wp_condT F rfl hc8 ?_
      refine wp_seq ?_
      refine wp_region_lit ?_
      refine wE (ev_fieldAddr' tu50 tf50_0 (z := 0) ts9 rfl ⟨_, rfl⟩ rfl) F S rfl fun a F=>?_
      refine wE (ev_load1 tu9 rfl rfl (box_ptr (cells := [.string y2.Label]) 1 rfl 0 rfl (lb rfl))) F S rfl fun a F=>?_
      refine wE (ev_build (parts := [(0, .tmp 149)]) (vs := [(0, .string y2.Label)]) rfl (fun w => tb50_0 y2.Label w)) F S rfl fun a F=>?_
      refine wl_alloc (wn rfl) rfl tz50 (cs := [.string ByteArray.empty, nilS]) rfl F S rfl rfl ?_; clear F a S; rintro b7 a w F S
      refine wl_storeC (wn rfl) rfl F S rfl rfl (vs := [.string y2.Label, nilS]) rfl ts50 (one_cons rfl (one_cons rfl one_nil)) (k := 0) rfl (lb rfl) (c' := #[.string y2.Label, nilS]) rfl rfl ?_; clear S; intro w S
      refine wpList_nil ?_
      refine then_n ?_
      refine wp_cut (fun a w => ∃ (x14 : ByteArray) (g8 : Gh), Fr 209 a [(12, bp b7 0), (11, .i6 (y1.Children.length : Int)), (10, bp b4 0), (9, bp b5 0), (8, bp b6 0), (0, bp bm_ 0)] ∧ Le g1 g8 ∧ St g8 [[bx b7 #[.string x14, nilS] 50], [bx b4 #[.string y3.Label, v3] 50], [bx b5 #[.string y2.Label, v2] 50], [bx b6 #[.string y1.Label, v1] 50], [bx bm_ #[vm_1, vm_2, vm_3, vm_4, vm_5] 58], cm_1, cm_2] fr w ∧ syntax_merger__merge.j3 m_ rec_ y1 y2 y3 x14 = some r) ?_ ?_
      ·refine wp_seq ?_
       refine wp_region_lit ?_
       refine wE (ev_fieldAddr' tu50 tf50_0 (z := 0) ts9 rfl ⟨_, rfl⟩ rfl) F S rfl fun a F=>?_
       refine wE (ev_load1 tu9 rfl rfl (box_ptr (cells := [.string y3.Label]) 1 rfl 0 rfl (lb rfl))) F S rfl fun a F=>?_
       refine wE (ev_fieldAddr' tu50 tf50_0 (z := 0) ts9 rfl ⟨_, rfl⟩ rfl) F S rfl fun a F=>?_
       refine wE (ev_load1 tu9 rfl rfl (box_ptr (cells := [.string y1.Label]) 3 rfl 0 rfl (lb rfl))) F S rfl fun a F=>?_
       refine wE (ev_str rfl rfl (bs_neq _ _ _)) F S rfl fun a F=>?_
       refine wE (ev_move rfl) F S rfl fun a F=>?_
       obtain ⟨x29, hx7, hm⟩ := bind_some hm
       refine wl_cut 6 (fun a w' => w = w' ∧ Fr 209 a [(162, .bool x29), (12, bp b7 0), (11, .i6 (y1.Children.length : Int)), (10, bp b4 0), (9, bp b5 0), (8, bp b6 0), (0, bp bm_ 0)]) ?_ ?_
       ·clear hm; obtain ⟨hc10, hm⟩ | ⟨hc10, hm⟩ := ite_or hx7
        ·refine wl_ev (wg F rfl rfl rfl rfl hc10) (ev_fieldAddr' tu50 tf50_0 (z := 0) ts9 rfl ⟨_, rfl⟩ rfl) F S rfl rfl ?_; clear F a; intro a F
         refine wl_ev (wg F rfl rfl rfl rfl hc10) (ev_load1 tu9 rfl rfl (box_ptr (cells := [.string y3.Label]) 1 rfl 0 rfl (lb rfl))) F S rfl rfl ?_; clear F a; intro a F
         refine wl_ev (wg F rfl rfl rfl rfl hc10) (ev_fieldAddr' tu50 tf50_0 (z := 0) ts9 rfl ⟨_, rfl⟩ rfl) F S rfl rfl ?_; clear F a; intro a F
         refine wl_ev (wg F rfl rfl rfl rfl hc10) (ev_load1 tu9 rfl rfl (box_ptr (cells := [.string y2.Label]) 2 rfl 0 rfl (lb rfl))) F S rfl rfl ?_; clear F a; intro a F
         refine wl_ev (wg F rfl rfl rfl rfl hc10) (ev_str rfl rfl (bs_neq _ _ _)) F S rfl rfl ?_; clear F a; intro a F
         refine wE (ev_pickT rfl hc10 rfl) F S rfl fun a F=>?_
         obtain rfl := sinj hm
         refine wpList_nil (then_n ?_); exact ⟨rfl, F.sub ⟨rfl, rfl, rfl, rfl, rfl, rfl, rfl, trivial⟩⟩
        ·refine wl_skip rfl rfl rfl rfl (ne_tf hc10) F rfl rfl ?_; clear F a; intro a F
         refine wl_skip rfl rfl rfl rfl (ne_tf hc10) F rfl rfl ?_; clear F a; intro a F
         refine wl_skip rfl rfl rfl rfl (ne_tf hc10) F rfl rfl ?_; clear F a; intro a F
         refine wl_skip rfl rfl rfl rfl (ne_tf hc10) F rfl rfl ?_; clear F a; intro a F
         refine wl_skip rfl rfl rfl rfl (ne_tf hc10) F rfl rfl ?_; clear F a; intro a F
         refine wE (ev_pickF rfl hc10 rfl) F S rfl fun a F=>?_
         obtain rfl := sinj hm
         refine wpList_nil (then_n ?_); exact ⟨rfl, F.sub ⟨rfl, rfl, rfl, rfl, rfl, rfl, rfl, trivial⟩⟩
       clear F; rintro a w' ⟨rfl, F⟩
       refine wpList_nil ?_
       refine then_n ?_
       obtain ⟨hc11, hm⟩ | ⟨hc11, hm⟩ := ite_or hm
       ·refine wp_condT F rfl hc11 ?_
        refine wp_region_lit ?_
        refine wE (ev_fieldAddr' tu50 tf50_0 (z := 0) ts9 rfl ⟨_, rfl⟩ rfl) F S rfl fun a F=>?_
        refine wE (ev_load1 tu9 rfl rfl (box_ptr (cells := [.string y3.Label]) 1 rfl 0 rfl (lb rfl))) F S rfl fun a F=>?_
        refine wE (ev_fieldAddr' tu50 tf50_0 (z := 0) ts9 rfl ⟨_, rfl⟩ rfl) F S rfl fun a F=>?_
        refine wl_storeC (wn rfl) rfl F S rfl rfl (vs := [.string y3.Label]) rfl ts9 (one_cons rfl one_nil) (k := 0) rfl (lb rfl) (c' := #[.string y3.Label, nilS]) rfl rfl ?_; clear S; intro w S
        refine wpList_nil ?_
        refine then_n ?_
        exact ⟨y3.Label, g1, F.sub ⟨rfl, rfl, rfl, rfl, rfl, rfl, trivial⟩, (Le.refl _), S, hm⟩
       ·refine wp_condF F rfl hc11 ?_
        refine wp_skip ?_
        refine then_n ?_
        exact ⟨y2.Label, g1, F.sub ⟨rfl, rfl, rfl, rfl, rfl, rfl, trivial⟩, (Le.refl _), S, hm⟩
      ·clear F S hm; rintro a w ⟨x14, g8, F, l8, S, hm⟩
       refine wp_cut (fun a w => ∃ (x15 : List Int) (x16 : List Node) (x17 : List Node) (x18 : List Node) (x19 : List Node) (x20 : List Int) (v19 v20 v21 v22 v23 v24 : Value) (c7 c8 c9 : Hl) (g9 : Gh), Fr 209 a [(12, bp b7 0), (0, bp bm_ 0)] ∧ Le g8 g9 ∧ St g9 [[bx b7 #[.string x14, v19] 50], [bx bm_ #[v20, v21, v22, v23, v24] 58], c7, c8, c9] fr w ∧ OwnS g9 x15 v19 c7 ∧ RepSl g9 x16 v20 ∧ RepSl g9 x17 v21 ∧ RepSl g9 x18 v22 ∧ OwnS g9 x19 v23 c8 ∧ OwnS g9 x20 v24 c9 ∧ syntax_merger__merge.j4 x14 x15 x16 x17 x18 x19 x20 = some r) ?_ ?_
       ·refine wp_seq ?_
        refine wp_region_lit ?_
        refine wE (ev_move rfl) F S rfl fun a F=>?_
        refine wE (ev_move rfl) F S rfl fun a F=>?_
        refine wpList_nil ?_
        refine then_n ?_
        refine wp_block ?_
        obtain ⟨r1, hr5, hm⟩ := bind_some hm
        have hmo1 := hm; clear hm
        refine wp_iter (σ := Int × (List Int) × (List Node) × (List Node) × (List Node) × (List Node) × (List Int)) (ρ := (List Int) × (List Node) × (List Node) × (List Node) × (List Node) × (List Int)) (m := fun s => syntax_merger__merge.l1 rec_ y1 y2 y3 s.1 s.2.1 s.2.2.1 s.2.2.2.1 s.2.2.2.2.1 s.2.2.2.2.2.1 s.2.2.2.2.2.2) (I := fun s a w => match s with | (x21, x22, x23, x24, x25, x26, x27) => ∃ (v27 v28 v29 v30 v31 v32 : Value) (c12 c13 c14 : Hl) (g11 : Gh), Fr 209 a [(167, .i6 x21), (166, .i6 (y1.Children.length : Int)), (12, bp b7 0), (10, bp b4 0), (9, bp b5 0), (8, bp b6 0), (0, bp bm_ 0)] ∧ Le g8 g11 ∧ St g11 [[bx b7 #[.string x14, v27] 50], [bx b4 #[.string y3.Label, v3] 50], [bx b5 #[.string y2.Label, v2] 50], [bx b6 #[.string y1.Label, v1] 50], [bx bm_ #[v28, v29, v30, v31, v32] 58], c12, c13, c14] fr w ∧ OwnS g11 x22 v27 c12 ∧ RepSl g11 x23 v28 ∧ RepSl g11 x24 v29 ∧ RepSl g11 x25 v30 ∧ OwnS g11 x26 v31 c13 ∧ OwnS g11 x27 v32 c14) hr5 ?_ ?_
        ·dsimp only
         replace S : St g8 [[], [bx b7 #[.string x14, nilS] 50], [bx b4 #[.string y3.Label, v3] 50], [bx b5 #[.string y2.Label, v2] 50], [bx b6 #[.string y1.Label, v1] 50], [bx bm_ #[vm_1, vm_2, vm_3, vm_4, vm_5] 58], cm_1, cm_2] fr w := S
         replace S : St g8 [[bx b7 #[.string x14, nilS] 50], [bx b4 #[.string y3.Label, v3] 50], [bx b5 #[.string y2.Label, v2] 50], [bx b6 #[.string y1.Label, v1] 50], [bx bm_ #[vm_1, vm_2, vm_3, vm_4, vm_5] 58], [], cm_1, cm_2] fr w := St.tail [[bx b7 #[.string x14, nilS] 50], [bx b4 #[.string y3.Label, v3] 50], [bx b5 #[.string y2.Label, v2] 50], [bx b6 #[.string y1.Label, v1] 50], [bx bm_ #[vm_1, vm_2, vm_3, vm_4, vm_5] 58], [], cm_1, cm_2] _ ((((((((S.frontC 7 rfl).frontC 7 rfl).frontC 2 rfl).frontC 8 rfl).frontC 8 rfl).frontC 8 rfl).frontC 8 rfl).frontC 8 rfl)
         exact ⟨(nilS), vm_1, vm_2, vm_3, vm_4, vm_5, [], cm_1, cm_2, g8, F.sub ⟨rfl, rfl, rfl, rfl, rfl, rfl, rfl, trivial⟩, (Le.refl _), S, (OwnS.nil _), (hm_1.mono (l1.trans l8)), (hm_2.mono (l1.trans l8)), (hm_3.mono (l1.trans l8)), (hm_4.mono (l1.trans l8)), (hm_5.mono (l1.trans l8))⟩
        ·clear F S; rintro ⟨x21, x22, x23, x24, x25, x26, x27⟩ a w x28 ⟨v27, v28, v29, v30, v31, v32, c12, c13, c14, g11, F, l11, S, h28, h29, h30, h31, h32, h33⟩ hx6 hfin1
         have hm : syntax_merger__merge.l1 rec_ y1 y2 y3 x21 x22 x23 x24 x25 x26 x27 = some x28 := hx6; clear hx6
         unfold syntax_merger__merge.l1 at hm
         refine wp_seq ?_
         refine wp_region_lit ?_
         refine wE (ev_int rfl rfl (bo_lss _ _ _ _)) F S rfl fun a F=>?_
         refine wpList_nil ?_
         refine then_n ?_
         refine wp_seq ?_
         obtain ⟨hc9, hm⟩ | ⟨hc9, hm⟩ := ite_or hm
         ·refine wp_condT F rfl hc9 ?_
          refine wp_skip ?_
          refine then_n ?_
          refine wp_seq ?_
          refine wp_block ?_
          refine wp_seq ?_
          refine wp_region_lit ?_
          refine wE (ev_move rfl) F S rfl fun a F=>?_
          refine wE (ev_assign rfl) F S rfl fun a F=>?_
          refine wpList_nil ?_
          refine then_n ?_
          refine wp_seq ?_
          refine wp_dv [] mo S ?_; clear S; intro ok3 w S
          refine dv_et ok3 0 rfl (ev_move rfl) F rfl fun a F=>?_
          refine dv_et ok3 1 rfl (ev_fieldAddr' tu50 tf50_1 (z := 0) ts38 rfl ⟨_, rfl⟩ rfl) F rfl fun a F=>?_
          refine dv_ev ok3 2 rfl (ev_load1 tu38 rfl rfl (box_ptr (cells := [v1]) 3 rfl 1 rfl (lb rfl))) F S rfl fun a F=>?_
          refine dv_et ok3 3 rfl (ev_move rfl) F rfl fun a F=>?_
          obtain ⟨y10, hy10, hm⟩ := bind_some hm
          obtain ⟨cs5, hr6, hp4⟩ := elemS (h1.mono ((l1.trans l8).trans l11)) hy10
          obtain rfl := rep_int hr6
          refine dv_et ok3 4 rfl (ev_idxS (h1.mono ((l1.trans l8).trans l11)) hy10 tu38 ts3 rfl rfl) F rfl fun a F=>?_
          refine dv_ev ok3 5 rfl (ev_load1 tu3 rfl rfl (ptr_mono (cks := [[bx b7 #[.string x14, v27] 50], [bx b4 #[.string y3.Label, v3] 50], [bx b5 #[.string y2.Label, v2] 50], [bx b6 #[.string y1.Label, v1] 50], [bx bm_ #[v28, v29, v30, v31, v32] 58], c12, c13, c14]) (fr := fr) hp4 (Le.refl _))) F S rfl fun a F=>?_
          refine dv_et ok3 6 rfl (ev_fieldAddr' tu50 tf50_1 (z := 0) ts38 rfl ⟨_, rfl⟩ rfl) F rfl fun a F=>?_
          refine dv_ev ok3 7 rfl (ev_load1 tu38 rfl rfl (box_ptr (cells := [v2]) 2 rfl 1 rfl (lb rfl))) F S rfl fun a F=>?_
          refine dv_et ok3 8 rfl (ev_move rfl) F rfl fun a F=>?_
          obtain ⟨y11, hy11, hm⟩ := bind_some hm
          obtain ⟨cs6, hr7, hp5⟩ := elemS (h2.mono ((l1.trans l8).trans l11)) hy11
          obtain rfl := rep_int hr7
          refine dv_et ok3 9 rfl (ev_idxS (h2.mono ((l1.trans l8).trans l11)) hy11 tu38 ts3 rfl rfl) F rfl fun a F=>?_
          refine dv_ev ok3 10 rfl (ev_load1 tu3 rfl rfl (ptr_mono (cks := [[bx b7 #[.string x14, v27] 50], [bx b4 #[.string y3.Label, v3] 50], [bx b5 #[.string y2.Label, v2] 50], [bx b6 #[.string y1.Label, v1] 50], [bx bm_ #[v28, v29, v30, v31, v32] 58], c12, c13, c14]) (fr := fr) hp5 (Le.refl _))) F S rfl fun a F=>?_
          refine dv_et ok3 11 rfl (ev_fieldAddr' tu50 tf50_1 (z := 0) ts38 rfl ⟨_, rfl⟩ rfl) F rfl fun a F=>?_
          refine dv_ev ok3 12 rfl (ev_load1 tu38 rfl rfl (box_ptr (cells := [v3]) 1 rfl 1 rfl (lb rfl))) F S rfl fun a F=>?_
          refine dv_et ok3 13 rfl (ev_move rfl) F rfl fun a F=>?_
          obtain ⟨y12, hy12, hm⟩ := bind_some hm
          obtain ⟨cs7, hr8, hp6⟩ := elemS (h3.mono ((l1.trans l8).trans l11)) hy12
          obtain rfl := rep_int hr8
          refine dv_et ok3 14 rfl (ev_idxS (h3.mono ((l1.trans l8).trans l11)) hy12 tu38 ts3 rfl rfl) F rfl fun a F=>?_
          refine dv_ev ok3 15 rfl (ev_load1 tu3 rfl rfl (ptr_mono (cks := [[bx b7 #[.string x14, v27] 50], [bx b4 #[.string y3.Label, v3] 50], [bx b5 #[.string y2.Label, v2] 50], [bx b6 #[.string y1.Label, v1] 50], [bx bm_ #[v28, v29, v30, v31, v32] 58], c12, c13, c14]) (fr := fr) hp6 (Le.refl _))) F S rfl fun a F=>?_
          refine dv_op ok3 16 rfl [] ?_
          replace S : St g11 [[bx bm_ #[v28, v29, v30, v31, v32] 58], c13, c14, [bx b7 #[.string x14, v27] 50], [bx b4 #[.string y3.Label, v3] 50], [bx b5 #[.string y2.Label, v2] 50], [bx b6 #[.string y1.Label, v1] 50], c12] fr w := ((((((((S.frontC 5 rfl).frontC 4 rfl).frontC 4 rfl).frontC 4 rfl).frontC 4 rfl).frontC 12 rfl).frontC 12 rfl).frontC 11 rfl)
          obtain ⟨y13, hy13, hm⟩ := bind_some hm
          refine wl_call0 (wn rfl) rfl F rfl (hrec (fr := (fl [[bx b7 #[.string x14, v27] 50], [bx b4 #[.string y3.Label, v3] 50], [bx b5 #[.string y2.Label, v2] 50], [bx b6 #[.string y1.Label, v1] 50], c12] fr)) bm_ ({ base := ({ Nodes := x23 } : SyntaxTree), left := ({ Nodes := x24 } : SyntaxTree), right := ({ Nodes := x25 } : SyntaxTree), out := x26, bad := x27 } : Merger_syntax) v28 h29 v29 h30 v30 h31 v31 c13 h32 v32 c14 h33 y10 y11 y12 S hy13) rfl tc30 rfl rfl ?_; clear F a S
          rintro _ a w ⟨g12, v33, v34, v35, v36, v37, c15, c16, l12, S, h34, h35, h36, h37, h38, rfl⟩ F; replace S : St g12 [[bx bm_ #[v33, v34, v35, v36, v37] 58], c15, c16, [bx b7 #[.string x14, v27] 50], [bx b4 #[.string y3.Label, v3] 50], [bx b5 #[.string y2.Label, v2] 50], [bx b6 #[.string y1.Label, v1] 50], c12] fr w := S
          refine dv_nx trivial ?_
          refine dv_fin ok3 ?_
          refine then_n ?_
          refine wp_dv [] mo S ?_; clear S; intro ok4 w S
          refine dv_et ok4 0 rfl (ev_fieldAddr' tu50 tf50_1 (z := 0) ts38 rfl ⟨_, rfl⟩ rfl) F rfl fun a F=>?_
          refine dv_ev ok4 1 rfl (ev_load1 tu38 rfl rfl (box_ptr (cells := [v27]) 3 rfl 1 rfl (lb rfl))) F S rfl fun a F=>?_
          refine dv_et ok4 2 rfl (ev_move rfl) F rfl fun a F=>?_
          refine dv_et ok4 3 rfl (ev_nil rfl) F rfl fun a F=>?_
          refine dv_et ok4 4 rfl (ev_fieldAddr' tu58 tf58_3 (z := 0) ts22 rfl ⟨_, rfl⟩ rfl) F rfl fun a F=>?_
          refine dv_ev ok4 5 rfl (ev_load1 tu22 rfl rfl (box_ptr (cells := [v36]) 0 rfl 3 rfl (lb rfl))) F S rfl fun a F=>?_
          refine dv_et ok4 6 rfl (ev_lenOw h37 rfl tu22) F rfl fun a F=>?_
          obtain ⟨z1, hz1, hm⟩ := bind_some hm
          refine dv_et ok4 7 rfl (ev_int rfl rfl (bo_sub hz1)) F rfl fun a F=>?_
          refine dv_op ok4 8 rfl [(1, v27)] ?_
          refine wl_lit (l := ([z1] : List Int)) (vs := [.i6 z1]) (parts := [(0, .tmp 194)]) (wn rfl) rfl rfl rfl tu38 te3 (sz_cons rfl sz_nil) rfl (Cat.cons (show Rep.rep _ z1 _ from rfl) (Cat.nil _)) (coa_cons rfl coa_nil) rfl F S rfl rfl ?_; clear F a S
          rintro v38 c17 a w h39 F S
          refine dv_nx ⟨yl_ev rfl rfl (ev_load1 tu38 rfl rfl (box_ptr (cells := [v27]) 4 rfl 1 rfl (lb rfl))) F S, trivial⟩ ?_
          refine dv_op ok4 9 rfl [] ?_
          obtain ⟨cs8, hk2, hr9⟩ := OwnS.reads h39
          obtain ⟨y14, hy14, hm⟩ := bind_some hm
          refine wl_append (wn rfl) rfl tu38 tu38 te3 (by decide) (by decide) F S rfl rfl (k := 8) rfl (h28.mono l12) hk2 rfl (hr9 _ _ _ 0 rfl S) hy14 rfl rfl ?_; clear F a S
          rintro v39 c18 a w h40 S F; replace S : St g12 [c17, [bx bm_ #[v33, v34, v35, v36, v37] 58], c15, c16, [bx b7 #[.string x14, v27] 50], [bx b4 #[.string y3.Label, v3] 50], [bx b5 #[.string y2.Label, v2] 50], [bx b6 #[.string y1.Label, v1] 50], c18] fr w := S
          refine dv_nx trivial ?_
          refine dv_et ok4 10 rfl (ev_fieldAddr' tu50 tf50_1 (z := 0) ts38 rfl ⟨_, rfl⟩ rfl) F rfl fun a F=>?_
          refine dv_op ok4 11 rfl [] ?_
          refine wl_storeC (wn rfl) rfl F S rfl rfl (vs := [v39]) (OwnS.cl h40) ts38 (one_cons (OwnS.one h40) one_nil) (k := 4) rfl (lb rfl) (c' := #[.string x14, v39]) rfl rfl ?_; clear S; intro w S
          refine dv_nx trivial ?_
          refine dv_fin ok4 ?_
          refine inb_n ?_
          refine then_n ?_
          refine wp_region_lit ?_
          obtain ⟨z2, hz2, hm⟩ := bind_some hm
          refine wE (ev_int rfl rfl (bo_add hz2)) F S rfl fun a F=>?_
          refine wE (ev_move rfl) F S rfl fun a F=>?_
          refine wpList_nil ?_
          refine then_n ?_
          obtain rfl := sinj hm
          refine ⟨_, rfl, ?_⟩
          dsimp only
          replace S : St g12 [[bx b7 #[.string x14, v39] 50], [bx b4 #[.string y3.Label, v3] 50], [bx b5 #[.string y2.Label, v2] 50], [bx b6 #[.string y1.Label, v1] 50], [bx bm_ #[v33, v34, v35, v36, v37] 58], c18, c15, c16] fr w := St.tail [[bx b7 #[.string x14, v39] 50], [bx b4 #[.string y3.Label, v3] 50], [bx b5 #[.string y2.Label, v2] 50], [bx b6 #[.string y1.Label, v1] 50], [bx bm_ #[v33, v34, v35, v36, v37] 58], c18, c15, c16] _ ((((((((S.frontC 3 rfl).frontC 3 rfl).frontC 10 rfl).frontC 4 rfl).frontC 11 rfl).frontC 11 rfl).frontC 11 rfl).frontC 11 rfl)
          exact ⟨v39, v33, v34, v35, v36, v37, c18, c15, c16, g12, F.sub ⟨rfl, rfl, rfl, rfl, rfl, rfl, rfl, trivial⟩, (l11.trans l12), S, h40, h34, h35, h36, h37, h38⟩
         ·refine wp_condF F rfl hc9 ?_
          refine wp_exit ?_
          refine then_e ?_
          refine then_e ?_
          refine inb_x ?_
          refine then_n ?_
          obtain rfl := sinj hm
          obtain rfl := hfin1 _ rfl
          clear hm
          have hm : (syntax_merger__merge.j4 x14 x22 x23 x24 x25 x26 x27 : Option Merger_syntax) = some _ := hmo1
          replace S : St g11 [[bx b7 #[.string x14, v27] 50], [bx bm_ #[v28, v29, v30, v31, v32] 58], c12, c13, c14] fr w := St.tail [[bx b7 #[.string x14, v27] 50], [bx bm_ #[v28, v29, v30, v31, v32] 58], c12, c13, c14] _ (((((S.frontC 7 rfl).frontC 7 rfl).frontC 7 rfl).frontC 7 rfl).frontC 4 rfl)
          exact ⟨x22, x23, x24, x25, x26, x27, v27, v28, v29, v30, v31, v32, c12, c13, c14, g11, F.sub ⟨rfl, rfl, trivial⟩, l11, S, h28, h29, h30, h31, h32, h33, hm⟩
       ·clear F S hm; rintro a w ⟨x15, x16, x17, x18, x19, x20, v19, v20, v21, v22, v23, v24, c7, c8, c9, g9, F, l9, S, h19, h20, h21, h22, h23, h24, hm⟩
        refine wp_dv [] mo S ?_; clear S; intro ok2 w S
        refine dv_et ok2 0 rfl (ev_move rfl) F rfl fun a F=>?_
        refine dv_et ok2 1 rfl (ev_move rfl) F rfl fun a F=>?_
        refine dv_et ok2 2 rfl (ev_nil rfl) F rfl fun a F=>?_
        refine dv_et ok2 3 rfl (ev_fieldAddr' tu58 tf58_3 (z := 0) ts22 rfl ⟨_, rfl⟩ rfl) F rfl fun a F=>?_
        refine dv_ev ok2 4 rfl (ev_load1 tu22 rfl rfl (box_ptr (cells := [v23]) 1 rfl 3 rfl (lb rfl))) F S rfl fun a F=>?_
        refine dv_ev ok2 5 rfl (ev_loadA tu50 rfl (cs := [.string x14, v19]) ts50 rfl (box_ptr (cells := [.string x14, v19]) 0 rfl 0 rfl (lb rfl))) F S rfl fun a F=>?_
        refine dv_op ok2 6 rfl [(4, v23)] ?_
        obtain ⟨g10, l10, S, h25⟩ : ∃ gz, Le g9 gz ∧ St gz [[bx b7 #[.string x14, v19] 50], [bx bm_ #[v20, v21, v22, v23, v24] 58], c8, c9] fr w ∧ RepSl gz x15 v19 := ⟨_, Le.add _ _, S.freeze 2 rfl, OwnS.freeze (S.front 2 rfl) h19⟩
        refine wl_lit (l := ([({ Label := x14, Children := x15 } : Node)] : List Node)) (vs := [.agg #[.string x14, v19]]) (parts := [(0, .tmp 204)]) (wn rfl) rfl rfl rfl tu22 te50 (sz_cons rfl sz_nil) rfl (Cat.cons (rep_Node_mk (x := ({ Label := x14, Children := x15 } : Node)) h25) (Cat.nil _)) (coa_cons rfl coa_nil) rfl F S rfl rfl ?_; clear F a S
        rintro v25 c10 a w h26 F S
        refine dv_nx ⟨yl_ev rfl rfl (ev_load1 tu22 rfl rfl (box_ptr (cells := [v23]) 2 rfl 3 rfl (lb rfl))) F S, trivial⟩ ?_
        refine dv_op ok2 7 rfl [] ?_
        obtain ⟨cs4, hk1, hr4⟩ := OwnS.reads h26
        obtain ⟨y9, hy9, hm⟩ := bind_some hm
        refine wl_append (wn rfl) rfl tu22 tu22 te50 (by decide) (by decide) F S rfl rfl (k := 3) rfl (h23.mono l10) hk1 rfl (hr4 _ _ _ 0 rfl S) hy9 rfl rfl ?_; clear F a S
        rintro v26 c11 a w h27 S F; replace S : St g10 [c10, [bx b7 #[.string x14, v19] 50], [bx bm_ #[v20, v21, v22, v23, v24] 58], c11, c9] fr w := S
        refine dv_nx trivial ?_
        refine dv_et ok2 8 rfl (ev_nil rfl) F rfl fun a F=>?_
        refine dv_et ok2 9 rfl (ev_fieldAddr' tu58 tf58_3 (z := 0) ts22 rfl ⟨_, rfl⟩ rfl) F rfl fun a F=>?_
        refine dv_op ok2 10 rfl [] ?_
        refine wl_storeC (wn rfl) rfl F S rfl rfl (vs := [v26]) (OwnS.cl h27) ts22 (one_cons (OwnS.one h27) one_nil) (k := 2) rfl (lb rfl) (c' := #[v20, v21, v22, v26, v24]) rfl rfl ?_; clear S; intro w S
        refine dv_nx trivial ?_
        refine dv_fin ok2 ?_
        refine inb_n ?_
        refine then_n ?_
        replace S : St g10 [[bx bm_ #[v20, v21, v22, v26, v24] 58], c11, c9] fr w := St.tail [[bx bm_ #[v20, v21, v22, v26, v24] 58], c11, c9] _ (((S.frontC 4 rfl).frontC 4 rfl).frontC 4 rfl)
        exact ⟨x16, x17, x18, y9, x20, v20, v21, v22, v26, v24, c11, c9, g10, F.sub ⟨rfl, trivial⟩, ((l8.trans l9).trans l10), S, (h20.mono l10), (h21.mono l10), (h22.mono l10), h27, (h24.mono l10), hm⟩
     ·refine wp_condF F rfl hc8 ?_
      refine wp_seq ?_
      refine wp_region_lit ?_
      refine wE (ev_move rfl) F S rfl fun a F=>?_
      refine wE (ev_move rfl) F S rfl fun a F=>?_
      refine wE (ev_nil rfl) F S rfl fun a F=>?_
      refine wE (ev_fieldAddr' tu58 tf58_1 (z := 0) ts24 rfl ⟨_, rfl⟩ rfl) F S rfl fun a F=>?_
      refine wE (ev_loadA tu24 rfl (cs := [vm_2]) ts24 rfl (box_ptr (cells := [vm_2]) 3 rfl 1 rfl (lb rfl))) F S rfl fun a F=>?_
      refine wE (ev_move rfl) F S rfl fun a F=>?_
      replace S : St g1 [[bx bm_ #[vm_1, vm_2, vm_3, vm_4, vm_5] 58], cm_1, cm_2, [bx b4 #[.string y3.Label, v3] 50], [bx b5 #[.string y2.Label, v2] 50], [bx b6 #[.string y1.Label, v1] 50]] fr w := ((((((S.frontC 2 rfl).frontC 2 rfl).frontC 2 rfl).frontC 8 rfl).frontC 8 rfl).frontC 8 rfl)
      obtain ⟨y15, hy15, hm⟩ := bind_some hm
      refine wl_call0 (wn rfl) rfl F rfl (syntax_merger__copy_ok (fr := (fl [[bx b4 #[.string y3.Label, v3] 50], [bx b5 #[.string y2.Label, v2] 50], [bx b6 #[.string y1.Label, v1] 50]] fr)) bm_ m_ vm_1 (hm_1.mono l1) vm_2 (hm_2.mono l1) vm_3 (hm_3.mono l1) vm_4 cm_1 (hm_4.mono l1) vm_5 cm_2 (hm_5.mono l1) m_.left vm_2 (hm_2.mono l1) a_ S hy15) rfl tc38 rfl rfl ?_; clear F a S
      rintro _ a w ⟨g13, v40, v41, v42, v43, v44, c19, c20, l13, S, h41, h42, h43, h44, h45, rfl⟩ F; replace S : St g13 [[bx bm_ #[v40, v41, v42, v43, v44] 58], c19, c20, [bx b4 #[.string y3.Label, v3] 50], [bx b5 #[.string y2.Label, v2] 50], [bx b6 #[.string y1.Label, v1] 50]] fr w := S
      refine wpList_nil ?_
      refine then_n ?_
      refine wp_dv [] mo S ?_; clear S; intro ok5 w S
      refine dv_et ok5 0 rfl (ev_move rfl) F rfl fun a F=>?_
      refine dv_et ok5 1 rfl (ev_move rfl) F rfl fun a F=>?_
      refine dv_et ok5 2 rfl (ev_nil rfl) F rfl fun a F=>?_
      refine dv_et ok5 3 rfl (ev_fieldAddr' tu58 tf58_4 (z := 0) ts38 rfl ⟨_, rfl⟩ rfl) F rfl fun a F=>?_
      refine dv_ev ok5 4 rfl (ev_load1 tu38 rfl rfl (box_ptr (cells := [v44]) 0 rfl 4 rfl (lb rfl))) F S rfl fun a F=>?_
      refine dv_et ok5 5 rfl (ev_move rfl) F rfl fun a F=>?_
      refine dv_et ok5 6 rfl (ev_nil rfl) F rfl fun a F=>?_
      refine dv_et ok5 7 rfl (ev_fieldAddr' tu58 tf58_3 (z := 0) ts22 rfl ⟨_, rfl⟩ rfl) F rfl fun a F=>?_
      refine dv_ev ok5 8 rfl (ev_load1 tu22 rfl rfl (box_ptr (cells := [v43]) 0 rfl 3 rfl (lb rfl))) F S rfl fun a F=>?_
      refine dv_et ok5 9 rfl (ev_lenOw h44 rfl tu22) F rfl fun a F=>?_
      obtain ⟨z3, hz3, hm⟩ := bind_some hm
      refine dv_et ok5 10 rfl (ev_int rfl rfl (bo_sub hz3)) F rfl fun a F=>?_
      refine dv_op ok5 11 rfl [(4, v44)] ?_
      refine wl_lit (l := ([z3] : List Int)) (vs := [.i6 z3]) (parts := [(0, .tmp 58)]) (wn rfl) rfl rfl rfl tu38 te3 (sz_cons rfl sz_nil) rfl (Cat.cons (show Rep.rep _ z3 _ from rfl) (Cat.nil _)) (coa_cons rfl coa_nil) rfl F S rfl rfl ?_; clear F a S
      rintro v45 c21 a w h46 F S
      refine dv_nx ⟨yl_ev rfl rfl (ev_load1 tu38 rfl rfl (box_ptr (cells := [v44]) 1 rfl 4 rfl (lb rfl))) F S, trivial⟩ ?_
      refine dv_op ok5 12 rfl [] ?_
      obtain ⟨cs9, hk3, hr10⟩ := OwnS.reads h46
      obtain ⟨y16, hy16, hm⟩ := bind_some hm
      refine wl_append (wn rfl) rfl tu38 tu38 te3 (by decide) (by decide) F S rfl rfl (k := 3) rfl h45 hk3 rfl (hr10 _ _ _ 0 rfl S) hy16 rfl rfl ?_; clear F a S
      rintro v46 c22 a w h47 S F; replace S : St g13 [c21, [bx bm_ #[v40, v41, v42, v43, v44] 58], c19, c22, [bx b4 #[.string y3.Label, v3] 50], [bx b5 #[.string y2.Label, v2] 50], [bx b6 #[.string y1.Label, v1] 50]] fr w := S
      refine dv_nx trivial ?_
      refine dv_et ok5 13 rfl (ev_nil rfl) F rfl fun a F=>?_
      refine dv_et ok5 14 rfl (ev_fieldAddr' tu58 tf58_4 (z := 0) ts38 rfl ⟨_, rfl⟩ rfl) F rfl fun a F=>?_
      refine dv_op ok5 15 rfl [] ?_
      refine wl_storeC (wn rfl) rfl F S rfl rfl (vs := [v46]) (OwnS.cl h47) ts38 (one_cons (OwnS.one h47) one_nil) (k := 1) rfl (lb rfl) (c' := #[v40, v41, v42, v43, v46]) rfl rfl ?_; clear S; intro w S
      refine dv_nx trivial ?_
      refine dv_fin ok5 ?_
      refine inb_n ?_
      refine then_n ?_
      replace S : St g13 [[bx bm_ #[v40, v41, v42, v43, v46] 58], c19, c22] fr w := St.tail [[bx bm_ #[v40, v41, v42, v43, v46] 58], c19, c22] _ (((S.frontC 3 rfl).frontC 3 rfl).frontC 3 rfl)
      exact ⟨y15.base.Nodes, y15.left.Nodes, y15.right.Nodes, y15.out, y16, v40, v41, v42, v43, v46, c19, c22, g13, F.sub ⟨rfl, trivial⟩, l13, S, h41, h42, h43, h44, h47, hm⟩
  ·clear F S hm; rintro a w ⟨x4, x5, x6, x7, x8, v4, v5, v6, v7, v8, c1, c2, g2, F, l2, S, h4, h5, h6, h7, h8, hm⟩
   obtain rfl := sinj hm
   refine post_n _ F rfl ar_nil ?_
   exact ⟨_, rfl, g2, v4, v5, v6, v7, v8, c1, c2, (l1.trans l2), S, h4, h5, h6, h7, h8, rfl⟩

theorem syntax_merger__merge.m_ok : ∀ (fu_ : Nat) {g : Gh} {fr : Hl} {w : World} {r : Merger_syntax} (bm_ : Nat) (m_ : Merger_syntax) (vm_1 : Value) (hm_1 : RepSl g m_.base.Nodes vm_1) (vm_2 : Value) (hm_2 : RepSl g m_.left.Nodes vm_2) (vm_3 : Value) (hm_3 : RepSl g m_.right.Nodes vm_3) (vm_4 : Value) (cm_1 : Hl) (hm_4 : OwnS g m_.out vm_4 cm_1) (vm_5 : Value) (cm_2 : Hl) (hm_5 : OwnS g m_.bad vm_5 cm_2) (o_ : Int) (a_ : Int) (b_ : Int) (S : St g [[bx bm_ #[vm_1, vm_2, vm_3, vm_4, vm_5] 58], cm_1, cm_2] fr w) (hm : syntax_merger__merge.m fu_ m_ o_ a_ b_ = some r), Calls Try.prog 30 [bp bm_ 0, .i6 o_, .i6 a_, .i6 b_].toArray w (fun en w' => ∃ v, en = .returned v ∧ ∃ (g' : Gh) (v1 v2 v3 v4 v5 : Value) (c1 c2 : Hl), Le g g' ∧ St g' [[bx bm_ #[v1, v2, v3, v4, v5] 58], c1, c2] fr w' ∧ RepSl g' r.base.Nodes v1 ∧ RepSl g' r.left.Nodes v2 ∧ RepSl g' r.right.Nodes v3 ∧ OwnS g' r.out v4 c1 ∧ OwnS g' r.bad v5 c2 ∧ .tuple #[] = v)
 | 0 => by intros; rename_i hm; cases hm
 | fu_ + 1 => syntax_merger__merge.body_ok (syntax_merger__merge.m_ok fu_)

theorem syntax_merger__merge_ok {g : Gh} {fr : Hl} {w : World} {r : Merger_syntax} (bm_ : Nat) (m_ : Merger_syntax) (vm_1 : Value) (hm_1 : RepSl g m_.base.Nodes vm_1) (vm_2 : Value) (hm_2 : RepSl g m_.left.Nodes vm_2) (vm_3 : Value) (hm_3 : RepSl g m_.right.Nodes vm_3) (vm_4 : Value) (cm_1 : Hl) (hm_4 : OwnS g m_.out vm_4 cm_1) (vm_5 : Value) (cm_2 : Hl) (hm_5 : OwnS g m_.bad vm_5 cm_2) (o_ : Int) (a_ : Int) (b_ : Int) (S : St g [[bx bm_ #[vm_1, vm_2, vm_3, vm_4, vm_5] 58], cm_1, cm_2] fr w) (hm : syntax_merger__merge m_ o_ a_ b_ = some r) :
  Calls Try.prog 30 [bp bm_ 0, .i6 o_, .i6 a_, .i6 b_].toArray w (fun en w' => ∃ v, en = .returned v ∧ ∃ (g' : Gh) (v1 v2 v3 v4 v5 : Value) (c1 c2 : Hl), Le g g' ∧ St g' [[bx bm_ #[v1, v2, v3, v4, v5] 58], c1, c2] fr w' ∧ RepSl g' r.base.Nodes v1 ∧ RepSl g' r.left.Nodes v2 ∧ RepSl g' r.right.Nodes v3 ∧ OwnS g' r.out v4 c1 ∧ OwnS g' r.bad v5 c2 ∧ .tuple #[] = v) := syntax_merger__merge.m_ok _ bm_ m_ vm_1 hm_1 vm_2 hm_2 vm_3 hm_3 vm_4 cm_1 hm_4 vm_5 cm_2 hm_5 o_ a_ b_ S hm

theorem syntax_Merge_ok {g : Gh} {fr : Hl} {w : World} {r : SyntaxTree × (List Int) × Fault} (base : SyntaxTree) (vbase1 : Value) (hbase1 : RepSl g base.Nodes vbase1) (left : SyntaxTree) (vleft1 : Value) (hleft1 : RepSl g left.Nodes vleft1) (right : SyntaxTree) (vright1 : Value) (hright1 : RepSl g right.Nodes vright1) (S : St g [] fr w) (hm : syntax_Merge base left right = some r) :
  Calls Try.prog 18 [.agg #[vbase1], .agg #[vleft1], .agg #[vright1]].toArray w (fun en w' => ∃ v, en = .returned v ∧ ∃ (g' : Gh) (v1 v2 : Value) (c1 c2 : Hl), Le g g' ∧ St g' [c1, c2] fr w' ∧ OwnS g' r.1.Nodes v1 c1 ∧ OwnS g' r.2.1 v2 c2 ∧ .tuple #[.agg #[v1], v2, .agg #[.i6 r.2.2.Code, .i6 r.2.2.Index]] = v) := by
 unfold syntax_Merge at hm
 refine calls_enter (fn := Try.f18) Try.func18 rfl Try.ntmps18 (lb rfl) ?_
 intro a F
 replace F : Fr 70 a [(0, .agg #[vbase1]), (1, .agg #[vleft1]), (2, .agg #[vright1])] := F
 refine wp_seq ?_
 refine wp_region_lit ?_
 refine wl_boxC (wn rfl) rfl rfl rfl F S rfl rfl ?_; clear F a S; rintro b1 a w F S
 refine wl_boxC (wn rfl) rfl rfl rfl F S rfl rfl ?_; clear F a S; rintro b2 a w F S
 refine wl_boxC (wn rfl) rfl rfl rfl F S rfl rfl ?_; clear F a S; rintro b3 a w F S
 refine wl_alloc (wn rfl) rfl tz24 (cs := [nilS]) rfl F S rfl rfl ?_; clear F a S; rintro b4 a w F S
 refine wE (ev_assign rfl) F S rfl fun a F=>?_
 refine wl_alloc (wn rfl) rfl tz26 (cs := [.i6 0, .i6 0]) rfl F S rfl rfl ?_; clear F a S; rintro b5 a w F S
 refine wpList_nil ?_
 refine then_n ?_
 refine wp_cut (fun a w => ∃ (g1 : Gh), Fr 70 a [(8, bp b5 0), (6, bp b4 0), (5, bp b3 0), (4, bp b2 0), (3, bp b1 0)] ∧ Le g g1 ∧ St g1 [[bx b5 #[.i6 0, .i6 0] 26], [bx b4 #[nilS] 24], [bx b3 #[vright1] 24], [bx b2 #[vleft1] 24], [bx b1 #[vbase1] 24]] fr w ∧ syntax_Merge.j1 base left right = some r) ?_ ?_
 ·refine wp_seq ?_
  refine wp_region_lit ?_
  refine wE (ev_loadA tu24 rfl (cs := [vbase1]) ts24 rfl (box_ptr (cells := [vbase1]) 4 rfl 0 rfl (lb rfl))) F S rfl fun a F=>?_
  refine wE (ev_loadA tu24 rfl (cs := [vleft1]) ts24 rfl (box_ptr (cells := [vleft1]) 3 rfl 0 rfl (lb rfl))) F S rfl fun a F=>?_
  refine wE (ev_loadA tu24 rfl (cs := [vright1]) ts24 rfl (box_ptr (cells := [vright1]) 2 rfl 0 rfl (lb rfl))) F S rfl fun a F=>?_
  refine wl_lit (l := ([base, left, right] : List SyntaxTree)) (vs := [.agg #[vbase1], .agg #[vleft1], .agg #[vright1]]) (parts := [(0, .tmp 13), (1, .tmp 14), (2, .tmp 15)]) (wn rfl) rfl rfl rfl tu56 te24 (sz_cons rfl (sz_cons rfl (sz_cons rfl sz_nil))) rfl (Cat.cons (rep_SyntaxTree_mk (x := base) hbase1) (Cat.cons (rep_SyntaxTree_mk (x := left) hleft1) (Cat.cons (rep_SyntaxTree_mk (x := right) hright1) (Cat.nil _)))) (coa_cons rfl (coa_cons rfl (coa_cons rfl coa_nil))) rfl F S rfl rfl ?_; clear F a S
  rintro v6 c3 a w h6 F S
  refine wE (ev_lenOw h6 rfl tu56) F S rfl fun a F=>?_
  refine wE (ev_move rfl) F S rfl fun a F=>?_
  refine wpList_nil ?_
  refine then_n ?_
  refine wp_block ?_
  obtain ⟨r1, hr1, hm⟩ := bind_some hm
  have hmo1 := hm; clear hm
  refine wp_iter (σ := Int) (ρ := (SyntaxTree × (List Int) × Fault) ⊕ Unit) (m := fun s => syntax_Merge.l1 base left right s) (I := fun x1 a w => ∃ (g3 : Gh), Fr 70 a [(18, .i6 x1), (17, .i6 (([base, left, right] : List SyntaxTree).length : Int)), (16, v6), (8, bp b5 0), (6, bp b4 0), (5, bp b3 0), (4, bp b2 0), (3, bp b1 0)] ∧ Le g g3 ∧ St g3 [c3, [bx b5 #[.i6 0, .i6 0] 26], [bx b4 #[nilS] 24], [bx b3 #[vright1] 24], [bx b2 #[vleft1] 24], [bx b1 #[vbase1] 24]] fr w) hr1 ?_ ?_
  ·exact ⟨g, F.sub ⟨rfl, rfl, rfl, rfl, rfl, rfl, rfl, rfl, trivial⟩, (Le.refl _), S⟩
  ·clear F S; rintro x1 a w x2 ⟨g3, F, l3, S⟩ hx1 hfin1
   have hm : syntax_Merge.l1 base left right x1 = some x2 := hx1; clear hx1
   unfold syntax_Merge.l1 at hm
   refine wp_seq ?_
   refine wp_region_lit ?_
   refine wE (ev_int rfl rfl (bo_lss _ _ _ _)) F S rfl fun a F=>?_
   refine wpList_nil ?_
   refine then_n ?_
   refine wp_seq ?_
   obtain ⟨hc2, hm⟩ | ⟨hc2, hm⟩ := ite_or hm
   ·refine wp_condT F rfl hc2 ?_
    refine wp_skip ?_
    refine then_n ?_
    refine wp_seq ?_
    refine wp_block ?_
    refine wp_seq ?_
    refine wp_region_lit ?_
    refine wE (ev_move rfl) F S rfl fun a F=>?_
    obtain ⟨y2, hy2, hm⟩ := bind_some hm
    refine wE (ev_idxO (h6.mono l3) hy2 tu56 ts24 rfl rfl) F S rfl fun a F=>?_
    obtain ⟨cs1, hr2, hq1⟩ := elemO (h6.mono l3) hy2
    obtain ⟨v7, rfl, h7⟩ := rep_SyntaxTree hr2
    refine wE (ev_loadA tu24 rfl (cs := [v7]) ts24 rfl (hq1 _ _ 0 rfl)) F S rfl fun a F=>?_
    refine wl_alloc (wn rfl) rfl tz24 (cs := [nilS]) rfl F S rfl rfl ?_; clear F a S; rintro b7 a w F S
    refine wE (ev_assign rfl) F S rfl fun a F=>?_
    refine wl_storeC (wn rfl) rfl F S rfl rfl (vs := [v7]) rfl ts24 (one_cons h7.one one_nil) (k := 0) rfl (lb rfl) (c' := #[v7]) rfl rfl ?_; clear S; intro w S
    refine wpList_nil ?_
    refine then_n ?_
    refine wp_seq ?_
    refine wp_region_lit ?_
    refine wE (ev_loadA tu24 rfl (cs := [v7]) ts24 rfl (box_ptr (cells := [v7]) 0 rfl 0 rfl (lb rfl))) F S rfl fun a F=>?_
    obtain ⟨y3, hy3, hm⟩ := bind_some hm
    refine wl_call0 (wn rfl) rfl F rfl (syntax_Validate_ok (fr := (fl [[bx b7 #[v7] 24], c3, [bx b5 #[.i6 0, .i6 0] 26], [bx b4 #[nilS] 24], [bx b3 #[vright1] 24], [bx b2 #[vleft1] 24], [bx b1 #[vbase1] 24]] fr)) y2 v7 h7 S hy3) rfl tc14 rfl rfl ?_; clear F a S
    rintro _ a w ⟨g4, l4, S, rfl⟩ F; replace S : St g4 [[bx b7 #[v7] 24], c3, [bx b5 #[.i6 0, .i6 0] 26], [bx b4 #[nilS] 24], [bx b3 #[vright1] 24], [bx b2 #[vleft1] 24], [bx b1 #[vbase1] 24]] fr w := S
    refine wl_alloc (wn rfl) rfl tz26 (cs := [.i6 0, .i6 0]) rfl F S rfl rfl ?_; clear F a S; rintro b8 a w F S
    refine wl_storeC (wn rfl) rfl F S rfl rfl (vs := [.i6 y3.Code, .i6 y3.Index]) rfl ts26 (one_cons rfl (one_cons rfl one_nil)) (k := 0) rfl (lb rfl) (c' := #[.i6 y3.Code, .i6 y3.Index]) rfl rfl ?_; clear S; intro w S
    refine wpList_nil ?_
    refine then_n ?_
    refine wp_cut (fun a w => ∃ (x3 : Int) (g5 : Gh), Fr 70 a [(11, bp b8 0), (18, .i6 x1), (17, .i6 (([base, left, right] : List SyntaxTree).length : Int)), (16, v6), (8, bp b5 0), (6, bp b4 0), (5, bp b3 0), (4, bp b2 0), (3, bp b1 0)] ∧ Le g4 g5 ∧ St g5 [[bx b8 #[.i6 y3.Code, .i6 x3] 26], c3, [bx b5 #[.i6 0, .i6 0] 26], [bx b4 #[nilS] 24], [bx b3 #[vright1] 24], [bx b2 #[vleft1] 24], [bx b1 #[vbase1] 24]] fr w ∧ syntax_Merge.j2 x1 y3 x3 = some x2) ?_ ?_
    ·refine wp_seq ?_
     refine wp_region_lit ?_
     refine wE (ev_loadA tu26 rfl (cs := [.i6 y3.Code, .i6 y3.Index]) ts26 rfl (box_ptr (cells := [.i6 y3.Code, .i6 y3.Index]) 0 rfl 0 rfl (lb rfl))) F S rfl fun a F=>?_
     refine wE (ev_build (parts := []) (vs := []) rfl (fun w => tb26_  w)) F S rfl fun a F=>?_
     refine wE (ev_neS tu26 tqa26 tqb26 tqc26 (xs := [.i6 y3.Code, .i6 y3.Index]) (ys := [.i6 0, .i6 0]) rfl rfl ⟨_, _, rfl, by decide, ⟨_, _, rfl, rfl, leaf_int tu3⟩, ⟨_, _, rfl, by decide, ⟨_, _, rfl, rfl, leaf_int tu3⟩, rfl⟩⟩) F S rfl fun a F=>?_
     refine wE (ev_move rfl) F S rfl fun a F=>?_
     obtain ⟨x4, hx2, hm⟩ := bind_some hm
     refine wl_cut 3 (fun a w' => w = w' ∧ Fr 70 a [(31, .bool x4), (11, bp b8 0), (9, .i6 x1), (18, .i6 x1), (17, .i6 (([base, left, right] : List SyntaxTree).length : Int)), (16, v6), (8, bp b5 0), (6, bp b4 0), (5, bp b3 0), (4, bp b2 0), (3, bp b1 0)]) ?_ ?_
     ·clear hm; obtain ⟨hc4, hm⟩ | ⟨hc4, hm⟩ := ite_or hx2
      ·refine wl_ev (wg F rfl rfl rfl rfl hc4) (ev_move rfl) F S rfl rfl ?_; clear F a; intro a F
       refine wl_ev (wg F rfl rfl rfl rfl hc4) (ev_int rfl rfl (bo_gtr _ _ _ _)) F S rfl rfl ?_; clear F a; intro a F
       refine wE (ev_pickT rfl hc4 rfl) F S rfl fun a F=>?_
       obtain rfl := sinj hm
       refine wpList_nil (then_n ?_); exact ⟨rfl, F.sub ⟨rfl, rfl, rfl, rfl, rfl, rfl, rfl, rfl, rfl, rfl, rfl, trivial⟩⟩
      ·refine wl_skip rfl rfl rfl rfl (ne_tf hc4) F rfl rfl ?_; clear F a; intro a F
       refine wl_skip rfl rfl rfl rfl (ne_tf hc4) F rfl rfl ?_; clear F a; intro a F
       refine wE (ev_pickF rfl hc4 rfl) F S rfl fun a F=>?_
       obtain rfl := sinj hm
       refine wpList_nil (then_n ?_); exact ⟨rfl, F.sub ⟨rfl, rfl, rfl, rfl, rfl, rfl, rfl, rfl, rfl, rfl, rfl, trivial⟩⟩
     clear F; rintro a w' ⟨rfl, F⟩
     refine wpList_nil ?_
     refine then_n ?_
     obtain ⟨hc5, hm⟩ | ⟨hc5, hm⟩ := ite_or hm
     ·refine wp_condT F rfl hc5 ?_
      refine wp_region_lit ?_
      refine wE (ev_move rfl) F S rfl fun a F=>?_
      obtain ⟨z5, hz5, hm⟩ := bind_some hm
      refine wE (ev_int rfl rfl (bo_sub hz5)) F S rfl fun a F=>?_
      refine wE (ev_fieldAddr' tu26 tf26_1 (z := 0) ts3 rfl ⟨_, rfl⟩ rfl) F S rfl fun a F=>?_
      refine wl_storeC (wn rfl) rfl F S rfl rfl (vs := [.i6 z5]) rfl ts3 (one_cons rfl one_nil) (k := 0) rfl (lb rfl) (c' := #[.i6 y3.Code, .i6 z5]) rfl rfl ?_; clear S; intro w S
      refine wpList_nil ?_
      refine then_n ?_
      replace S : St g4 [[bx b8 #[.i6 y3.Code, .i6 z5] 26], c3, [bx b5 #[.i6 0, .i6 0] 26], [bx b4 #[nilS] 24], [bx b3 #[vright1] 24], [bx b2 #[vleft1] 24], [bx b1 #[vbase1] 24]] fr w := St.tail [[bx b8 #[.i6 y3.Code, .i6 z5] 26], c3, [bx b5 #[.i6 0, .i6 0] 26], [bx b4 #[nilS] 24], [bx b3 #[vright1] 24], [bx b2 #[vleft1] 24], [bx b1 #[vbase1] 24]] _ (((((((S.frontC 7 rfl).frontC 7 rfl).frontC 7 rfl).frontC 7 rfl).frontC 7 rfl).frontC 7 rfl).frontC 6 rfl)
      exact ⟨z5, g4, F.sub ⟨rfl, rfl, rfl, rfl, rfl, rfl, rfl, rfl, rfl, trivial⟩, (Le.refl _), S, hm⟩
     ·refine wp_condF F rfl hc5 ?_
      refine wp_skip ?_
      refine then_n ?_
      replace S : St g4 [[bx b8 #[.i6 y3.Code, .i6 y3.Index] 26], c3, [bx b5 #[.i6 0, .i6 0] 26], [bx b4 #[nilS] 24], [bx b3 #[vright1] 24], [bx b2 #[vleft1] 24], [bx b1 #[vbase1] 24]] fr w := St.tail [[bx b8 #[.i6 y3.Code, .i6 y3.Index] 26], c3, [bx b5 #[.i6 0, .i6 0] 26], [bx b4 #[nilS] 24], [bx b3 #[vright1] 24], [bx b2 #[vleft1] 24], [bx b1 #[vbase1] 24]] _ (((((((S.frontC 7 rfl).frontC 7 rfl).frontC 7 rfl).frontC 7 rfl).frontC 7 rfl).frontC 7 rfl).frontC 6 rfl)
      exact ⟨y3.Index, g4, F.sub ⟨rfl, rfl, rfl, rfl, rfl, rfl, rfl, rfl, rfl, trivial⟩, (Le.refl _), S, hm⟩
    ·clear F S hm; rintro a w ⟨x3, g5, F, l5, S, hm⟩
     refine wp_seq ?_
     refine wp_region_lit ?_
     refine wE (ev_loadA tu26 rfl (cs := [.i6 y3.Code, .i6 x3]) ts26 rfl (box_ptr (cells := [.i6 y3.Code, .i6 x3]) 0 rfl 0 rfl (lb rfl))) F S rfl fun a F=>?_
     refine wE (ev_build (parts := []) (vs := []) rfl (fun w => tb26_  w)) F S rfl fun a F=>?_
     refine wE (ev_neS tu26 tqa26 tqb26 tqc26 (xs := [.i6 y3.Code, .i6 x3]) (ys := [.i6 0, .i6 0]) rfl rfl ⟨_, _, rfl, by decide, ⟨_, _, rfl, rfl, leaf_int tu3⟩, ⟨_, _, rfl, by decide, ⟨_, _, rfl, rfl, leaf_int tu3⟩, rfl⟩⟩) F S rfl fun a F=>?_
     refine wpList_nil ?_
     refine then_n ?_
     obtain ⟨hc3, hm⟩ | ⟨hc3, hm⟩ := ite_or hm
     ·refine wp_condT F rfl hc3 ?_
      refine wp_seq ?_
      refine wp_dv [] mo S ?_; clear S; intro ok2 w S
      refine dv_et ok2 0 rfl (ev_build (parts := []) (vs := []) rfl (fun w => tb24_  w)) F rfl fun a F=>?_
      refine dv_ev ok2 1 rfl (ev_loadA tu26 rfl (cs := [.i6 y3.Code, .i6 x3]) ts26 rfl (box_ptr (cells := [.i6 y3.Code, .i6 x3]) 0 rfl 0 rfl (lb rfl))) F S rfl fun a F=>?_
      refine dv_op ok2 2 rfl [(1, .agg #[.i6 y3.Code, .i6 x3])] ?_
      refine wl_storeC (wn rfl) rfl F S rfl rfl (vs := [nilS]) rfl ts24 (one_cons rfl one_nil) (k := 3) rfl (lb rfl) (c' := #[nilS]) rfl rfl ?_; clear S; intro w S
      refine dv_nx ⟨yl_ev rfl rfl (ev_loadA tu26 rfl (cs := [.i6 y3.Code, .i6 x3]) ts26 rfl (box_ptr (cells := [.i6 y3.Code, .i6 x3]) 0 rfl 0 rfl (lb rfl))) F S, trivial⟩ ?_
      refine dv_et ok2 3 rfl (ev_assign rfl) F rfl fun a F=>?_
      refine dv_op ok2 4 rfl [] ?_
      refine wl_storeC (wn rfl) rfl F S rfl rfl (vs := [.i6 y3.Code, .i6 x3]) rfl ts26 (one_cons rfl (one_cons rfl one_nil)) (k := 2) rfl (lb rfl) (c' := #[.i6 y3.Code, .i6 x3]) rfl rfl ?_; clear S; intro w S
      refine dv_nx trivial ?_
      refine dv_fin ok2 ?_
      refine then_n ?_
      refine wp_ret ?_
      refine inb_r ?_
      refine then_r ?_
      refine then_r ?_
      refine inb_r ?_
      refine then_r ?_
      obtain rfl := sinj hm
      obtain rfl := hfin1 _ rfl
      clear hm
      have hm : (some (({ Nodes := [] } : SyntaxTree), [], ({ Code := y3.Code, Index := x3 } : Fault)) : Option (SyntaxTree × (List Int) × Fault)) = some _ := hmo1
      obtain rfl := sinj hm
      replace S : St g5 [[], [bx b8 #[.i6 y3.Code, .i6 x3] 26], c3, [bx b5 #[.i6 y3.Code, .i6 x3] 26], [bx b4 #[nilS] 24], [bx b3 #[vright1] 24], [bx b2 #[vleft1] 24], [bx b1 #[vbase1] 24]] fr w := S
      replace S : St g5 [[], [], [bx b8 #[.i6 y3.Code, .i6 x3] 26], c3, [bx b5 #[.i6 y3.Code, .i6 x3] 26], [bx b4 #[nilS] 24], [bx b3 #[vright1] 24], [bx b2 #[vleft1] 24], [bx b1 #[vbase1] 24]] fr w := S
      refine post_r _ F rfl (ar_cons (resA rfl tu24 rfl (box_ptr (cells := [nilS]) 5 rfl 0 rfl (lb rfl) w S) ts24) (ar_cons (resT rfl) (ar_cons (resA rfl tu26 rfl (box_ptr (cells := [.i6 y3.Code, .i6 x3]) 4 rfl 0 rfl (lb rfl) w S) ts26) ar_nil))) ?_
      replace S : St g5 [[], []] fr w := St.tail [[], []] _ ((S.frontC 0 rfl).frontC 2 rfl)
      exact ⟨_, rfl, g5, (nilS), (nilS), [], [], ((l3.trans l4).trans l5), S, (OwnS.nil _), (OwnS.nil _), rfl⟩
     ·refine wp_condF F rfl hc3 ?_
      refine wp_skip ?_
      refine inb_n ?_
      refine then_n ?_
      refine wp_region_lit ?_
      obtain ⟨z4, hz4, hm⟩ := bind_some hm
      refine wE (ev_int rfl rfl (bo_add hz4)) F S rfl fun a F=>?_
      refine wE (ev_move rfl) F S rfl fun a F=>?_
      refine wpList_nil ?_
      refine then_n ?_
      obtain rfl := sinj hm
      refine ⟨_, rfl, ?_⟩
      replace S : St g5 [c3, [bx b5 #[.i6 0, .i6 0] 26], [bx b4 #[nilS] 24], [bx b3 #[vright1] 24], [bx b2 #[vleft1] 24], [bx b1 #[vbase1] 24]] fr w := St.tail [c3, [bx b5 #[.i6 0, .i6 0] 26], [bx b4 #[nilS] 24], [bx b3 #[vright1] 24], [bx b2 #[vleft1] 24], [bx b1 #[vbase1] 24]] _ ((((((S.frontC 6 rfl).frontC 6 rfl).frontC 6 rfl).frontC 6 rfl).frontC 6 rfl).frontC 6 rfl)
      exact ⟨g5, F.sub ⟨rfl, rfl, rfl, rfl, rfl, rfl, rfl, rfl, trivial⟩, ((l3.trans l4).trans l5), S⟩
   ·refine wp_condF F rfl hc2 ?_
    refine wp_exit ?_
    refine then_e ?_
    refine then_e ?_
    refine inb_x ?_
    refine then_n ?_
    obtain rfl := sinj hm
    obtain rfl := hfin1 _ rfl
    clear hm
    have hm : (syntax_Merge.j1 base left right : Option (SyntaxTree × (List Int) × Fault)) = some _ := hmo1
    replace S : St g3 [[bx b5 #[.i6 0, .i6 0] 26], [bx b4 #[nilS] 24], [bx b3 #[vright1] 24], [bx b2 #[vleft1] 24], [bx b1 #[vbase1] 24]] fr w := St.tail [[bx b5 #[.i6 0, .i6 0] 26], [bx b4 #[nilS] 24], [bx b3 #[vright1] 24], [bx b2 #[vleft1] 24], [bx b1 #[vbase1] 24]] _ (((((S.frontC 5 rfl).frontC 5 rfl).frontC 5 rfl).frontC 5 rfl).frontC 5 rfl)
    exact ⟨g3, F.sub ⟨rfl, rfl, rfl, rfl, rfl, trivial⟩, l3, S, hm⟩
 ·clear F S hm; rintro a w ⟨g1, F, l1, S, hm⟩
  refine wp_seq ?_
  refine wp_region_lit ?_
  refine wE (ev_loadA tu24 rfl (cs := [vbase1]) ts24 rfl (box_ptr (cells := [vbase1]) 4 rfl 0 rfl (lb rfl))) F S rfl fun a F=>?_
  refine wE (ev_loadA tu24 rfl (cs := [vleft1]) ts24 rfl (box_ptr (cells := [vleft1]) 3 rfl 0 rfl (lb rfl))) F S rfl fun a F=>?_
  refine wE (ev_loadA tu24 rfl (cs := [vright1]) ts24 rfl (box_ptr (cells := [vright1]) 2 rfl 0 rfl (lb rfl))) F S rfl fun a F=>?_
  refine wE (ev_build (parts := [(0, .tmp 41), (1, .tmp 42), (2, .tmp 43)]) (vs := [(0, .agg #[vbase1]), (1, .agg #[vleft1]), (2, .agg #[vright1])]) rfl (fun w => tb58_0_1_2 vbase1 (RepSl.isSl hbase1) vleft1 (RepSl.isSl hleft1) vright1 (RepSl.isSl hright1) w)) F S rfl fun a F=>?_
  refine wl_alloc (wn rfl) rfl tz58 (cs := [nilS, nilS, nilS, nilS, nilS]) rfl F S rfl rfl ?_; clear F a S; rintro b6 a w F S
  refine wl_storeC (wn rfl) rfl F S rfl rfl (vs := [vbase1, vleft1, vright1, nilS, nilS]) rfl ts58 (one_cons hbase1.one (one_cons hleft1.one (one_cons hright1.one (one_cons rfl (one_cons rfl one_nil))))) (k := 0) rfl (lb rfl) (c' := #[vbase1, vleft1, vright1, nilS, nilS]) rfl rfl ?_; clear S; intro w S
  refine wpList_nil ?_
  refine then_n ?_
  refine wp_seq ?_
  refine wp_region_lit ?_
  refine wE (ev_fieldAddr' tu24 tf24_0 (z := 0) ts22 rfl ⟨_, rfl⟩ rfl) F S rfl fun a F=>?_
  refine wE (ev_load1 tu22 rfl rfl (box_ptr (cells := [vbase1]) 5 rfl 0 rfl (lb rfl))) F S rfl fun a F=>?_
  refine wE (ev_lenSh hbase1 rfl tu22) F S rfl fun a F=>?_
  obtain ⟨z1, hz1, hm⟩ := bind_some hm
  refine wE (ev_int rfl rfl (bo_sub hz1)) F S rfl fun a F=>?_
  refine wE (ev_fieldAddr' tu24 tf24_0 (z := 0) ts22 rfl ⟨_, rfl⟩ rfl) F S rfl fun a F=>?_
  refine wE (ev_load1 tu22 rfl rfl (box_ptr (cells := [vleft1]) 4 rfl 0 rfl (lb rfl))) F S rfl fun a F=>?_
  refine wE (ev_lenSh hleft1 rfl tu22) F S rfl fun a F=>?_
  obtain ⟨z2, hz2, hm⟩ := bind_some hm
  refine wE (ev_int rfl rfl (bo_sub hz2)) F S rfl fun a F=>?_
  refine wE (ev_fieldAddr' tu24 tf24_0 (z := 0) ts22 rfl ⟨_, rfl⟩ rfl) F S rfl fun a F=>?_
  refine wE (ev_load1 tu22 rfl rfl (box_ptr (cells := [vright1]) 3 rfl 0 rfl (lb rfl))) F S rfl fun a F=>?_
  refine wE (ev_lenSh hright1 rfl tu22) F S rfl fun a F=>?_
  obtain ⟨z3, hz3, hm⟩ := bind_some hm
  refine wE (ev_int rfl rfl (bo_sub hz3)) F S rfl fun a F=>?_
  replace S : St g1 [[], [bx b6 #[vbase1, vleft1, vright1, nilS, nilS] 58], [bx b5 #[.i6 0, .i6 0] 26], [bx b4 #[nilS] 24], [bx b3 #[vright1] 24], [bx b2 #[vleft1] 24], [bx b1 #[vbase1] 24]] fr w := S
  replace S : St g1 [[], [], [bx b6 #[vbase1, vleft1, vright1, nilS, nilS] 58], [bx b5 #[.i6 0, .i6 0] 26], [bx b4 #[nilS] 24], [bx b3 #[vright1] 24], [bx b2 #[vleft1] 24], [bx b1 #[vbase1] 24]] fr w := S
  replace S : St g1 [[bx b6 #[vbase1, vleft1, vright1, nilS, nilS] 58], [], [], [bx b5 #[.i6 0, .i6 0] 26], [bx b4 #[nilS] 24], [bx b3 #[vright1] 24], [bx b2 #[vleft1] 24], [bx b1 #[vbase1] 24]] fr w := ((((((((S.frontC 7 rfl).frontC 7 rfl).frontC 7 rfl).frontC 7 rfl).frontC 7 rfl).frontC 5 rfl).frontC 7 rfl).frontC 9 rfl)
  obtain ⟨y1, hy1, hm⟩ := bind_some hm
  refine wl_call0 (wn rfl) rfl F rfl (syntax_merger__merge_ok (fr := (fl [[bx b5 #[.i6 0, .i6 0] 26], [bx b4 #[nilS] 24], [bx b3 #[vright1] 24], [bx b2 #[vleft1] 24], [bx b1 #[vbase1] 24]] fr)) b6 ({ base := base, left := left, right := right, out := [], bad := [] } : Merger_syntax) vbase1 (hbase1.mono l1) vleft1 (hleft1.mono l1) vright1 (hright1.mono l1) (nilS) [] (OwnS.nil _) (nilS) [] (OwnS.nil _) z1 z2 z3 S hy1) rfl tc30 rfl rfl ?_; clear F a S
  rintro _ a w ⟨g2, v1, v2, v3, v4, v5, c1, c2, l2, S, h1, h2, h3, h4, h5, rfl⟩ F; replace S : St g2 [[bx b6 #[v1, v2, v3, v4, v5] 58], c1, c2, [bx b5 #[.i6 0, .i6 0] 26], [bx b4 #[nilS] 24], [bx b3 #[vright1] 24], [bx b2 #[vleft1] 24], [bx b1 #[vbase1] 24]] fr w := S
  refine wpList_nil ?_
  refine then_n ?_
  refine wp_seq ?_
  refine wp_seq ?_
  refine wp_region_lit ?_
  refine wE (ev_fieldAddr' tu58 tf58_3 (z := 0) ts22 rfl ⟨_, rfl⟩ rfl) F S rfl fun a F=>?_
  refine wE (ev_load1 tu22 rfl rfl (box_ptr (cells := [v4]) 0 rfl 3 rfl (lb rfl))) F S rfl fun a F=>?_
  refine wE (ev_lenOw h4 rfl tu22) F S rfl fun a F=>?_
  refine wE (ev_int rfl rfl (bo_gtr _ _ _ _)) F S rfl fun a F=>?_
  refine wpList_nil ?_
  refine then_n ?_
  obtain ⟨hc1, hm⟩ | ⟨hc1, hm⟩ := ite_or hm
  ·refine wp_condT F rfl hc1 ?_
   refine wp_seq ?_
   refine wp_region_lit ?_
   refine wE (ev_build (parts := []) (vs := []) rfl (fun w => tb24_  w)) F S rfl fun a F=>?_
   refine wE (ev_build (parts := [(0, .const (.i6 10)), (1, .const (.i6 (-1)))]) (vs := [(0, .i6 10), (1, .i6 (-1))]) rfl (fun w => tb26_0_1 10 (-1) w)) F S rfl fun a F=>?_
   refine wl_storeC (wn rfl) rfl F S rfl rfl (vs := [nilS]) rfl ts24 (one_cons rfl one_nil) (k := 4) rfl (lb rfl) (c' := #[nilS]) rfl rfl ?_; clear S; intro w S
   refine wE (ev_assign rfl) F S rfl fun a F=>?_
   refine wl_storeC (wn rfl) rfl F S rfl rfl (vs := [.i6 10, .i6 (-1)]) rfl ts26 (one_cons rfl (one_cons rfl one_nil)) (k := 3) rfl (lb rfl) (c' := #[.i6 10, .i6 (-1)]) rfl rfl ?_; clear S; intro w S
   refine wpList_nil ?_
   refine then_n ?_
   refine wp_ret ?_
   refine then_r ?_
   obtain rfl := sinj hm
   replace S : St g2 [[], [bx b6 #[v1, v2, v3, v4, v5] 58], c1, c2, [bx b5 #[.i6 10, .i6 (-1)] 26], [bx b4 #[nilS] 24], [bx b3 #[vright1] 24], [bx b2 #[vleft1] 24], [bx b1 #[vbase1] 24]] fr w := S
   replace S : St g2 [[], [], [bx b6 #[v1, v2, v3, v4, v5] 58], c1, c2, [bx b5 #[.i6 10, .i6 (-1)] 26], [bx b4 #[nilS] 24], [bx b3 #[vright1] 24], [bx b2 #[vleft1] 24], [bx b1 #[vbase1] 24]] fr w := S
   refine post_r _ F rfl (ar_cons (resA rfl tu24 rfl (box_ptr (cells := [nilS]) 6 rfl 0 rfl (lb rfl) w S) ts24) (ar_cons (resT rfl) (ar_cons (resA rfl tu26 rfl (box_ptr (cells := [.i6 10, .i6 (-1)]) 5 rfl 0 rfl (lb rfl) w S) ts26) ar_nil))) ?_
   replace S : St g2 [[], []] fr w := St.tail [[], []] _ ((S.frontC 0 rfl).frontC 2 rfl)
   exact ⟨_, rfl, g2, (nilS), (nilS), [], [], (l1.trans l2), S, (OwnS.nil _), (OwnS.nil _), rfl⟩
  ·refine wp_condF F rfl hc1 ?_
   refine wp_skip ?_
   refine then_n ?_
   refine wp_seq ?_
   refine wp_dv [] mo S ?_; clear S; intro ok1 w S
   refine dv_et ok1 0 rfl (ev_fieldAddr' tu58 tf58_3 (z := 0) ts22 rfl ⟨_, rfl⟩ rfl) F rfl fun a F=>?_
   refine dv_ev ok1 1 rfl (ev_load1 tu22 rfl rfl (box_ptr (cells := [v4]) 0 rfl 3 rfl (lb rfl))) F S rfl fun a F=>?_
   refine dv_et ok1 2 rfl (ev_build (parts := [(0, .tmp 65)]) (vs := [(0, v4)]) rfl (fun w => tb24_0 v4 (OwnS.isSl h4) w)) F rfl fun a F=>?_
   refine dv_et ok1 3 rfl (ev_fieldAddr' tu58 tf58_4 (z := 0) ts38 rfl ⟨_, rfl⟩ rfl) F rfl fun a F=>?_
   refine dv_ev ok1 4 rfl (ev_load1 tu38 rfl rfl (box_ptr (cells := [v5]) 0 rfl 4 rfl (lb rfl))) F S rfl fun a F=>?_
   refine dv_et ok1 5 rfl (ev_build (parts := []) (vs := []) rfl (fun w => tb26_  w)) F rfl fun a F=>?_
   refine dv_op ok1 6 rfl [(4, v5)] ?_
   refine wl_storeC (wn rfl) rfl F S rfl rfl (vs := [v4]) rfl ts24 (one_cons (OwnS.one h4) one_nil) (k := 4) rfl (lb rfl) (c' := #[v4]) rfl rfl ?_; clear S; intro w S
   refine dv_nx ⟨yl_ev rfl rfl (ev_load1 tu38 rfl rfl (box_ptr (cells := [v5]) 0 rfl 4 rfl (lb rfl))) F S, trivial⟩ ?_
   refine dv_et ok1 7 rfl (ev_assign rfl) F rfl fun a F=>?_
   refine dv_op ok1 8 rfl [] ?_
   refine wl_storeC (wn rfl) rfl F S rfl rfl (vs := [.i6 0, .i6 0]) rfl ts26 (one_cons rfl (one_cons rfl one_nil)) (k := 3) rfl (lb rfl) (c' := #[.i6 0, .i6 0]) rfl rfl ?_; clear S; intro w S
   refine dv_nx trivial ?_
   refine dv_fin ok1 ?_
   refine then_n ?_
   refine wp_ret ?_
   obtain rfl := sinj hm
   refine post_r _ F rfl (ar_cons (resA rfl tu24 rfl (box_ptr (cells := [v4]) 4 rfl 0 rfl (lb rfl) w S) ts24) (ar_cons (resT rfl) (ar_cons (resA rfl tu26 rfl (box_ptr (cells := [.i6 0, .i6 0]) 3 rfl 0 rfl (lb rfl) w S) ts26) ar_nil))) ?_
   replace S : St g2 [c1, c2] fr w := St.tail [c1, c2] _ ((S.frontC 2 rfl).frontC 2 rfl)
   exact ⟨_, rfl, g2, v4, v5, c1, c2, (l1.trans l2), S, h4, h5, rfl⟩
end Go.Dc
