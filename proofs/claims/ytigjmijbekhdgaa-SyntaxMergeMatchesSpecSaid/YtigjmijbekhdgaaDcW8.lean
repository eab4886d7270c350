/- Walks: each function comes to what its model says. -/
import Derived.Test.YtigjmijbekhdgaaDcTab
import Derived.Test.YtigjmijbekhdgaaDcM
import Derived.Test.YtigjmijbekhdgaaDcW2
import Derived.Test.YtigjmijbekhdgaaDcW3
import Derived.Test.YtigjmijbekhdgaaDcW7
namespace Go.Dc
open Go Go.Proofs
set_option maxRecDepth 100000
set_option maxHeartbeats 4000000
set_option linter.unusedVariables false
theorem changeforgeref2_merged.body_ok {rec_ : SyntaxMerge_changeforgeref2 → SyntaxTree → Int → SyntaxTree → Int → SyntaxTree → Int → Option SyntaxMerge_changeforgeref2} (hrec : ∀ {g : Gh} {fr : Hl} {w : World} {r : SyntaxMerge_changeforgeref2} (m_ : SyntaxMerge_changeforgeref2) (vm_1 : Value) (cm_1 : Hl) (hm_1 : OwnS g m_.Nodes vm_1 cm_1) (vm_2 : Value) (cm_2 : Hl) (hm_2 : OwnS g m_.Conflicts vm_2 cm_2) (base : SyntaxTree) (vbase1 : Value) (hbase1 : RepSl g base.Nodes vbase1) (i_ : Int) (left : SyntaxTree) (vleft1 : Value) (hleft1 : RepSl g left.Nodes vleft1) (j : Int) (right : SyntaxTree) (vright1 : Value) (hright1 : RepSl g right.Nodes vright1) (k_ : Int) (S : St g [cm_1, cm_2] fr w) (hm : rec_ m_ base i_ left j right k_ = some r), Calls Try.prog 31 [.agg #[vm_1, vm_2], .agg #[vbase1], .i6 i_, .agg #[vleft1], .i6 j, .agg #[vright1], .i6 k_].toArray w (fun en w' => ∃ v, en = .returned v ∧ ∃ (g' : Gh) (v1 v2 : Value) (c1 c2 : Hl), Le g g' ∧ St g' [c1, c2] fr w' ∧ OwnS g' r.Nodes v1 c1 ∧ OwnS g' r.Conflicts v2 c2 ∧ .agg #[v1, v2] = v)) {g : Gh} {fr : Hl} {w : World} {r : SyntaxMerge_changeforgeref2} (m_ : SyntaxMerge_changeforgeref2) (vm_1 : Value) (cm_1 : Hl) (hm_1 : OwnS g m_.Nodes vm_1 cm_1) (vm_2 : Value) (cm_2 : Hl) (hm_2 : OwnS g m_.Conflicts vm_2 cm_2) (base : SyntaxTree) (vbase1 : Value) (hbase1 : RepSl g base.Nodes vbase1) (i_ : Int) (left : SyntaxTree) (vleft1 : Value) (hleft1 : RepSl g left.Nodes vleft1) (j : Int) (right : SyntaxTree) (vright1 : Value) (hright1 : RepSl g right.Nodes vright1) (k_ : Int) (S : St g [cm_1, cm_2] fr w) (hm : changeforgeref2_merged.body rec_ m_ base i_ left j right k_ = some r) :
  Calls Try.prog 31 [.agg #[vm_1, vm_2], .agg #[vbase1], .i6 i_, .agg #[vleft1], .i6 j, .agg #[vright1], .i6 k_].toArray w (fun en w' => ∃ v, en = .returned v ∧ ∃ (g' : Gh) (v1 v2 : Value) (c1 c2 : Hl), Le g g' ∧ St g' [c1, c2] fr w' ∧ OwnS g' r.Nodes v1 c1 ∧ OwnS g' r.Conflicts v2 c2 ∧ .agg #[v1, v2] = v) := by
 unfold changeforgeref2_merged.body at hm
 refine calls_enter (fn := Try.f31) Try.func31 rfl Try.ntmps31 (lb rfl) ?_
 intro a F
 replace F : Fr 183 a [(0, .agg #[vm_1, vm_2]), (1, .agg #[vbase1]), (2, .i6 i_), (3, .agg #[vleft1]), (4, .i6 j), (5, .agg #[vright1]), (6, .i6 k_)] := F
 refine wp_seq ?_
 refine wp_region_lit ?_
 refine wl_boxC (wn rfl) rfl rfl rfl F S rfl rfl ?_; clear F a S; rintro b1 a w F S
 refine wl_boxC (wn rfl) rfl rfl rfl F S rfl rfl ?_; clear F a S; rintro b2 a w F S
 refine wl_boxC (wn rfl) rfl rfl rfl F S rfl rfl ?_; clear F a S; rintro b3 a w F S
 refine wl_boxC (wn rfl) rfl rfl rfl F S rfl rfl ?_; clear F a S; rintro b4 a w F S
 refine wl_alloc (wn rfl) rfl tz61 (cs := [nilS, nilS]) rfl F S rfl rfl ?_; clear F a S; rintro b5 a w F S
 refine wpList_nil ?_
 refine then_n ?_
 refine wp_seq ?_
 refine wp_region_lit ?_
 refine wE (ev_loadA tu24 rfl (cs := [vbase1]) ts24 rfl (box_ptr (cells := [vbase1]) 3 rfl 0 rfl (lb rfl))) F S rfl fun a F=>?_
 refine wE (ev_move rfl) F S rfl fun a F=>?_
 obtain ⟨y1, hy1, hm⟩ := bind_some hm
 refine wl_call0 (wn rfl) rfl F rfl (changeforgeref2_Printed_ok (fr := (fl [[bx b5 #[nilS, nilS] 61], [bx b4 #[vright1] 24], [bx b3 #[vleft1] 24], [bx b2 #[vbase1] 24], [bx b1 #[vm_1, vm_2] 61], cm_1, cm_2] fr)) base vbase1 hbase1 i_ S hy1) rfl tc17 rfl rfl ?_; clear F a S
 rintro _ a w ⟨g1, l1, S, rfl⟩ F; replace S : St g1 [[bx b5 #[nilS, nilS] 61], [bx b4 #[vright1] 24], [bx b3 #[vleft1] 24], [bx b2 #[vbase1] 24], [bx b1 #[vm_1, vm_2] 61], cm_1, cm_2] fr w := S
 refine wE (ev_assign rfl) F S rfl fun a F=>?_
 refine wpList_nil ?_
 refine then_n ?_
 refine wp_seq ?_
 refine wp_region_lit ?_
 refine wE (ev_loadA tu24 rfl (cs := [vleft1]) ts24 rfl (box_ptr (cells := [vleft1]) 2 rfl 0 rfl (lb rfl))) F S rfl fun a F=>?_
 refine wE (ev_move rfl) F S rfl fun a F=>?_
 obtain ⟨y2, hy2, hm⟩ := bind_some hm
 refine wl_call0 (wn rfl) rfl F rfl (changeforgeref2_Printed_ok (fr := (fl [[bx b5 #[nilS, nilS] 61], [bx b4 #[vright1] 24], [bx b3 #[vleft1] 24], [bx b2 #[vbase1] 24], [bx b1 #[vm_1, vm_2] 61], cm_1, cm_2] fr)) left vleft1 (hleft1.mono l1) j S hy2) rfl tc17 rfl rfl ?_; clear F a S
 rintro _ a w ⟨g2, l2, S, rfl⟩ F; replace S : St g2 [[bx b5 #[nilS, nilS] 61], [bx b4 #[vright1] 24], [bx b3 #[vleft1] 24], [bx b2 #[vbase1] 24], [bx b1 #[vm_1, vm_2] 61], cm_1, cm_2] fr w := S
 refine wE (ev_assign rfl) F S rfl fun a F=>?_
 refine wpList_nil ?_
 refine then_n ?_
 refine wp_seq ?_
 refine wp_region_lit ?_
 refine wE (ev_loadA tu24 rfl (cs := [vright1]) ts24 rfl (box_ptr (cells := [vright1]) 1 rfl 0 rfl (lb rfl))) F S rfl fun a F=>?_
 refine wE (ev_move rfl) F S rfl fun a F=>?_
 obtain ⟨y3, hy3, hm⟩ := bind_some hm
 refine wl_call0 (wn rfl) rfl F rfl (changeforgeref2_Printed_ok (fr := (fl [[bx b5 #[nilS, nilS] 61], [bx b4 #[vright1] 24], [bx b3 #[vleft1] 24], [bx b2 #[vbase1] 24], [bx b1 #[vm_1, vm_2] 61], cm_1, cm_2] fr)) right vright1 (hright1.mono (l1.trans l2)) k_ S hy3) rfl tc17 rfl rfl ?_; clear F a S
 rintro _ a w ⟨g3, l3, S, rfl⟩ F; replace S : St g3 [[bx b5 #[nilS, nilS] 61], [bx b4 #[vright1] 24], [bx b3 #[vleft1] 24], [bx b2 #[vbase1] 24], [bx b1 #[vm_1, vm_2] 61], cm_1, cm_2] fr w := S
 refine wE (ev_assign rfl) F S rfl fun a F=>?_
 refine wpList_nil ?_
 refine then_n ?_
 refine wp_seq ?_
 refine wp_seq ?_
 refine wp_region_lit ?_
 refine wE (ev_move rfl) F S rfl fun a F=>?_
 refine wE (ev_move rfl) F S rfl fun a F=>?_
 refine wE (ev_str rfl rfl (bs_eql _ _ _)) F S rfl fun a F=>?_
 refine wE (ev_move rfl) F S rfl fun a F=>?_
 obtain ⟨x1, hx1, hm⟩ := bind_some hm
 refine wl_cut 4 (fun a w' => w = w' ∧ Fr 183 a [(40, .bool x1), (16, .string y2), (15, .string y1), (14, bp b5 0), (12, bp b4 0), (10, bp b3 0), (8, bp b2 0), (7, bp b1 0), (2, .i6 i_), (4, .i6 j), (6, .i6 k_)]) ?_ ?_
 ·clear hm; obtain ⟨hc1, hm⟩ | ⟨hc1, hm⟩ := ite_or hx1
  ·refine wl_skip rfl rfl rfl rfl (ne_ft hc1) F rfl rfl ?_; clear F a; intro a F
   refine wl_skip rfl rfl rfl rfl (ne_ft hc1) F rfl rfl ?_; clear F a; intro a F
   refine wl_skip rfl rfl rfl rfl (ne_ft hc1) F rfl rfl ?_; clear F a; intro a F
   refine wE (ev_pickT rfl hc1 rfl) F S rfl fun a F=>?_
   obtain rfl := sinj hm
   refine wpList_nil (then_n ?_); exact ⟨rfl, F.sub ⟨rfl, rfl, rfl, rfl, rfl, rfl, rfl, rfl, rfl, rfl, rfl, trivial⟩⟩
  ·refine wl_ev (wg F rfl rfl rfl rfl hc1) (ev_move rfl) F S rfl rfl ?_; clear F a; intro a F
   refine wl_ev (wg F rfl rfl rfl rfl hc1) (ev_move rfl) F S rfl rfl ?_; clear F a; intro a F
   refine wl_ev (wg F rfl rfl rfl rfl hc1) (ev_str rfl rfl (bs_eql _ _ _)) F S rfl rfl ?_; clear F a; intro a F
   refine wE (ev_pickF rfl hc1 rfl) F S rfl fun a F=>?_
   obtain rfl := sinj hm
   refine wpList_nil (then_n ?_); exact ⟨rfl, F.sub ⟨rfl, rfl, rfl, rfl, rfl, rfl, rfl, rfl, rfl, rfl, rfl, trivial⟩⟩
 clear F; rintro a w' ⟨rfl, F⟩
 refine wpList_nil ?_
 refine then_n ?_
 obtain ⟨hc2, hm⟩ | ⟨hc2, hm⟩ := ite_or hm
 ·refine wp_condT F rfl hc2 ?_
  refine wp_seq ?_
  refine wp_region_lit ?_
  refine wE (ev_loadA tu61 rfl (cs := [vm_1, vm_2]) ts61 rfl (box_ptr (cells := [vm_1, vm_2]) 4 rfl 0 rfl (lb rfl))) F S rfl fun a F=>?_
  refine wE (ev_loadA tu24 rfl (cs := [vleft1]) ts24 rfl (box_ptr (cells := [vleft1]) 2 rfl 0 rfl (lb rfl))) F S rfl fun a F=>?_
  refine wE (ev_move rfl) F S rfl fun a F=>?_
  replace S : St g3 [cm_1, cm_2, [bx b5 #[nilS, nilS] 61], [bx b4 #[vright1] 24], [bx b3 #[vleft1] 24], [bx b2 #[vbase1] 24], [bx b1 #[vm_1, vm_2] 61]] fr w := (((((((S.frontC 4 rfl).frontC 4 rfl).frontC 4 rfl).frontC 4 rfl).frontC 4 rfl).frontC 11 rfl).frontC 11 rfl)
  obtain ⟨y4, hy4, hm⟩ := bind_some hm
  refine wl_call0 (wn rfl) rfl F rfl (changeforgeref2_copied_ok (fr := (fl [[bx b5 #[nilS, nilS] 61], [bx b4 #[vright1] 24], [bx b3 #[vleft1] 24], [bx b2 #[vbase1] 24], [bx b1 #[vm_1, vm_2] 61]] fr)) m_ vm_1 cm_1 (hm_1.mono ((l1.trans l2).trans l3)) vm_2 cm_2 (hm_2.mono ((l1.trans l2).trans l3)) left vleft1 (hleft1.mono ((l1.trans l2).trans l3)) j S hy4) rfl tc39 rfl rfl ?_; clear F a S
  rintro _ a w ⟨g4, v1, v2, c1, c2, l4, S, h1, h2, rfl⟩ F; replace S : St g4 [c1, c2, [bx b5 #[nilS, nilS] 61], [bx b4 #[vright1] 24], [bx b3 #[vleft1] 24], [bx b2 #[vbase1] 24], [bx b1 #[vm_1, vm_2] 61]] fr w := S
  refine wl_storeC (wn rfl) rfl F S rfl rfl (vs := [v1, v2]) rfl ts61 (one_cons (OwnS.one h1) (one_cons (OwnS.one h2) one_nil)) (k := 2) rfl (lb rfl) (c' := #[v1, v2]) rfl rfl ?_; clear S; intro w S
  refine wpList_nil ?_
  refine then_n ?_
  refine wp_ret ?_
  refine then_r ?_
  obtain rfl := sinj hm
  refine post_r _ F rfl (ar_cons (resA rfl tu61 rfl (box_ptr (cells := [v1, v2]) 2 rfl 0 rfl (lb rfl) w S) ts61) ar_nil) ?_
  replace S : St g4 [c1, c2] fr w := St.tail [c1, c2] _ ((S.frontC 1 rfl).frontC 1 rfl)
  exact ⟨_, rfl, g4, v1, v2, c1, c2, (((l1.trans l2).trans l3).trans l4), S, h1, h2, rfl⟩
 ·refine wp_condF F rfl hc2 ?_
  refine wp_skip ?_
  refine then_n ?_
  refine wp_seq ?_
  refine wp_seq ?_
  refine wp_region_lit ?_
  refine wE (ev_move rfl) F S rfl fun a F=>?_
  refine wE (ev_move rfl) F S rfl fun a F=>?_
  refine wE (ev_str rfl rfl (bs_eql _ _ _)) F S rfl fun a F=>?_
  refine wpList_nil ?_
  refine then_n ?_
  obtain ⟨hc3, hm⟩ | ⟨hc3, hm⟩ := ite_or hm
  ·refine wp_condT F rfl hc3 ?_
   refine wp_seq ?_
   refine wp_region_lit ?_
   refine wE (ev_loadA tu61 rfl (cs := [vm_1, vm_2]) ts61 rfl (box_ptr (cells := [vm_1, vm_2]) 4 rfl 0 rfl (lb rfl))) F S rfl fun a F=>?_
   refine wE (ev_loadA tu24 rfl (cs := [vright1]) ts24 rfl (box_ptr (cells := [vright1]) 1 rfl 0 rfl (lb rfl))) F S rfl fun a F=>?_
   refine wE (ev_move rfl) F S rfl fun a F=>?_
   replace S : St g3 [cm_1, cm_2, [bx b5 #[nilS, nilS] 61], [bx b4 #[vright1] 24], [bx b3 #[vleft1] 24], [bx b2 #[vbase1] 24], [bx b1 #[vm_1, vm_2] 61]] fr w := (((((((S.frontC 4 rfl).frontC 4 rfl).frontC 4 rfl).frontC 4 rfl).frontC 4 rfl).frontC 11 rfl).frontC 11 rfl)
   obtain ⟨y5, hy5, hm⟩ := bind_some hm
   refine wl_call0 (wn rfl) rfl F rfl (changeforgeref2_copied_ok (fr := (fl [[bx b5 #[nilS, nilS] 61], [bx b4 #[vright1] 24], [bx b3 #[vleft1] 24], [bx b2 #[vbase1] 24], [bx b1 #[vm_1, vm_2] 61]] fr)) m_ vm_1 cm_1 (hm_1.mono ((l1.trans l2).trans l3)) vm_2 cm_2 (hm_2.mono ((l1.trans l2).trans l3)) right vright1 (hright1.mono ((l1.trans l2).trans l3)) k_ S hy5) rfl tc39 rfl rfl ?_; clear F a S
   rintro _ a w ⟨g5, v3, v4, c3, c4, l5, S, h3, h4, rfl⟩ F; replace S : St g5 [c3, c4, [bx b5 #[nilS, nilS] 61], [bx b4 #[vright1] 24], [bx b3 #[vleft1] 24], [bx b2 #[vbase1] 24], [bx b1 #[vm_1, vm_2] 61]] fr w := S
   refine wl_storeC (wn rfl) rfl F S rfl rfl (vs := [v3, v4]) rfl ts61 (one_cons (OwnS.one h3) (one_cons (OwnS.one h4) one_nil)) (k := 2) rfl (lb rfl) (c' := #[v3, v4]) rfl rfl ?_; clear S; intro w S
   refine wpList_nil ?_
   refine then_n ?_
   refine wp_ret ?_
   refine then_r ?_
   obtain rfl := sinj hm
   refine post_r _ F rfl (ar_cons (resA rfl tu61 rfl (box_ptr (cells := [v3, v4]) 2 rfl 0 rfl (lb rfl) w S) ts61) ar_nil) ?_
   replace S : St g5 [c3, c4] fr w := St.tail [c3, c4] _ ((S.frontC 1 rfl).frontC 1 rfl)
   exact ⟨_, rfl, g5, v3, v4, c3, c4, (((l1.trans l2).trans l3).trans l5), S, h3, h4, rfl⟩
  ·refine wp_condF F rfl hc3 ?_
   refine wp_skip ?_
   refine then_n ?_
   refine wp_seq ?_
   refine wp_region_lit ?_
   refine wE (ev_fieldAddr' tu24 tf24_0 (z := 0) ts22 rfl ⟨_, rfl⟩ rfl) F S rfl fun a F=>?_
   refine wE (ev_load1 tu22 rfl rfl (box_ptr (cells := [vbase1]) 3 rfl 0 rfl (lb rfl))) F S rfl fun a F=>?_
   refine wE (ev_move rfl) F S rfl fun a F=>?_
   obtain ⟨y6, hy6, hm⟩ := bind_some hm
   obtain ⟨cs1, hr1, hp1⟩ := elemS (hbase1.mono ((l1.trans l2).trans l3)) hy6
   obtain ⟨v5, rfl, h5⟩ := rep_Node hr1
   refine wE (ev_idxS (hbase1.mono ((l1.trans l2).trans l3)) hy6 tu22 ts50 rfl rfl) F S rfl fun a F=>?_
   have hp2 := PtrC.field hp1 1 1 (lb rfl)
   have hp2 : PtrC g3 (addP (elemP vbase1 i_ 2) 1) [v5] := hp2
   refine wE (ev_fieldAddr' tu50 tf50_1 (z := 0) ts38 rfl hp1.ptr rfl) F S rfl fun a F=>?_
   refine wE (ev_load1 tu38 rfl rfl (ptr_mono (cks := [[bx b5 #[nilS, nilS] 61], [bx b4 #[vright1] 24], [bx b3 #[vleft1] 24], [bx b2 #[vbase1] 24], [bx b1 #[vm_1, vm_2] 61], cm_1, cm_2]) (fr := fr) hp2 (Le.refl _))) F S rfl fun a F=>?_
   refine wE (ev_lenSh h5 rfl tu38) F S rfl fun a F=>?_
   refine wE (ev_assign rfl) F S rfl fun a F=>?_
   refine wpList_nil ?_
   refine then_n ?_
   refine wp_seq ?_
   refine wp_region_lit ?_
   refine wE (ev_fieldAddr' tu24 tf24_0 (z := 0) ts22 rfl ⟨_, rfl⟩ rfl) F S rfl fun a F=>?_
   refine wE (ev_load1 tu22 rfl rfl (box_ptr (cells := [vleft1]) 2 rfl 0 rfl (lb rfl))) F S rfl fun a F=>?_
   refine wE (ev_move rfl) F S rfl fun a F=>?_
   obtain ⟨y7, hy7, hm⟩ := bind_some hm
   obtain ⟨cs2, hr2, hp3⟩ := elemS (hleft1.mono ((l1.trans l2).trans l3)) hy7
   obtain ⟨v6, rfl, h6⟩ := rep_Node hr2
   refine wE (ev_idxS (hleft1.mono ((l1.trans l2).trans l3)) hy7 tu22 ts50 rfl rfl) F S rfl fun a F=>?_
   have hp4 := PtrC.field hp3 0 1 (lb rfl)
   have hp4 : PtrC g3 (addP (elemP vleft1 j 2) 0) [.string y7.Label] := hp4
   refine wE (ev_fieldAddr' tu50 tf50_0 (z := 0) ts9 rfl hp3.ptr rfl) F S rfl fun a F=>?_
   refine wE (ev_load1 tu9 rfl rfl (ptr_mono (cks := [[bx b5 #[nilS, nilS] 61], [bx b4 #[vright1] 24], [bx b3 #[vleft1] 24], [bx b2 #[vbase1] 24], [bx b1 #[vm_1, vm_2] 61], cm_1, cm_2]) (fr := fr) hp4 (Le.refl _))) F S rfl fun a F=>?_
   refine wE (ev_assign rfl) F S rfl fun a F=>?_
   refine wpList_nil ?_
   refine then_n ?_
   refine wp_seq ?_
   refine wp_region_lit ?_
   refine wE (ev_fieldAddr' tu24 tf24_0 (z := 0) ts22 rfl ⟨_, rfl⟩ rfl) F S rfl fun a F=>?_
   refine wE (ev_load1 tu22 rfl rfl (box_ptr (cells := [vright1]) 1 rfl 0 rfl (lb rfl))) F S rfl fun a F=>?_
   refine wE (ev_move rfl) F S rfl fun a F=>?_
   obtain ⟨y8, hy8, hm⟩ := bind_some hm
   obtain ⟨cs3, hr3, hp5⟩ := elemS (hright1.mono ((l1.trans l2).trans l3)) hy8
   obtain ⟨v7, rfl, h7⟩ := rep_Node hr3
   refine wE (ev_idxS (hright1.mono ((l1.trans l2).trans l3)) hy8 tu22 ts50 rfl rfl) F S rfl fun a F=>?_
   have hp6 := PtrC.field hp5 0 1 (lb rfl)
   have hp6 : PtrC g3 (addP (elemP vright1 k_ 2) 0) [.string y8.Label] := hp6
   refine wE (ev_fieldAddr' tu50 tf50_0 (z := 0) ts9 rfl hp5.ptr rfl) F S rfl fun a F=>?_
   refine wE (ev_load1 tu9 rfl rfl (ptr_mono (cks := [[bx b5 #[nilS, nilS] 61], [bx b4 #[vright1] 24], [bx b3 #[vleft1] 24], [bx b2 #[vbase1] 24], [bx b1 #[vm_1, vm_2] 61], cm_1, cm_2]) (fr := fr) hp6 (Le.refl _))) F S rfl fun a F=>?_
   refine wE (ev_assign rfl) F S rfl fun a F=>?_
   refine wpList_nil ?_
   refine then_n ?_
   refine wp_seq ?_
   refine wp_region_lit ?_
   refine wE (ev_fieldAddr' tu24 tf24_0 (z := 0) ts22 rfl ⟨_, rfl⟩ rfl) F S rfl fun a F=>?_
   refine wE (ev_load1 tu22 rfl rfl (box_ptr (cells := [vbase1]) 3 rfl 0 rfl (lb rfl))) F S rfl fun a F=>?_
   refine wE (ev_move rfl) F S rfl fun a F=>?_
   obtain ⟨y9, hy9, hm⟩ := bind_some hm
   obtain ⟨cs4, hr4, hp7⟩ := elemS (hbase1.mono ((l1.trans l2).trans l3)) hy9
   obtain ⟨v8, rfl, h8⟩ := rep_Node hr4
   refine wE (ev_idxS (hbase1.mono ((l1.trans l2).trans l3)) hy9 tu22 ts50 rfl rfl) F S rfl fun a F=>?_
   have hp8 := PtrC.field hp7 0 1 (lb rfl)
   have hp8 : PtrC g3 (addP (elemP vbase1 i_ 2) 0) [.string y9.Label] := hp8
   refine wE (ev_fieldAddr' tu50 tf50_0 (z := 0) ts9 rfl hp7.ptr rfl) F S rfl fun a F=>?_
   refine wE (ev_load1 tu9 rfl rfl (ptr_mono (cks := [[bx b5 #[nilS, nilS] 61], [bx b4 #[vright1] 24], [bx b3 #[vleft1] 24], [bx b2 #[vbase1] 24], [bx b1 #[vm_1, vm_2] 61], cm_1, cm_2]) (fr := fr) hp8 (Le.refl _))) F S rfl fun a F=>?_
   refine wE (ev_assign rfl) F S rfl fun a F=>?_
   refine wpList_nil ?_
   replace F := F.sub (e' := [(21, .string y9.Label), (20, .string y8.Label), (19, .string y7.Label), (18, .i6 (y6.Children.length : Int)), (14, bp b5 0), (12, bp b4 0), (10, bp b3 0), (8, bp b2 0), (7, bp b1 0), (2, .i6 i_), (4, .i6 j), (6, .i6 k_)]) ⟨rfl, rfl, rfl, rfl, rfl, rfl, rfl, rfl, rfl, rfl, rfl, rfl, trivial⟩
   refine then_n ?_
   refine wp_seq ?_
   refine wp_seq ?_
   refine wp_region_lit ?_
   refine wE (ev_fieldAddr' tu24 tf24_0 (z := 0) ts22 rfl ⟨_, rfl⟩ rfl) F S rfl fun a F=>?_
   refine wE (ev_load1 tu22 rfl rfl (box_ptr (cells := [vleft1]) 2 rfl 0 rfl (lb rfl))) F S rfl fun a F=>?_
   refine wE (ev_move rfl) F S rfl fun a F=>?_
   obtain ⟨y10, hy10, hm⟩ := bind_some hm
   obtain ⟨cs5, hr5, hp9⟩ := elemS (hleft1.mono ((l1.trans l2).trans l3)) hy10
   obtain ⟨v9, rfl, h9⟩ := rep_Node hr5
   refine wE (ev_idxS (hleft1.mono ((l1.trans l2).trans l3)) hy10 tu22 ts50 rfl rfl) F S rfl fun a F=>?_
   have hp10 := PtrC.field hp9 1 1 (lb rfl)
   have hp10 : PtrC g3 (addP (elemP vleft1 j 2) 1) [v9] := hp10
   refine wE (ev_fieldAddr' tu50 tf50_1 (z := 0) ts38 rfl hp9.ptr rfl) F S rfl fun a F=>?_
   refine wE (ev_load1 tu38 rfl rfl (ptr_mono (cks := [[bx b5 #[nilS, nilS] 61], [bx b4 #[vright1] 24], [bx b3 #[vleft1] 24], [bx b2 #[vbase1] 24], [bx b1 #[vm_1, vm_2] 61], cm_1, cm_2]) (fr := fr) hp10 (Le.refl _))) F S rfl fun a F=>?_
   refine wE (ev_lenSh h9 rfl tu38) F S rfl fun a F=>?_
   refine wE (ev_move rfl) F S rfl fun a F=>?_
   refine wE (ev_int rfl rfl (bo_neq _ _ _ _)) F S rfl fun a F=>?_
   refine wE (ev_move rfl) F S rfl fun a F=>?_
   obtain ⟨x2, hx2, hm⟩ := bind_some hm
   refine wl_cut 10 (fun a w' => w = w' ∧ Fr 183 a [(96, .bool x2), (21, .string y9.Label), (20, .string y8.Label), (19, .string y7.Label), (18, .i6 (y6.Children.length : Int)), (14, bp b5 0), (12, bp b4 0), (10, bp b3 0), (8, bp b2 0), (7, bp b1 0), (2, .i6 i_), (4, .i6 j), (6, .i6 k_)]) ?_ ?_
   ·clear hm; obtain ⟨hc4, hm⟩ | ⟨hc4, hm⟩ := ite_or hx2
    ·refine wl_skip rfl rfl rfl rfl (ne_ft hc4) F rfl rfl ?_; clear F a; intro a F
     refine wl_skip rfl rfl rfl rfl (ne_ft hc4) F rfl rfl ?_; clear F a; intro a F
     refine wl_skip rfl rfl rfl rfl (ne_ft hc4) F rfl rfl ?_; clear F a; intro a F
     refine wl_skip rfl rfl rfl rfl (ne_ft hc4) F rfl rfl ?_; clear F a; intro a F
     refine wl_skip rfl rfl rfl rfl (ne_ft hc4) F rfl rfl ?_; clear F a; intro a F
     refine wl_skip rfl rfl rfl rfl (ne_ft hc4) F rfl rfl ?_; clear F a; intro a F
     refine wl_skip rfl rfl rfl rfl (ne_ft hc4) F rfl rfl ?_; clear F a; intro a F
     refine wl_skip rfl rfl rfl rfl (ne_ft hc4) F rfl rfl ?_; clear F a; intro a F
     refine wl_skip rfl rfl rfl rfl (ne_ft hc4) F rfl rfl ?_; clear F a; intro a F
     refine wE (ev_pickT rfl hc4 rfl) F S rfl fun a F=>?_
     obtain rfl := sinj hm
     refine wpList_nil (then_n ?_); exact ⟨rfl, F.sub ⟨rfl, rfl, rfl, rfl, rfl, rfl, rfl, rfl, rfl, rfl, rfl, rfl, rfl, trivial⟩⟩
    ·refine wl_ev (wg F rfl rfl rfl rfl hc4) (ev_fieldAddr' tu24 tf24_0 (z := 0) ts22 rfl ⟨_, rfl⟩ rfl) F S rfl rfl ?_; clear F a; intro a F
     refine wl_ev (wg F rfl rfl rfl rfl hc4) (ev_load1 tu22 rfl rfl (box_ptr (cells := [vright1]) 1 rfl 0 rfl (lb rfl))) F S rfl rfl ?_; clear F a; intro a F
     refine wl_ev (wg F rfl rfl rfl rfl hc4) (ev_move rfl) F S rfl rfl ?_; clear F a; intro a F
     obtain ⟨y11, hy11, hm⟩ := bind_some hm
     obtain ⟨cs6, hr6, hp11⟩ := elemS (hright1.mono ((l1.trans l2).trans l3)) hy11
     obtain ⟨v10, rfl, h10⟩ := rep_Node hr6
     refine wl_ev (wg F rfl rfl rfl rfl hc4) (ev_idxS (hright1.mono ((l1.trans l2).trans l3)) hy11 tu22 ts50 rfl rfl) F S rfl rfl ?_; clear F a; intro a F
     have hp12 := PtrC.field hp11 1 1 (lb rfl)
     have hp12 : PtrC g3 (addP (elemP vright1 k_ 2) 1) [v10] := hp12
     refine wl_ev (wg F rfl rfl rfl rfl hc4) (ev_fieldAddr' tu50 tf50_1 (z := 0) ts38 rfl hp11.ptr rfl) F S rfl rfl ?_; clear F a; intro a F
     refine wl_ev (wg F rfl rfl rfl rfl hc4) (ev_load1 tu38 rfl rfl (ptr_mono (cks := [[bx b5 #[nilS, nilS] 61], [bx b4 #[vright1] 24], [bx b3 #[vleft1] 24], [bx b2 #[vbase1] 24], [bx b1 #[vm_1, vm_2] 61], cm_1, cm_2]) (fr := fr) hp12 (Le.refl _))) F S rfl rfl ?_; clear F a; intro a F
     refine wl_ev (wg F rfl rfl rfl rfl hc4) (ev_lenSh h10 rfl tu38) F S rfl rfl ?_; clear F a; intro a F
     refine wl_ev (wg F rfl rfl rfl rfl hc4) (ev_move rfl) F S rfl rfl ?_; clear F a; intro a F
     refine wl_ev (wg F rfl rfl rfl rfl hc4) (ev_int rfl rfl (bo_neq _ _ _ _)) F S rfl rfl ?_; clear F a; intro a F
     refine wE (ev_pickF rfl hc4 rfl) F S rfl fun a F=>?_
     obtain rfl := sinj hm
     refine wpList_nil (then_n ?_); exact ⟨rfl, F.sub ⟨rfl, rfl, rfl, rfl, rfl, rfl, rfl, rfl, rfl, rfl, rfl, rfl, rfl, trivial⟩⟩
   clear F; rintro a w' ⟨rfl, F⟩
   refine wE (ev_move rfl) F S rfl fun a F=>?_
   obtain ⟨x3, hx3, hm⟩ := bind_some hm
   refine wl_cut 14 (fun a w' => w = w' ∧ Fr 183 a [(111, .bool x3), (21, .string y9.Label), (20, .string y8.Label), (19, .string y7.Label), (18, .i6 (y6.Children.length : Int)), (14, bp b5 0), (12, bp b4 0), (10, bp b3 0), (8, bp b2 0), (7, bp b1 0), (2, .i6 i_), (4, .i6 j), (6, .i6 k_)]) ?_ ?_
   ·clear hm; obtain ⟨hc5, hm⟩ | ⟨hc5, hm⟩ := ite_or hx3
    ·refine wl_skip rfl rfl rfl rfl (ne_ft hc5) F rfl rfl ?_; clear F a; intro a F
     refine wl_skip rfl rfl rfl rfl (ne_ft hc5) F rfl rfl ?_; clear F a; intro a F
     refine wl_skip rfl rfl rfl rfl (ne_ft hc5) F rfl rfl ?_; clear F a; intro a F
     refine wl_skip rfl rfl rfl rfl (ne_ft hc5) F rfl rfl ?_; clear F a; intro a F
     refine wl_skipu rfl rfl rfl rfl F rfl rfl ?_; clear F a; intro a F
     refine wl_skipu rfl rfl rfl rfl F rfl rfl ?_; clear F a; intro a F
     refine wl_skipu rfl rfl rfl rfl F rfl rfl ?_; clear F a; intro a F
     refine wl_skip rfl rfl rfl rfl (ne_ft hc5) F rfl rfl ?_; clear F a; intro a F
     refine wl_skip rfl rfl rfl rfl (ne_ft hc5) F rfl rfl ?_; clear F a; intro a F
     refine wl_skipu rfl rfl rfl rfl F rfl rfl ?_; clear F a; intro a F
     refine wl_skipu rfl rfl rfl rfl F rfl rfl ?_; clear F a; intro a F
     refine wl_skipu rfl rfl rfl rfl F rfl rfl ?_; clear F a; intro a F
     refine wl_skip rfl rfl rfl rfl (ne_ft hc5) F rfl rfl ?_; clear F a; intro a F
     refine wE (ev_pickT rfl hc5 rfl) F S rfl fun a F=>?_
     obtain rfl := sinj hm
     refine wpList_nil (then_n ?_); exact ⟨rfl, F.sub ⟨rfl, rfl, rfl, rfl, rfl, rfl, rfl, rfl, rfl, rfl, rfl, rfl, rfl, trivial⟩⟩
    ·refine wl_ev (wg F rfl rfl rfl rfl hc5) (ev_move rfl) F S rfl rfl ?_; clear F a; intro a F
     refine wl_ev (wg F rfl rfl rfl rfl hc5) (ev_move rfl) F S rfl rfl ?_; clear F a; intro a F
     refine wl_ev (wg F rfl rfl rfl rfl hc5) (ev_str rfl rfl (bs_neq _ _ _)) F S rfl rfl ?_; clear F a; intro a F
     refine wl_ev (wg F rfl rfl rfl rfl hc5) (ev_move rfl) F S rfl rfl ?_; clear F a; intro a F
     obtain ⟨x4, hx4, hm⟩ := bind_some hm
     refine wl_cut 4 (fun a w' => w = w' ∧ Fr 183 a [(105, .bool x4), (97, .bool x2), (21, .string y9.Label), (20, .string y8.Label), (19, .string y7.Label), (18, .i6 (y6.Children.length : Int)), (14, bp b5 0), (12, bp b4 0), (10, bp b3 0), (8, bp b2 0), (7, bp b1 0), (2, .i6 i_), (4, .i6 j), (6, .i6 k_)]) ?_ ?_
     ·clear hm; obtain ⟨hc6, hm⟩ | ⟨hc6, hm⟩ := ite_or hx4
      ·refine wl_ev (wg F rfl rfl rfl rfl hc6) (ev_move rfl) F S rfl rfl ?_; clear F a; intro a F
       refine wl_ev (wg F rfl rfl rfl rfl hc6) (ev_move rfl) F S rfl rfl ?_; clear F a; intro a F
       refine wl_ev (wg F rfl rfl rfl rfl hc6) (ev_str rfl rfl (bs_neq _ _ _)) F S rfl rfl ?_; clear F a; intro a F
       refine wl_ev (wg F rfl rfl rfl rfl hc5) (ev_pickT rfl hc6 rfl) F S rfl rfl ?_; clear F a; intro a F
       obtain rfl := sinj hm
       refine wpList_nil (then_n ?_); exact ⟨rfl, F.sub ⟨rfl, rfl, rfl, rfl, rfl, rfl, rfl, rfl, rfl, rfl, rfl, rfl, rfl, rfl, trivial⟩⟩
      ·refine wl_skip rfl rfl rfl rfl (ne_tf hc6) F rfl rfl ?_; clear F a; intro a F
       refine wl_skip rfl rfl rfl rfl (ne_tf hc6) F rfl rfl ?_; clear F a; intro a F
       refine wl_skip rfl rfl rfl rfl (ne_tf hc6) F rfl rfl ?_; clear F a; intro a F
       refine wl_ev (wg F rfl rfl rfl rfl hc5) (ev_pickF rfl hc6 rfl) F S rfl rfl ?_; clear F a; intro a F
       obtain rfl := sinj hm
       refine wpList_nil (then_n ?_); exact ⟨rfl, F.sub ⟨rfl, rfl, rfl, rfl, rfl, rfl, rfl, rfl, rfl, rfl, rfl, rfl, rfl, rfl, trivial⟩⟩
     clear F; rintro a w' ⟨rfl, F⟩
     refine wl_ev (wg F rfl rfl rfl rfl hc5) (ev_move rfl) F S rfl rfl ?_; clear F a; intro a F
     obtain ⟨x5, hx5, hm⟩ := bind_some hm
     refine wl_cut 4 (fun a w' => w = w' ∧ Fr 183 a [(110, .bool x5), (97, .bool x2), (21, .string y9.Label), (20, .string y8.Label), (19, .string y7.Label), (18, .i6 (y6.Children.length : Int)), (14, bp b5 0), (12, bp b4 0), (10, bp b3 0), (8, bp b2 0), (7, bp b1 0), (2, .i6 i_), (4, .i6 j), (6, .i6 k_)]) ?_ ?_
     ·clear hm; obtain ⟨hc7, hm⟩ | ⟨hc7, hm⟩ := ite_or hx5
      ·refine wl_ev (wg F rfl rfl rfl rfl hc7) (ev_move rfl) F S rfl rfl ?_; clear F a; intro a F
       refine wl_ev (wg F rfl rfl rfl rfl hc7) (ev_move rfl) F S rfl rfl ?_; clear F a; intro a F
       refine wl_ev (wg F rfl rfl rfl rfl hc7) (ev_str rfl rfl (bs_neq _ _ _)) F S rfl rfl ?_; clear F a; intro a F
       refine wl_ev (wg F rfl rfl rfl rfl hc5) (ev_pickT rfl hc7 rfl) F S rfl rfl ?_; clear F a; intro a F
       obtain rfl := sinj hm
       refine wpList_nil (then_n ?_); exact ⟨rfl, F.sub ⟨rfl, rfl, rfl, rfl, rfl, rfl, rfl, rfl, rfl, rfl, rfl, rfl, rfl, rfl, trivial⟩⟩
      ·refine wl_skip rfl rfl rfl rfl (ne_tf hc7) F rfl rfl ?_; clear F a; intro a F
       refine wl_skip rfl rfl rfl rfl (ne_tf hc7) F rfl rfl ?_; clear F a; intro a F
       refine wl_skip rfl rfl rfl rfl (ne_tf hc7) F rfl rfl ?_; clear F a; intro a F
       refine wl_ev (wg F rfl rfl rfl rfl hc5) (ev_pickF rfl hc7 rfl) F S rfl rfl ?_; clear F a; intro a F
       obtain rfl := sinj hm
       refine wpList_nil (then_n ?_); exact ⟨rfl, F.sub ⟨rfl, rfl, rfl, rfl, rfl, rfl, rfl, rfl, rfl, rfl, rfl, rfl, rfl, rfl, trivial⟩⟩
     clear F; rintro a w' ⟨rfl, F⟩
     refine wE (ev_pickF rfl hc5 rfl) F S rfl fun a F=>?_
     obtain rfl := sinj hm
     refine wpList_nil (then_n ?_); exact ⟨rfl, F.sub ⟨rfl, rfl, rfl, rfl, rfl, rfl, rfl, rfl, rfl, rfl, rfl, rfl, rfl, trivial⟩⟩
   clear F; rintro a w' ⟨rfl, F⟩
   refine wpList_nil ?_
   refine then_n ?_
   obtain ⟨hc8, hm⟩ | ⟨hc8, hm⟩ := ite_or hm
   ·refine wp_condT F rfl hc8 ?_
    refine wp_seq ?_
    refine wp_region_lit ?_
    refine wE (ev_loadA tu61 rfl (cs := [vm_1, vm_2]) ts61 rfl (box_ptr (cells := [vm_1, vm_2]) 4 rfl 0 rfl (lb rfl))) F S rfl fun a F=>?_
    refine wE (ev_loadA tu24 rfl (cs := [vleft1]) ts24 rfl (box_ptr (cells := [vleft1]) 2 rfl 0 rfl (lb rfl))) F S rfl fun a F=>?_
    refine wE (ev_move rfl) F S rfl fun a F=>?_
    replace S : St g3 [cm_1, cm_2, [bx b5 #[nilS, nilS] 61], [bx b4 #[vright1] 24], [bx b3 #[vleft1] 24], [bx b2 #[vbase1] 24], [bx b1 #[vm_1, vm_2] 61]] fr w := (((((((S.frontC 4 rfl).frontC 4 rfl).frontC 4 rfl).frontC 4 rfl).frontC 4 rfl).frontC 11 rfl).frontC 11 rfl)
    obtain ⟨y12, hy12, hm⟩ := bind_some hm
    refine wl_call0 (wn rfl) rfl F rfl (changeforgeref2_copied_ok (fr := (fl [[bx b5 #[nilS, nilS] 61], [bx b4 #[vright1] 24], [bx b3 #[vleft1] 24], [bx b2 #[vbase1] 24], [bx b1 #[vm_1, vm_2] 61]] fr)) m_ vm_1 cm_1 (hm_1.mono ((l1.trans l2).trans l3)) vm_2 cm_2 (hm_2.mono ((l1.trans l2).trans l3)) left vleft1 (hleft1.mono ((l1.trans l2).trans l3)) j S hy12) rfl tc39 rfl rfl ?_; clear F a S
    rintro _ a w ⟨g6, v11, v12, c5, c6, l6, S, h11, h12, rfl⟩ F; replace S : St g6 [c5, c6, [bx b5 #[nilS, nilS] 61], [bx b4 #[vright1] 24], [bx b3 #[vleft1] 24], [bx b2 #[vbase1] 24], [bx b1 #[vm_1, vm_2] 61]] fr w := S
    refine wl_storeC (wn rfl) rfl F S rfl rfl (vs := [v11, v12]) rfl ts61 (one_cons (OwnS.one h11) (one_cons (OwnS.one h12) one_nil)) (k := 6) rfl (lb rfl) (c' := #[v11, v12]) rfl rfl ?_; clear S; intro w S
    refine wpList_nil ?_
    refine then_n ?_
    refine wp_seq ?_
    refine wp_region_lit ?_
    refine wE (ev_fieldAddr' tu61 tf61_1 (z := 0) ts38 rfl ⟨_, rfl⟩ rfl) F S rfl fun a F=>?_
    refine wE (ev_load1 tu38 rfl rfl (box_ptr (cells := [v12]) 6 rfl 1 rfl (lb rfl))) F S rfl fun a F=>?_
    refine wE (ev_fieldAddr' tu61 tf61_0 (z := 0) ts22 rfl ⟨_, rfl⟩ rfl) F S rfl fun a F=>?_
    refine wE (ev_load1 tu22 rfl rfl (box_ptr (cells := [v11]) 6 rfl 0 rfl (lb rfl))) F S rfl fun a F=>?_
    refine wE (ev_lenOw h11 rfl tu22) F S rfl fun a F=>?_
    obtain ⟨z1, hz1, hm⟩ := bind_some hm
    refine wE (ev_int rfl rfl (bo_sub hz1)) F S rfl fun a F=>?_
    refine wl_lit (l := ([z1] : List Int)) (vs := [.i6 z1]) (parts := [(0, .tmp 121)]) (wn rfl) rfl rfl rfl tu38 te3 (sz_cons rfl sz_nil) rfl (Cat.cons (show Rep.rep _ z1 _ from rfl) (Cat.nil _)) (coa_cons rfl coa_nil) rfl F S rfl rfl ?_; clear F a S
    rintro v13 c7 a w h13 F S
    obtain ⟨cs7, hk1, hr7⟩ := OwnS.reads h13
    obtain ⟨y13, hy13, hm⟩ := bind_some hm
    refine wl_append (wn rfl) rfl tu38 tu38 te3 (by decide) (by decide) F S rfl rfl (k := 2) rfl h12 hk1 rfl (hr7 _ _ _ 0 rfl S) hy13 rfl rfl ?_; clear F a S
    rintro v14 c8 a w h14 S F; replace S : St g6 [c7, c5, c8, [bx b5 #[nilS, nilS] 61], [bx b4 #[vright1] 24], [bx b3 #[vleft1] 24], [bx b2 #[vbase1] 24], [bx b1 #[v11, v12] 61]] fr w := S
    refine wE (ev_fieldAddr' tu61 tf61_1 (z := 0) ts38 rfl ⟨_, rfl⟩ rfl) F S rfl fun a F=>?_
    refine wl_storeC (wn rfl) rfl F S rfl rfl (vs := [v14]) (OwnS.cl h14) ts38 (one_cons (OwnS.one h14) one_nil) (k := 7) rfl (lb rfl) (c' := #[v11, v14]) rfl rfl ?_; clear S; intro w S
    refine wpList_nil ?_
    refine then_n ?_
    refine wp_seq ?_
    refine wp_region_lit ?_
    refine wE (ev_loadA tu61 rfl (cs := [v11, v14]) ts61 rfl (box_ptr (cells := [v11, v14]) 7 rfl 0 rfl (lb rfl))) F S rfl fun a F=>?_
    refine wl_storeC (wn rfl) rfl F S rfl rfl (vs := [v11, v14]) rfl ts61 (one_cons (OwnS.one h11) (one_cons (OwnS.one h14) one_nil)) (k := 3) rfl (lb rfl) (c' := #[v11, v14]) rfl rfl ?_; clear S; intro w S
    refine wpList_nil ?_
    refine then_n ?_
    refine wp_ret ?_
    refine then_r ?_
    obtain rfl := sinj hm
    refine post_r _ F rfl (ar_cons (resA rfl tu61 rfl (box_ptr (cells := [v11, v14]) 3 rfl 0 rfl (lb rfl) w S) ts61) ar_nil) ?_
    replace S : St g6 [c5, c8] fr w := St.tail [c5, c8] _ ((S.frontC 2 rfl).frontC 2 rfl)
    exact ⟨_, rfl, g6, v11, v14, c5, c8, (((l1.trans l2).trans l3).trans l6), S, h11, h14, rfl⟩
   ·refine wp_condF F rfl hc8 ?_
    refine wp_skip ?_
    refine then_n ?_
    refine wp_cut (fun a w => ∃ (x6 : ByteArray) (g7 : Gh), Fr 183 a [(19, .string x6), (18, .i6 (y6.Children.length : Int)), (14, bp b5 0), (12, bp b4 0), (10, bp b3 0), (8, bp b2 0), (7, bp b1 0), (2, .i6 i_), (4, .i6 j), (6, .i6 k_)] ∧ Le g3 g7 ∧ St g7 [[bx b5 #[nilS, nilS] 61], [bx b4 #[vright1] 24], [bx b3 #[vleft1] 24], [bx b2 #[vbase1] 24], [bx b1 #[vm_1, vm_2] 61], cm_1, cm_2] fr w ∧ changeforgeref2_merged.j1 m_ base i_ left j right k_ rec_ y6 x6 = some r) ?_ ?_
    ·refine wp_seq ?_
     refine wp_region_lit ?_
     refine wE (ev_move rfl) F S rfl fun a F=>?_
     refine wE (ev_move rfl) F S rfl fun a F=>?_
     refine wE (ev_str rfl rfl (bs_eql _ _ _)) F S rfl fun a F=>?_
     refine wpList_nil ?_
     refine then_n ?_
     obtain ⟨hc10, hm⟩ | ⟨hc10, hm⟩ := ite_or hm
     ·refine wp_condT F rfl hc10 ?_
      refine wp_region_lit ?_
      refine wE (ev_move rfl) F S rfl fun a F=>?_
      refine wE (ev_assign rfl) F S rfl fun a F=>?_
      refine wpList_nil ?_
      refine then_n ?_
      exact ⟨y8.Label, g3, F.sub ⟨rfl, rfl, rfl, rfl, rfl, rfl, rfl, rfl, rfl, rfl, trivial⟩, (Le.refl _), S, hm⟩
     ·refine wp_condF F rfl hc10 ?_
      refine wp_skip ?_
      refine then_n ?_
      exact ⟨y7.Label, g3, F.sub ⟨rfl, rfl, rfl, rfl, rfl, rfl, rfl, rfl, rfl, rfl, trivial⟩, (Le.refl _), S, hm⟩
    ·clear F S hm; rintro a w ⟨x6, g7, F, l7, S, hm⟩
     refine wp_seq ?_
     refine wp_region_lit ?_
     refine wE (ev_assign rfl) F S rfl fun a F=>?_
     refine wpList_nil ?_
     refine then_n ?_
     refine wp_cut (fun a w => ∃ (x7 : List Int) (x8 : List Node) (x9 : List Int) (v15 v16 v17 : Value) (c9 c10 c11 : Hl) (g8 : Gh), Fr 183 a [(22, v15), (19, .string x6), (14, bp b5 0), (7, bp b1 0)] ∧ Le g7 g8 ∧ St g8 [c9, [bx b5 #[nilS, nilS] 61], [bx b1 #[v16, v17] 61], c10, c11] fr w ∧ OwnS g8 x7 v15 c9 ∧ OwnS g8 x8 v16 c10 ∧ OwnS g8 x9 v17 c11 ∧ changeforgeref2_merged.j2 x6 x7 x8 x9 = some r) ?_ ?_
     ·refine wp_seq ?_
      refine wp_region_lit ?_
      refine wE (ev_assign rfl) F S rfl fun a F=>?_
      refine wpList_nil ?_
      refine then_n ?_
      refine wp_block ?_
      obtain ⟨r1, hr9, hm⟩ := bind_some hm
      have hmo1 := hm; clear hm
      refine wp_iter (σ := Int × (List Int) × (List Node) × (List Int)) (ρ := (List Int) × (List Node) × (List Int)) (m := fun s => changeforgeref2_merged.l1 base i_ left j right k_ rec_ y6 s.1 s.2.1 s.2.2.1 s.2.2.2) (I := fun s a w => match s with | (x10, x11, x12, x13) => ∃ (v20 v21 v22 : Value) (c14 c15 c16 : Hl) (g10 : Gh), Fr 183 a [(23, .i6 x10), (22, v20), (19, .string x6), (18, .i6 (y6.Children.length : Int)), (14, bp b5 0), (12, bp b4 0), (10, bp b3 0), (8, bp b2 0), (7, bp b1 0), (2, .i6 i_), (4, .i6 j), (6, .i6 k_)] ∧ Le g7 g10 ∧ St g10 [c14, [bx b5 #[nilS, nilS] 61], [bx b4 #[vright1] 24], [bx b3 #[vleft1] 24], [bx b2 #[vbase1] 24], [bx b1 #[v21, v22] 61], c15, c16] fr w ∧ OwnS g10 x11 v20 c14 ∧ OwnS g10 x12 v21 c15 ∧ OwnS g10 x13 v22 c16) hr9 ?_ ?_
      ·dsimp only
       replace S : St g7 [[], [bx b5 #[nilS, nilS] 61], [bx b4 #[vright1] 24], [bx b3 #[vleft1] 24], [bx b2 #[vbase1] 24], [bx b1 #[vm_1, vm_2] 61], cm_1, cm_2] fr w := S
       exact ⟨(nilS), vm_1, vm_2, [], cm_1, cm_2, g7, F.sub ⟨rfl, rfl, rfl, rfl, rfl, rfl, rfl, rfl, rfl, rfl, rfl, rfl, trivial⟩, (Le.refl _), S, (OwnS.nil _), (hm_1.mono (((l1.trans l2).trans l3).trans l7)), (hm_2.mono (((l1.trans l2).trans l3).trans l7))⟩
      ·clear F S; rintro ⟨x10, x11, x12, x13⟩ a w x14 ⟨v20, v21, v22, c14, c15, c16, g10, F, l10, S, h21, h22, h23⟩ hx6 hfin1
       have hm : changeforgeref2_merged.l1 base i_ left j right k_ rec_ y6 x10 x11 x12 x13 = some x14 := hx6; clear hx6
       unfold changeforgeref2_merged.l1 at hm
       refine wp_seq ?_
       refine wp_seq ?_
       refine wp_region_lit ?_
       refine wE (ev_move rfl) F S rfl fun a F=>?_
       refine wE (ev_move rfl) F S rfl fun a F=>?_
       refine wE (ev_int rfl rfl (bo_lss _ _ _ _)) F S rfl fun a F=>?_
       refine wpList_nil ?_
       refine then_n ?_
       obtain ⟨hc9, hm⟩ | ⟨hc9, hm⟩ := ite_or hm
       ·refine wp_condT F rfl hc9 ?_
        refine wp_skip ?_
        refine then_n ?_
        refine wp_seq ?_
        refine wp_block ?_
        refine wp_seq ?_
        refine wp_dv [] mo S ?_; clear S; intro ok1 w S
        refine dv_ev ok1 0 rfl (ev_loadA tu61 rfl (cs := [v21, v22]) ts61 rfl (box_ptr (cells := [v21, v22]) 5 rfl 0 rfl (lb rfl))) F S rfl fun a F=>?_
        refine dv_ev ok1 1 rfl (ev_loadA tu24 rfl (cs := [vbase1]) ts24 rfl (box_ptr (cells := [vbase1]) 4 rfl 0 rfl (lb rfl))) F S rfl fun a F=>?_
        refine dv_et ok1 2 rfl (ev_fieldAddr' tu24 tf24_0 (z := 0) ts22 rfl ⟨_, rfl⟩ rfl) F rfl fun a F=>?_
        refine dv_ev ok1 3 rfl (ev_load1 tu22 rfl rfl (box_ptr (cells := [vbase1]) 4 rfl 0 rfl (lb rfl))) F S rfl fun a F=>?_
        refine dv_et ok1 4 rfl (ev_move rfl) F rfl fun a F=>?_
        obtain ⟨y15, hy15, hm⟩ := bind_some hm
        obtain ⟨cs9, hr10, hp13⟩ := elemS (hbase1.mono ((((l1.trans l2).trans l3).trans l7).trans l10)) hy15
        obtain ⟨v23, rfl, h24⟩ := rep_Node hr10
        refine dv_et ok1 5 rfl (ev_idxS (hbase1.mono ((((l1.trans l2).trans l3).trans l7).trans l10)) hy15 tu22 ts50 rfl rfl) F rfl fun a F=>?_
        have hp14 := PtrC.field hp13 1 1 (lb rfl)
        have hp14 : PtrC g10 (addP (elemP vbase1 i_ 2) 1) [v23] := hp14
        refine dv_et ok1 6 rfl (ev_fieldAddr' tu50 tf50_1 (z := 0) ts38 rfl hp13.ptr rfl) F rfl fun a F=>?_
        refine dv_ev ok1 7 rfl (ev_load1 tu38 rfl rfl (ptr_mono (cks := [c14, [bx b5 #[nilS, nilS] 61], [bx b4 #[vright1] 24], [bx b3 #[vleft1] 24], [bx b2 #[vbase1] 24], [bx b1 #[v21, v22] 61], c15, c16]) (fr := fr) hp14 (Le.refl _))) F S rfl fun a F=>?_
        refine dv_et ok1 8 rfl (ev_move rfl) F rfl fun a F=>?_
        obtain ⟨y16, hy16, hm⟩ := bind_some hm
        obtain ⟨cs10, hr11, hp15⟩ := elemS h24 hy16
        obtain rfl := rep_int hr11
        refine dv_et ok1 9 rfl (ev_idxS h24 hy16 tu38 ts3 rfl rfl) F rfl fun a F=>?_
        refine dv_ev ok1 10 rfl (ev_load1 tu3 rfl rfl (ptr_mono (cks := [c14, [bx b5 #[nilS, nilS] 61], [bx b4 #[vright1] 24], [bx b3 #[vleft1] 24], [bx b2 #[vbase1] 24], [bx b1 #[v21, v22] 61], c15, c16]) (fr := fr) hp15 (Le.refl _))) F S rfl fun a F=>?_
        refine dv_ev ok1 11 rfl (ev_loadA tu24 rfl (cs := [vleft1]) ts24 rfl (box_ptr (cells := [vleft1]) 3 rfl 0 rfl (lb rfl))) F S rfl fun a F=>?_
        refine dv_et ok1 12 rfl (ev_fieldAddr' tu24 tf24_0 (z := 0) ts22 rfl ⟨_, rfl⟩ rfl) F rfl fun a F=>?_
        refine dv_ev ok1 13 rfl (ev_load1 tu22 rfl rfl (box_ptr (cells := [vleft1]) 3 rfl 0 rfl (lb rfl))) F S rfl fun a F=>?_
        refine dv_et ok1 14 rfl (ev_move rfl) F rfl fun a F=>?_
        obtain ⟨y17, hy17, hm⟩ := bind_some hm
        obtain ⟨cs11, hr12, hp16⟩ := elemS (hleft1.mono ((((l1.trans l2).trans l3).trans l7).trans l10)) hy17
        obtain ⟨v24, rfl, h25⟩ := rep_Node hr12
        refine dv_et ok1 15 rfl (ev_idxS (hleft1.mono ((((l1.trans l2).trans l3).trans l7).trans l10)) hy17 tu22 ts50 rfl rfl) F rfl fun a F=>?_
        have hp17 := PtrC.field hp16 1 1 (lb rfl)
        have hp17 : PtrC g10 (addP (elemP vleft1 j 2) 1) [v24] := hp17
        refine dv_et ok1 16 rfl (ev_fieldAddr' tu50 tf50_1 (z := 0) ts38 rfl hp16.ptr rfl) F rfl fun a F=>?_
        refine dv_ev ok1 17 rfl (ev_load1 tu38 rfl rfl (ptr_mono (cks := [c14, [bx b5 #[nilS, nilS] 61], [bx b4 #[vright1] 24], [bx b3 #[vleft1] 24], [bx b2 #[vbase1] 24], [bx b1 #[v21, v22] 61], c15, c16]) (fr := fr) hp17 (Le.refl _))) F S rfl fun a F=>?_
        refine dv_et ok1 18 rfl (ev_move rfl) F rfl fun a F=>?_
        obtain ⟨y18, hy18, hm⟩ := bind_some hm
        obtain ⟨cs12, hr13, hp18⟩ := elemS h25 hy18
        obtain rfl := rep_int hr13
        refine dv_et ok1 19 rfl (ev_idxS h25 hy18 tu38 ts3 rfl rfl) F rfl fun a F=>?_
        refine dv_ev ok1 20 rfl (ev_load1 tu3 rfl rfl (ptr_mono (cks := [c14, [bx b5 #[nilS, nilS] 61], [bx b4 #[vright1] 24], [bx b3 #[vleft1] 24], [bx b2 #[vbase1] 24], [bx b1 #[v21, v22] 61], c15, c16]) (fr := fr) hp18 (Le.refl _))) F S rfl fun a F=>?_
        refine dv_ev ok1 21 rfl (ev_loadA tu24 rfl (cs := [vright1]) ts24 rfl (box_ptr (cells := [vright1]) 2 rfl 0 rfl (lb rfl))) F S rfl fun a F=>?_
        refine dv_et ok1 22 rfl (ev_fieldAddr' tu24 tf24_0 (z := 0) ts22 rfl ⟨_, rfl⟩ rfl) F rfl fun a F=>?_
        refine dv_ev ok1 23 rfl (ev_load1 tu22 rfl rfl (box_ptr (cells := [vright1]) 2 rfl 0 rfl (lb rfl))) F S rfl fun a F=>?_
        refine dv_et ok1 24 rfl (ev_move rfl) F rfl fun a F=>?_
        obtain ⟨y19, hy19, hm⟩ := bind_some hm
        obtain ⟨cs13, hr14, hp19⟩ := elemS (hright1.mono ((((l1.trans l2).trans l3).trans l7).trans l10)) hy19
        obtain ⟨v25, rfl, h26⟩ := rep_Node hr14
        refine dv_et ok1 25 rfl (ev_idxS (hright1.mono ((((l1.trans l2).trans l3).trans l7).trans l10)) hy19 tu22 ts50 rfl rfl) F rfl fun a F=>?_
        have hp20 := PtrC.field hp19 1 1 (lb rfl)
        have hp20 : PtrC g10 (addP (elemP vright1 k_ 2) 1) [v25] := hp20
        refine dv_et ok1 26 rfl (ev_fieldAddr' tu50 tf50_1 (z := 0) ts38 rfl hp19.ptr rfl) F rfl fun a F=>?_
        refine dv_ev ok1 27 rfl (ev_load1 tu38 rfl rfl (ptr_mono (cks := [c14, [bx b5 #[nilS, nilS] 61], [bx b4 #[vright1] 24], [bx b3 #[vleft1] 24], [bx b2 #[vbase1] 24], [bx b1 #[v21, v22] 61], c15, c16]) (fr := fr) hp20 (Le.refl _))) F S rfl fun a F=>?_
        refine dv_et ok1 28 rfl (ev_move rfl) F rfl fun a F=>?_
        obtain ⟨y20, hy20, hm⟩ := bind_some hm
        obtain ⟨cs14, hr15, hp21⟩ := elemS h26 hy20
        obtain rfl := rep_int hr15
        refine dv_et ok1 29 rfl (ev_idxS h26 hy20 tu38 ts3 rfl rfl) F rfl fun a F=>?_
        refine dv_ev ok1 30 rfl (ev_load1 tu3 rfl rfl (ptr_mono (cks := [c14, [bx b5 #[nilS, nilS] 61], [bx b4 #[vright1] 24], [bx b3 #[vleft1] 24], [bx b2 #[vbase1] 24], [bx b1 #[v21, v22] 61], c15, c16]) (fr := fr) hp21 (Le.refl _))) F S rfl fun a F=>?_
        refine dv_op ok1 31 rfl [] ?_
        replace S : St g10 [c15, c16, c14, [bx b5 #[nilS, nilS] 61], [bx b4 #[vright1] 24], [bx b3 #[vleft1] 24], [bx b2 #[vbase1] 24], [bx b1 #[v21, v22] 61]] fr w := ((((((((S.frontC 5 rfl).frontC 5 rfl).frontC 5 rfl).frontC 5 rfl).frontC 5 rfl).frontC 5 rfl).frontC 13 rfl).frontC 13 rfl)
        obtain ⟨y21, hy21, hm⟩ := bind_some hm
        refine wl_call0 (wn rfl) rfl F rfl (hrec (fr := (fl [c14, [bx b5 #[nilS, nilS] 61], [bx b4 #[vright1] 24], [bx b3 #[vleft1] 24], [bx b2 #[vbase1] 24], [bx b1 #[v21, v22] 61]] fr)) ({ Nodes := x12, Conflicts := x13 } : SyntaxMerge_changeforgeref2) v21 c15 h22 v22 c16 h23 base vbase1 (hbase1.mono ((((l1.trans l2).trans l3).trans l7).trans l10)) y16 left vleft1 (hleft1.mono ((((l1.trans l2).trans l3).trans l7).trans l10)) y18 right vright1 (hright1.mono ((((l1.trans l2).trans l3).trans l7).trans l10)) y20 S hy21) rfl tc31 rfl rfl ?_; clear F a S
        rintro _ a w ⟨g11, v26, v27, c17, c18, l11, S, h27, h28, rfl⟩ F; replace S : St g11 [c17, c18, c14, [bx b5 #[nilS, nilS] 61], [bx b4 #[vright1] 24], [bx b3 #[vleft1] 24], [bx b2 #[vbase1] 24], [bx b1 #[v21, v22] 61]] fr w := S
        refine dv_nx trivial ?_
        refine dv_op ok1 32 rfl [] ?_
        refine wl_storeC (wn rfl) rfl F S rfl rfl (vs := [v26, v27]) rfl ts61 (one_cons (OwnS.one h27) (one_cons (OwnS.one h28) one_nil)) (k := 7) rfl (lb rfl) (c' := #[v26, v27]) rfl rfl ?_; clear S; intro w S
        refine dv_nx trivial ?_
        refine dv_fin ok1 ?_
        replace F := F.sub (e' := [(23, .i6 x10), (22, v20), (19, .string x6), (18, .i6 (y6.Children.length : Int)), (14, bp b5 0), (12, bp b4 0), (10, bp b3 0), (8, bp b2 0), (7, bp b1 0), (2, .i6 i_), (4, .i6 j), (6, .i6 k_)]) ⟨rfl, rfl, rfl, rfl, rfl, rfl, rfl, rfl, rfl, rfl, rfl, rfl, trivial⟩
        refine then_n ?_
        refine wp_region_lit ?_
        refine wE (ev_move rfl) F S rfl fun a F=>?_
        refine wE (ev_fieldAddr' tu61 tf61_0 (z := 0) ts22 rfl ⟨_, rfl⟩ rfl) F S rfl fun a F=>?_
        refine wE (ev_load1 tu22 rfl rfl (box_ptr (cells := [v26]) 7 rfl 0 rfl (lb rfl))) F S rfl fun a F=>?_
        refine wE (ev_lenOw h27 rfl tu22) F S rfl fun a F=>?_
        obtain ⟨z2, hz2, hm⟩ := bind_some hm
        refine wE (ev_int rfl rfl (bo_sub hz2)) F S rfl fun a F=>?_
        refine wl_lit (l := ([z2] : List Int)) (vs := [.i6 z2]) (parts := [(0, .tmp 171)]) (wn rfl) rfl rfl rfl tu38 te3 (sz_cons rfl sz_nil) rfl (Cat.cons (show Rep.rep _ z2 _ from rfl) (Cat.nil _)) (coa_cons rfl coa_nil) rfl F S rfl rfl ?_; clear F a S
        rintro v28 c19 a w h29 F S
        obtain ⟨cs15, hk3, hr16⟩ := OwnS.reads h29
        obtain ⟨y22, hy22, hm⟩ := bind_some hm
        refine wl_append (wn rfl) rfl tu38 tu38 te3 (by decide) (by decide) F S rfl rfl (k := 3) rfl (h21.mono l11) hk3 rfl (hr16 _ _ _ 0 rfl S) hy22 rfl rfl ?_; clear F a S
        rintro v29 c20 a w h30 S F; replace S : St g11 [c19, c17, c18, c20, [bx b5 #[nilS, nilS] 61], [bx b4 #[vright1] 24], [bx b3 #[vleft1] 24], [bx b2 #[vbase1] 24], [bx b1 #[v26, v27] 61]] fr w := S
        refine wE (ev_assign rfl) F S rfl fun a F=>?_
        refine wpList_nil ?_
        refine inb_n ?_
        refine then_n ?_
        refine wp_region_lit ?_
        refine wE (ev_move rfl) F S rfl fun a F=>?_
        obtain ⟨z3, hz3, hm⟩ := bind_some hm
        refine wE (ev_int rfl rfl (bo_add hz3)) F S rfl fun a F=>?_
        refine wE (ev_assign rfl) F S rfl fun a F=>?_
        refine wpList_nil ?_
        refine then_n ?_
        obtain rfl := sinj hm
        refine ⟨_, rfl, ?_⟩
        dsimp only
        replace S : St g11 [c20, [bx b5 #[nilS, nilS] 61], [bx b4 #[vright1] 24], [bx b3 #[vleft1] 24], [bx b2 #[vbase1] 24], [bx b1 #[v26, v27] 61], c17, c18] fr w := St.tail [c20, [bx b5 #[nilS, nilS] 61], [bx b4 #[vright1] 24], [bx b3 #[vleft1] 24], [bx b2 #[vbase1] 24], [bx b1 #[v26, v27] 61], c17, c18] _ ((((((((S.frontC 2 rfl).frontC 2 rfl).frontC 10 rfl).frontC 10 rfl).frontC 10 rfl).frontC 10 rfl).frontC 10 rfl).frontC 10 rfl)
        exact ⟨v29, v26, v27, c20, c17, c18, g11, F.sub ⟨rfl, rfl, rfl, rfl, rfl, rfl, rfl, rfl, rfl, rfl, rfl, rfl, trivial⟩, (l10.trans l11), S, h30, h27, h28⟩
       ·refine wp_condF F rfl hc9 ?_
        refine wp_exit ?_
        refine then_e ?_
        refine then_e ?_
        refine inb_x ?_
        refine then_n ?_
        obtain rfl := sinj hm
        obtain rfl := hfin1 _ rfl
        clear hm
        have hm : (changeforgeref2_merged.j2 x6 x11 x12 x13 : Option SyntaxMerge_changeforgeref2) = some _ := hmo1
        replace S : St g10 [c14, [bx b5 #[nilS, nilS] 61], [bx b1 #[v21, v22] 61], c15, c16] fr w := St.tail [c14, [bx b5 #[nilS, nilS] 61], [bx b1 #[v21, v22] 61], c15, c16] _ (((((S.frontC 7 rfl).frontC 7 rfl).frontC 7 rfl).frontC 4 rfl).frontC 4 rfl)
        exact ⟨x11, x12, x13, v20, v21, v22, c14, c15, c16, g10, F.sub ⟨rfl, rfl, rfl, rfl, trivial⟩, l10, S, h21, h22, h23, hm⟩
     ·clear F S hm; rintro a w ⟨x7, x8, x9, v15, v16, v17, c9, c10, c11, g8, F, l8, S, h15, h16, h17, hm⟩
      refine wp_seq ?_
      refine wp_region_lit ?_
      refine wE (ev_fieldAddr' tu61 tf61_0 (z := 0) ts22 rfl ⟨_, rfl⟩ rfl) F S rfl fun a F=>?_
      refine wE (ev_load1 tu22 rfl rfl (box_ptr (cells := [v16]) 2 rfl 0 rfl (lb rfl))) F S rfl fun a F=>?_
      refine wE (ev_move rfl) F S rfl fun a F=>?_
      refine wE (ev_move rfl) F S rfl fun a F=>?_
      refine wE (ev_build (parts := [(0, .tmp 176), (1, .tmp 177)]) (vs := [(0, .string x6), (1, v15)]) rfl (fun w => tb50_0_1 x6 v15 (OwnS.isSl h15) w)) F S rfl fun a F=>?_
      obtain ⟨g9, l9, S, h18⟩ : ∃ gz, Le g8 gz ∧ St gz [[bx b5 #[nilS, nilS] 61], [bx b1 #[v16, v17] 61], c10, c11] fr w ∧ RepSl gz x7 v15 := ⟨_, Le.add _ _, S.freeze 0 rfl, OwnS.freeze (S.front 0 rfl) h15⟩
      refine wl_lit (l := ([({ Label := x6, Children := x7 } : Node)] : List Node)) (vs := [.agg #[.string x6, v15]]) (parts := [(0, .tmp 178)]) (wn rfl) rfl rfl rfl tu22 te50 (sz_cons rfl sz_nil) rfl (Cat.cons (rep_Node_mk (x := ({ Label := x6, Children := x7 } : Node)) h18) (Cat.nil _)) (coa_cons rfl coa_nil) rfl F S rfl rfl ?_; clear F a S
      rintro v18 c12 a w h19 F S
      obtain ⟨cs8, hk2, hr8⟩ := OwnS.reads h19
      obtain ⟨y14, hy14, hm⟩ := bind_some hm
      refine wl_append (wn rfl) rfl tu22 tu22 te50 (by decide) (by decide) F S rfl rfl (k := 3) rfl (h16.mono l9) hk2 rfl (hr8 _ _ _ 0 rfl S) hy14 rfl rfl ?_; clear F a S
      rintro v19 c13 a w h20 S F; replace S : St g9 [c12, [bx b5 #[nilS, nilS] 61], [bx b1 #[v16, v17] 61], c13, c11] fr w := S
      refine wE (ev_fieldAddr' tu61 tf61_0 (z := 0) ts22 rfl ⟨_, rfl⟩ rfl) F S rfl fun a F=>?_
      refine wl_storeC (wn rfl) rfl F S rfl rfl (vs := [v19]) (OwnS.cl h20) ts22 (one_cons (OwnS.one h20) one_nil) (k := 2) rfl (lb rfl) (c' := #[v19, v17]) rfl rfl ?_; clear S; intro w S
      refine wpList_nil ?_
      refine then_n ?_
      refine wp_seq ?_
      refine wp_region_lit ?_
      refine wE (ev_loadA tu61 rfl (cs := [v19, v17]) ts61 rfl (box_ptr (cells := [v19, v17]) 2 rfl 0 rfl (lb rfl))) F S rfl fun a F=>?_
      refine wl_storeC (wn rfl) rfl F S rfl rfl (vs := [v19, v17]) rfl ts61 (one_cons (OwnS.one h20) (one_cons (OwnS.one h17) one_nil)) (k := 1) rfl (lb rfl) (c' := #[v19, v17]) rfl rfl ?_; clear S; intro w S
      refine wpList_nil ?_
      refine then_n ?_
      refine wp_ret ?_
      obtain rfl := sinj hm
      refine post_r _ F rfl (ar_cons (resA rfl tu61 rfl (box_ptr (cells := [v19, v17]) 1 rfl 0 rfl (lb rfl) w S) ts61) ar_nil) ?_
      replace S : St g9 [c13, c11] fr w := St.tail [c13, c11] _ ((S.frontC 4 rfl).frontC 4 rfl)
      exact ⟨_, rfl, g9, v19, v17, c13, c11, (((((l1.trans l2).trans l3).trans l7).trans l8).trans l9), S, h20, (h17.mono l9), rfl⟩

theorem changeforgeref2_merged.m_ok : ∀ (fu_ : Nat) {g : Gh} {fr : Hl} {w : World} {r : SyntaxMerge_changeforgeref2} (m_ : SyntaxMerge_changeforgeref2) (vm_1 : Value) (cm_1 : Hl) (hm_1 : OwnS g m_.Nodes vm_1 cm_1) (vm_2 : Value) (cm_2 : Hl) (hm_2 : OwnS g m_.Conflicts vm_2 cm_2) (base : SyntaxTree) (vbase1 : Value) (hbase1 : RepSl g base.Nodes vbase1) (i_ : Int) (left : SyntaxTree) (vleft1 : Value) (hleft1 : RepSl g left.Nodes vleft1) (j : Int) (right : SyntaxTree) (vright1 : Value) (hright1 : RepSl g right.Nodes vright1) (k_ : Int) (S : St g [cm_1, cm_2] fr w) (hm : changeforgeref2_merged.m fu_ m_ base i_ left j right k_ = some r), Calls Try.prog 31 [.agg #[vm_1, vm_2], .agg #[vbase1], .i6 i_, .agg #[vleft1], .i6 j, .agg #[vright1], .i6 k_].toArray w (fun en w' => ∃ v, en = .returned v ∧ ∃ (g' : Gh) (v1 v2 : Value) (c1 c2 : Hl), Le g g' ∧ St g' [c1, c2] fr w' ∧ OwnS g' r.Nodes v1 c1 ∧ OwnS g' r.Conflicts v2 c2 ∧ .agg #[v1, v2] = v)
 | 0 => by intros; rename_i hm; cases hm
 | fu_ + 1 => changeforgeref2_merged.body_ok (changeforgeref2_merged.m_ok fu_)

theorem changeforgeref2_merged_ok {g : Gh} {fr : Hl} {w : World} {r : SyntaxMerge_changeforgeref2} (m_ : SyntaxMerge_changeforgeref2) (vm_1 : Value) (cm_1 : Hl) (hm_1 : OwnS g m_.Nodes vm_1 cm_1) (vm_2 : Value) (cm_2 : Hl) (hm_2 : OwnS g m_.Conflicts vm_2 cm_2) (base : SyntaxTree) (vbase1 : Value) (hbase1 : RepSl g base.Nodes vbase1) (i_ : Int) (left : SyntaxTree) (vleft1 : Value) (hleft1 : RepSl g left.Nodes vleft1) (j : Int) (right : SyntaxTree) (vright1 : Value) (hright1 : RepSl g right.Nodes vright1) (k_ : Int) (S : St g [cm_1, cm_2] fr w) (hm : changeforgeref2_merged m_ base i_ left j right k_ = some r) :
  Calls Try.prog 31 [.agg #[vm_1, vm_2], .agg #[vbase1], .i6 i_, .agg #[vleft1], .i6 j, .agg #[vright1], .i6 k_].toArray w (fun en w' => ∃ v, en = .returned v ∧ ∃ (g' : Gh) (v1 v2 : Value) (c1 c2 : Hl), Le g g' ∧ St g' [c1, c2] fr w' ∧ OwnS g' r.Nodes v1 c1 ∧ OwnS g' r.Conflicts v2 c2 ∧ .agg #[v1, v2] = v) := changeforgeref2_merged.m_ok _ m_ vm_1 cm_1 hm_1 vm_2 cm_2 hm_2 base vbase1 hbase1 i_ left vleft1 hleft1 j right vright1 hright1 k_ S hm

theorem changeforgeref2_MergeSyntax_ok {g : Gh} {fr : Hl} {w : World} {r : SyntaxTree × (List Int) × Fault} (base : SyntaxTree) (vbase1 : Value) (hbase1 : RepSl g base.Nodes vbase1) (left : SyntaxTree) (vleft1 : Value) (hleft1 : RepSl g left.Nodes vleft1) (right : SyntaxTree) (vright1 : Value) (hright1 : RepSl g right.Nodes vright1) (S : St g [] fr w) (hm : changeforgeref2_MergeSyntax base left right = some r) :
  Calls Try.prog 19 [.agg #[vbase1], .agg #[vleft1], .agg #[vright1]].toArray w (fun en w' => ∃ v, en = .returned v ∧ ∃ (g' : Gh) (v1 v2 : Value) (c1 c2 : Hl), Le g g' ∧ St g' [c1, c2] fr w' ∧ OwnS g' r.1.Nodes v1 c1 ∧ OwnS g' r.2.1 v2 c2 ∧ .tuple #[.agg #[v1], v2, .agg #[.i6 r.2.2.Code, .i6 r.2.2.Index]] = v) := by
 unfold changeforgeref2_MergeSyntax at hm
 refine calls_enter (fn := Try.f19) Try.func19 rfl Try.ntmps19 (lb rfl) ?_
 intro a F
 replace F : Fr 73 a [(0, .agg #[vbase1]), (1, .agg #[vleft1]), (2, .agg #[vright1])] := F
 refine wp_seq ?_
 refine wp_region_lit ?_
 refine wl_boxC (wn rfl) rfl rfl rfl F S rfl rfl ?_; clear F a S; rintro b1 a w F S
 refine wl_boxC (wn rfl) rfl rfl rfl F S rfl rfl ?_; clear F a S; rintro b2 a w F S
 refine wl_boxC (wn rfl) rfl rfl rfl F S rfl rfl ?_; clear F a S; rintro b3 a w F S
 refine wl_alloc (wn rfl) rfl tz24 (cs := [nilS]) rfl F S rfl rfl ?_; clear F a S; rintro b4 a w F S
 refine wE (ev_assign rfl) F S rfl fun a F=>?_
 refine wl_alloc (wn rfl) rfl tz26 (cs := [.i6 0, .i6 0]) rfl F S rfl rfl ?_; clear F a S; rintro b5 a w F S
 refine wpList_nil ?_
 refine then_n ?_
 refine wp_seq ?_
 refine wp_region_lit ?_
 refine wE (ev_loadA tu24 rfl (cs := [vbase1]) ts24 rfl (box_ptr (cells := [vbase1]) 4 rfl 0 rfl (lb rfl))) F S rfl fun a F=>?_
 obtain ⟨y1, hy1, hm⟩ := bind_some hm
 refine wl_call0 (wn rfl) rfl F rfl (changeforgeref2_SyntaxFault_ok (fr := (fl [[bx b5 #[.i6 0, .i6 0] 26], [bx b4 #[nilS] 24], [bx b3 #[vright1] 24], [bx b2 #[vleft1] 24], [bx b1 #[vbase1] 24]] fr)) base vbase1 hbase1 S hy1) rfl tc13 rfl rfl ?_; clear F a S
 rintro _ a w ⟨g1, l1, S, rfl⟩ F; replace S : St g1 [[bx b5 #[.i6 0, .i6 0] 26], [bx b4 #[nilS] 24], [bx b3 #[vright1] 24], [bx b2 #[vleft1] 24], [bx b1 #[vbase1] 24]] fr w := S
 refine wl_alloc (wn rfl) rfl tz26 (cs := [.i6 0, .i6 0]) rfl F S rfl rfl ?_; clear F a S; rintro b6 a w F S
 refine wl_storeC (wn rfl) rfl F S rfl rfl (vs := [.i6 y1.Code, .i6 y1.Index]) rfl ts26 (one_cons rfl (one_cons rfl one_nil)) (k := 0) rfl (lb rfl) (c' := #[.i6 y1.Code, .i6 y1.Index]) rfl rfl ?_; clear S; intro w S
 refine wpList_nil ?_
 refine then_n ?_
 refine wp_cut (fun a w => ∃ (x1 : Int) (x2 : Int) (g2 : Gh), Fr 73 a [(9, bp b6 0), (8, bp b5 0), (6, bp b4 0), (5, bp b3 0), (4, bp b2 0), (3, bp b1 0)] ∧ Le g1 g2 ∧ St g2 [[bx b6 #[.i6 x1, .i6 x2] 26], [bx b5 #[.i6 0, .i6 0] 26], [bx b4 #[nilS] 24], [bx b3 #[vright1] 24], [bx b2 #[vleft1] 24], [bx b1 #[vbase1] 24]] fr w ∧ changeforgeref2_MergeSyntax.j1 base left right x1 x2 = some r) ?_ ?_
 ·refine wp_seq ?_
  refine wp_region_lit ?_
  refine wE (ev_fieldAddr' tu26 tf26_0 (z := 0) ts3 rfl ⟨_, rfl⟩ rfl) F S rfl fun a F=>?_
  refine wE (ev_load1 tu3 rfl rfl (box_ptr (cells := [.i6 y1.Code]) 0 rfl 0 rfl (lb rfl))) F S rfl fun a F=>?_
  refine wE (ev_int rfl rfl (bo_eql _ _ _ _)) F S rfl fun a F=>?_
  refine wE (ev_move rfl) F S rfl fun a F=>?_
  obtain ⟨x6, hx2, hm⟩ := bind_some hm
  refine wl_cut 5 (fun a w => ∃ g10, Fr 73 a [(21, .bool x6), (9, bp b6 0), (8, bp b5 0), (6, bp b4 0), (5, bp b3 0), (4, bp b2 0), (3, bp b1 0)] ∧ Le g1 g10 ∧ St g10 [[bx b6 #[.i6 y1.Code, .i6 y1.Index] 26], [bx b5 #[.i6 0, .i6 0] 26], [bx b4 #[nilS] 24], [bx b3 #[vright1] 24], [bx b2 #[vleft1] 24], [bx b1 #[vbase1] 24]] fr w) ?_ ?_
  ·clear hm; obtain ⟨hc5, hm⟩ | ⟨hc5, hm⟩ := ite_or hx2
   ·refine wl_ev (wg F rfl rfl rfl rfl hc5) (ev_loadA tu24 rfl (cs := [vleft1]) ts24 rfl (box_ptr (cells := [vleft1]) 4 rfl 0 rfl (lb rfl))) F S rfl rfl ?_; clear F a; intro a F
    obtain ⟨y7, hy7, hm⟩ := bind_some hm
    refine wl_call0 (wg F rfl rfl rfl rfl hc5) rfl F rfl (changeforgeref2_SyntaxFault_ok (fr := (fl [[bx b6 #[.i6 y1.Code, .i6 y1.Index] 26], [bx b5 #[.i6 0, .i6 0] 26], [bx b4 #[nilS] 24], [bx b3 #[vright1] 24], [bx b2 #[vleft1] 24], [bx b1 #[vbase1] 24]] fr)) left vleft1 (hleft1.mono l1) S hy7) rfl tc13 rfl rfl ?_; clear F a S
    rintro _ a w ⟨g11, l11, S, rfl⟩ F; replace S : St g11 [[bx b6 #[.i6 y1.Code, .i6 y1.Index] 26], [bx b5 #[.i6 0, .i6 0] 26], [bx b4 #[nilS] 24], [bx b3 #[vright1] 24], [bx b2 #[vleft1] 24], [bx b1 #[vbase1] 24]] fr w := S
    refine wl_ev (wg F rfl rfl rfl rfl hc5) (ev_field1 tu26 tf26_0 tu3 rfl (cs := [.i6 y7.Code, .i6 y7.Index]) rfl rfl) F S rfl rfl ?_; clear F a; intro a F
    refine wl_ev (wg F rfl rfl rfl rfl hc5) (ev_int rfl rfl (bo_neq _ _ _ _)) F S rfl rfl ?_; clear F a; intro a F
    refine wE (ev_pickT rfl hc5 rfl) F S rfl fun a F=>?_
    obtain rfl := sinj hm
    refine wpList_nil (then_n ?_); exact ⟨g11, F.sub ⟨rfl, rfl, rfl, rfl, rfl, rfl, rfl, trivial⟩, l11, S⟩
   ·refine wl_skip rfl rfl rfl rfl (ne_tf hc5) F rfl rfl ?_; clear F a; intro a F
    refine wl_skip rfl rfl rfl rfl (ne_tf hc5) F rfl rfl ?_; clear F a; intro a F
    refine wl_skip rfl rfl rfl rfl (ne_tf hc5) F rfl rfl ?_; clear F a; intro a F
    refine wl_skip rfl rfl rfl rfl (ne_tf hc5) F rfl rfl ?_; clear F a; intro a F
    refine wE (ev_pickF rfl hc5 rfl) F S rfl fun a F=>?_
    obtain rfl := sinj hm
    refine wpList_nil (then_n ?_); exact ⟨g1, F.sub ⟨rfl, rfl, rfl, rfl, rfl, rfl, rfl, trivial⟩, (Le.refl _), S⟩
  clear F S; rintro a w ⟨g10, F, l10, S⟩
  refine wpList_nil ?_
  refine then_n ?_
  obtain ⟨hc6, hm⟩ | ⟨hc6, hm⟩ := ite_or hm
  ·refine wp_condT F rfl hc6 ?_
   refine wp_region_lit ?_
   refine wE (ev_loadA tu24 rfl (cs := [vleft1]) ts24 rfl (box_ptr (cells := [vleft1]) 4 rfl 0 rfl (lb rfl))) F S rfl fun a F=>?_
   obtain ⟨y8, hy8, hm⟩ := bind_some hm
   refine wl_call0 (wn rfl) rfl F rfl (changeforgeref2_SyntaxFault_ok (fr := (fl [[bx b6 #[.i6 y1.Code, .i6 y1.Index] 26], [bx b5 #[.i6 0, .i6 0] 26], [bx b4 #[nilS] 24], [bx b3 #[vright1] 24], [bx b2 #[vleft1] 24], [bx b1 #[vbase1] 24]] fr)) left vleft1 (hleft1.mono (l1.trans l10)) S hy8) rfl tc13 rfl rfl ?_; clear F a S
   rintro _ a w ⟨g12, l12, S, rfl⟩ F; replace S : St g12 [[bx b6 #[.i6 y1.Code, .i6 y1.Index] 26], [bx b5 #[.i6 0, .i6 0] 26], [bx b4 #[nilS] 24], [bx b3 #[vright1] 24], [bx b2 #[vleft1] 24], [bx b1 #[vbase1] 24]] fr w := S
   refine wE (ev_field1 tu26 tf26_0 tu3 rfl (cs := [.i6 y8.Code, .i6 y8.Index]) rfl rfl) F S rfl fun a F=>?_
   obtain ⟨y9, hy9, hm⟩ := bind_some hm
   refine wl_call0 (wn rfl) rfl F rfl (changeforgeref1_At_ok (fr := (fl [[bx b6 #[.i6 y1.Code, .i6 y1.Index] 26], [bx b5 #[.i6 0, .i6 0] 26], [bx b4 #[nilS] 24], [bx b3 #[vright1] 24], [bx b2 #[vleft1] 24], [bx b1 #[vbase1] 24]] fr)) y8.Code (-2) S hy9) rfl tc23 rfl rfl ?_; clear F a S
   rintro _ a w ⟨g13, l13, S, rfl⟩ F; replace S : St g13 [[bx b6 #[.i6 y1.Code, .i6 y1.Index] 26], [bx b5 #[.i6 0, .i6 0] 26], [bx b4 #[nilS] 24], [bx b3 #[vright1] 24], [bx b2 #[vleft1] 24], [bx b1 #[vbase1] 24]] fr w := S
   refine wl_storeC (wn rfl) rfl F S rfl rfl (vs := [.i6 y9.Code, .i6 y9.Index]) rfl ts26 (one_cons rfl (one_cons rfl one_nil)) (k := 0) rfl (lb rfl) (c' := #[.i6 y9.Code, .i6 y9.Index]) rfl rfl ?_; clear S; intro w S
   refine wpList_nil ?_
   refine then_n ?_
   exact ⟨y9.Code, y9.Index, g13, F.sub ⟨rfl, rfl, rfl, rfl, rfl, rfl, trivial⟩, ((l10.trans l12).trans l13), S, hm⟩
  ·refine wp_condF F rfl hc6 ?_
   refine wp_skip ?_
   refine then_n ?_
   exact ⟨y1.Code, y1.Index, g10, F.sub ⟨rfl, rfl, rfl, rfl, rfl, rfl, trivial⟩, l10, S, hm⟩
 ·clear F S hm; rintro a w ⟨x1, x2, g2, F, l2, S, hm⟩
  refine wp_cut (fun a w => ∃ (x3 : Int) (x4 : Int) (g3 : Gh), Fr 73 a [(9, bp b6 0), (8, bp b5 0), (6, bp b4 0), (5, bp b3 0), (4, bp b2 0), (3, bp b1 0)] ∧ Le g2 g3 ∧ St g3 [[bx b6 #[.i6 x3, .i6 x4] 26], [bx b5 #[.i6 0, .i6 0] 26], [bx b4 #[nilS] 24], [bx b3 #[vright1] 24], [bx b2 #[vleft1] 24], [bx b1 #[vbase1] 24]] fr w ∧ changeforgeref2_MergeSyntax.j2 base left right x3 x4 = some r) ?_ ?_
  ·refine wp_seq ?_
   refine wp_region_lit ?_
   refine wE (ev_fieldAddr' tu26 tf26_0 (z := 0) ts3 rfl ⟨_, rfl⟩ rfl) F S rfl fun a F=>?_
   refine wE (ev_load1 tu3 rfl rfl (box_ptr (cells := [.i6 x1]) 0 rfl 0 rfl (lb rfl))) F S rfl fun a F=>?_
   refine wE (ev_int rfl rfl (bo_eql _ _ _ _)) F S rfl fun a F=>?_
   refine wE (ev_move rfl) F S rfl fun a F=>?_
   obtain ⟨x5, hx1, hm⟩ := bind_some hm
   refine wl_cut 5 (fun a w => ∃ g6, Fr 73 a [(34, .bool x5), (9, bp b6 0), (8, bp b5 0), (6, bp b4 0), (5, bp b3 0), (4, bp b2 0), (3, bp b1 0)] ∧ Le g2 g6 ∧ St g6 [[bx b6 #[.i6 x1, .i6 x2] 26], [bx b5 #[.i6 0, .i6 0] 26], [bx b4 #[nilS] 24], [bx b3 #[vright1] 24], [bx b2 #[vleft1] 24], [bx b1 #[vbase1] 24]] fr w) ?_ ?_
   ·clear hm; obtain ⟨hc3, hm⟩ | ⟨hc3, hm⟩ := ite_or hx1
    ·refine wl_ev (wg F rfl rfl rfl rfl hc3) (ev_loadA tu24 rfl (cs := [vright1]) ts24 rfl (box_ptr (cells := [vright1]) 3 rfl 0 rfl (lb rfl))) F S rfl rfl ?_; clear F a; intro a F
     obtain ⟨y4, hy4, hm⟩ := bind_some hm
     refine wl_call0 (wg F rfl rfl rfl rfl hc3) rfl F rfl (changeforgeref2_SyntaxFault_ok (fr := (fl [[bx b6 #[.i6 x1, .i6 x2] 26], [bx b5 #[.i6 0, .i6 0] 26], [bx b4 #[nilS] 24], [bx b3 #[vright1] 24], [bx b2 #[vleft1] 24], [bx b1 #[vbase1] 24]] fr)) right vright1 (hright1.mono (l1.trans l2)) S hy4) rfl tc13 rfl rfl ?_; clear F a S
     rintro _ a w ⟨g7, l7, S, rfl⟩ F; replace S : St g7 [[bx b6 #[.i6 x1, .i6 x2] 26], [bx b5 #[.i6 0, .i6 0] 26], [bx b4 #[nilS] 24], [bx b3 #[vright1] 24], [bx b2 #[vleft1] 24], [bx b1 #[vbase1] 24]] fr w := S
     refine wl_ev (wg F rfl rfl rfl rfl hc3) (ev_field1 tu26 tf26_0 tu3 rfl (cs := [.i6 y4.Code, .i6 y4.Index]) rfl rfl) F S rfl rfl ?_; clear F a; intro a F
     refine wl_ev (wg F rfl rfl rfl rfl hc3) (ev_int rfl rfl (bo_neq _ _ _ _)) F S rfl rfl ?_; clear F a; intro a F
     refine wE (ev_pickT rfl hc3 rfl) F S rfl fun a F=>?_
     obtain rfl := sinj hm
     refine wpList_nil (then_n ?_); exact ⟨g7, F.sub ⟨rfl, rfl, rfl, rfl, rfl, rfl, rfl, trivial⟩, l7, S⟩
    ·refine wl_skip rfl rfl rfl rfl (ne_tf hc3) F rfl rfl ?_; clear F a; intro a F
     refine wl_skip rfl rfl rfl rfl (ne_tf hc3) F rfl rfl ?_; clear F a; intro a F
     refine wl_skip rfl rfl rfl rfl (ne_tf hc3) F rfl rfl ?_; clear F a; intro a F
     refine wl_skip rfl rfl rfl rfl (ne_tf hc3) F rfl rfl ?_; clear F a; intro a F
     refine wE (ev_pickF rfl hc3 rfl) F S rfl fun a F=>?_
     obtain rfl := sinj hm
     refine wpList_nil (then_n ?_); exact ⟨g2, F.sub ⟨rfl, rfl, rfl, rfl, rfl, rfl, rfl, trivial⟩, (Le.refl _), S⟩
   clear F S; rintro a w ⟨g6, F, l6, S⟩
   refine wpList_nil ?_
   refine then_n ?_
   obtain ⟨hc4, hm⟩ | ⟨hc4, hm⟩ := ite_or hm
   ·refine wp_condT F rfl hc4 ?_
    refine wp_region_lit ?_
    refine wE (ev_loadA tu24 rfl (cs := [vright1]) ts24 rfl (box_ptr (cells := [vright1]) 3 rfl 0 rfl (lb rfl))) F S rfl fun a F=>?_
    obtain ⟨y5, hy5, hm⟩ := bind_some hm
    refine wl_call0 (wn rfl) rfl F rfl (changeforgeref2_SyntaxFault_ok (fr := (fl [[bx b6 #[.i6 x1, .i6 x2] 26], [bx b5 #[.i6 0, .i6 0] 26], [bx b4 #[nilS] 24], [bx b3 #[vright1] 24], [bx b2 #[vleft1] 24], [bx b1 #[vbase1] 24]] fr)) right vright1 (hright1.mono ((l1.trans l2).trans l6)) S hy5) rfl tc13 rfl rfl ?_; clear F a S
    rintro _ a w ⟨g8, l8, S, rfl⟩ F; replace S : St g8 [[bx b6 #[.i6 x1, .i6 x2] 26], [bx b5 #[.i6 0, .i6 0] 26], [bx b4 #[nilS] 24], [bx b3 #[vright1] 24], [bx b2 #[vleft1] 24], [bx b1 #[vbase1] 24]] fr w := S
    refine wE (ev_field1 tu26 tf26_0 tu3 rfl (cs := [.i6 y5.Code, .i6 y5.Index]) rfl rfl) F S rfl fun a F=>?_
    obtain ⟨y6, hy6, hm⟩ := bind_some hm
    refine wl_call0 (wn rfl) rfl F rfl (changeforgeref1_At_ok (fr := (fl [[bx b6 #[.i6 x1, .i6 x2] 26], [bx b5 #[.i6 0, .i6 0] 26], [bx b4 #[nilS] 24], [bx b3 #[vright1] 24], [bx b2 #[vleft1] 24], [bx b1 #[vbase1] 24]] fr)) y5.Code (-3) S hy6) rfl tc23 rfl rfl ?_; clear F a S
    rintro _ a w ⟨g9, l9, S, rfl⟩ F; replace S : St g9 [[bx b6 #[.i6 x1, .i6 x2] 26], [bx b5 #[.i6 0, .i6 0] 26], [bx b4 #[nilS] 24], [bx b3 #[vright1] 24], [bx b2 #[vleft1] 24], [bx b1 #[vbase1] 24]] fr w := S
    refine wl_storeC (wn rfl) rfl F S rfl rfl (vs := [.i6 y6.Code, .i6 y6.Index]) rfl ts26 (one_cons rfl (one_cons rfl one_nil)) (k := 0) rfl (lb rfl) (c' := #[.i6 y6.Code, .i6 y6.Index]) rfl rfl ?_; clear S; intro w S
    refine wpList_nil ?_
    refine then_n ?_
    exact ⟨y6.Code, y6.Index, g9, F.sub ⟨rfl, rfl, rfl, rfl, rfl, rfl, trivial⟩, ((l6.trans l8).trans l9), S, hm⟩
   ·refine wp_condF F rfl hc4 ?_
    refine wp_skip ?_
    refine then_n ?_
    exact ⟨x1, x2, g6, F.sub ⟨rfl, rfl, rfl, rfl, rfl, rfl, trivial⟩, l6, S, hm⟩
  ·clear F S hm; rintro a w ⟨x3, x4, g3, F, l3, S, hm⟩
   refine wp_seq ?_
   refine wp_seq ?_
   refine wp_region_lit ?_
   refine wE (ev_fieldAddr' tu26 tf26_0 (z := 0) ts3 rfl ⟨_, rfl⟩ rfl) F S rfl fun a F=>?_
   refine wE (ev_load1 tu3 rfl rfl (box_ptr (cells := [.i6 x3]) 0 rfl 0 rfl (lb rfl))) F S rfl fun a F=>?_
   refine wE (ev_int rfl rfl (bo_neq _ _ _ _)) F S rfl fun a F=>?_
   refine wpList_nil ?_
   refine then_n ?_
   obtain ⟨hc1, hm⟩ | ⟨hc1, hm⟩ := ite_or hm
   ·refine wp_condT F rfl hc1 ?_
    refine wp_seq ?_
    refine wp_dv [] mo S ?_; clear S; intro ok1 w S
    refine dv_et ok1 0 rfl (ev_build (parts := []) (vs := []) rfl (fun w => tb24_  w)) F rfl fun a F=>?_
    refine dv_ev ok1 1 rfl (ev_loadA tu26 rfl (cs := [.i6 x3, .i6 x4]) ts26 rfl (box_ptr (cells := [.i6 x3, .i6 x4]) 0 rfl 0 rfl (lb rfl))) F S rfl fun a F=>?_
    refine dv_op ok1 2 rfl [(1, .agg #[.i6 x3, .i6 x4])] ?_
    refine wl_storeC (wn rfl) rfl F S rfl rfl (vs := [nilS]) rfl ts24 (one_cons rfl one_nil) (k := 2) rfl (lb rfl) (c' := #[nilS]) rfl rfl ?_; clear S; intro w S
    refine dv_nx ⟨yl_ev rfl rfl (ev_loadA tu26 rfl (cs := [.i6 x3, .i6 x4]) ts26 rfl (box_ptr (cells := [.i6 x3, .i6 x4]) 0 rfl 0 rfl (lb rfl))) F S, trivial⟩ ?_
    refine dv_et ok1 3 rfl (ev_assign rfl) F rfl fun a F=>?_
    refine dv_op ok1 4 rfl [] ?_
    refine wl_storeC (wn rfl) rfl F S rfl rfl (vs := [.i6 x3, .i6 x4]) rfl ts26 (one_cons rfl (one_cons rfl one_nil)) (k := 1) rfl (lb rfl) (c' := #[.i6 x3, .i6 x4]) rfl rfl ?_; clear S; intro w S
    refine dv_nx trivial ?_
    refine dv_fin ok1 ?_
    refine then_n ?_
    refine wp_ret ?_
    refine then_r ?_
    obtain rfl := sinj hm
    replace S : St g3 [[], [bx b6 #[.i6 x3, .i6 x4] 26], [bx b5 #[.i6 x3, .i6 x4] 26], [bx b4 #[nilS] 24], [bx b3 #[vright1] 24], [bx b2 #[vleft1] 24], [bx b1 #[vbase1] 24]] fr w := S
    replace S : St g3 [[], [], [bx b6 #[.i6 x3, .i6 x4] 26], [bx b5 #[.i6 x3, .i6 x4] 26], [bx b4 #[nilS] 24], [bx b3 #[vright1] 24], [bx b2 #[vleft1] 24], [bx b1 #[vbase1] 24]] fr w := S
    refine post_r _ F rfl (ar_cons (resA rfl tu24 rfl (box_ptr (cells := [nilS]) 4 rfl 0 rfl (lb rfl) w S) ts24) (ar_cons (resT rfl) (ar_cons (resA rfl tu26 rfl (box_ptr (cells := [.i6 x3, .i6 x4]) 3 rfl 0 rfl (lb rfl) w S) ts26) ar_nil))) ?_
    replace S : St g3 [[], []] fr w := St.tail [[], []] _ ((S.frontC 0 rfl).frontC 2 rfl)
    exact ⟨_, rfl, g3, (nilS), (nilS), [], [], ((l1.trans l2).trans l3), S, (OwnS.nil _), (OwnS.nil _), rfl⟩
   ·refine wp_condF F rfl hc1 ?_
    refine wp_skip ?_
    refine then_n ?_
    refine wp_seq ?_
    refine wp_region_lit ?_
    refine wE (ev_build (parts := []) (vs := []) rfl (fun w => tb61_  w)) F S rfl fun a F=>?_
    refine wE (ev_loadA tu24 rfl (cs := [vbase1]) ts24 rfl (box_ptr (cells := [vbase1]) 5 rfl 0 rfl (lb rfl))) F S rfl fun a F=>?_
    refine wE (ev_fieldAddr' tu24 tf24_0 (z := 0) ts22 rfl ⟨_, rfl⟩ rfl) F S rfl fun a F=>?_
    refine wE (ev_load1 tu22 rfl rfl (box_ptr (cells := [vbase1]) 5 rfl 0 rfl (lb rfl))) F S rfl fun a F=>?_
    refine wE (ev_lenSh hbase1 rfl tu22) F S rfl fun a F=>?_
    obtain ⟨z1, hz1, hm⟩ := bind_some hm
    refine wE (ev_int rfl rfl (bo_sub hz1)) F S rfl fun a F=>?_
    refine wE (ev_loadA tu24 rfl (cs := [vleft1]) ts24 rfl (box_ptr (cells := [vleft1]) 4 rfl 0 rfl (lb rfl))) F S rfl fun a F=>?_
    refine wE (ev_fieldAddr' tu24 tf24_0 (z := 0) ts22 rfl ⟨_, rfl⟩ rfl) F S rfl fun a F=>?_
    refine wE (ev_load1 tu22 rfl rfl (box_ptr (cells := [vleft1]) 4 rfl 0 rfl (lb rfl))) F S rfl fun a F=>?_
    refine wE (ev_lenSh hleft1 rfl tu22) F S rfl fun a F=>?_
    obtain ⟨z2, hz2, hm⟩ := bind_some hm
    refine wE (ev_int rfl rfl (bo_sub hz2)) F S rfl fun a F=>?_
    refine wE (ev_loadA tu24 rfl (cs := [vright1]) ts24 rfl (box_ptr (cells := [vright1]) 3 rfl 0 rfl (lb rfl))) F S rfl fun a F=>?_
    refine wE (ev_fieldAddr' tu24 tf24_0 (z := 0) ts22 rfl ⟨_, rfl⟩ rfl) F S rfl fun a F=>?_
    refine wE (ev_load1 tu22 rfl rfl (box_ptr (cells := [vright1]) 3 rfl 0 rfl (lb rfl))) F S rfl fun a F=>?_
    refine wE (ev_lenSh hright1 rfl tu22) F S rfl fun a F=>?_
    obtain ⟨z3, hz3, hm⟩ := bind_some hm
    refine wE (ev_int rfl rfl (bo_sub hz3)) F S rfl fun a F=>?_
    replace S : St g3 [[], [bx b6 #[.i6 x3, .i6 x4] 26], [bx b5 #[.i6 0, .i6 0] 26], [bx b4 #[nilS] 24], [bx b3 #[vright1] 24], [bx b2 #[vleft1] 24], [bx b1 #[vbase1] 24]] fr w := S
    replace S : St g3 [[], [], [bx b6 #[.i6 x3, .i6 x4] 26], [bx b5 #[.i6 0, .i6 0] 26], [bx b4 #[nilS] 24], [bx b3 #[vright1] 24], [bx b2 #[vleft1] 24], [bx b1 #[vbase1] 24]] fr w := S
    replace S : St g3 [[], [], [bx b6 #[.i6 x3, .i6 x4] 26], [bx b5 #[.i6 0, .i6 0] 26], [bx b4 #[nilS] 24], [bx b3 #[vright1] 24], [bx b2 #[vleft1] 24], [bx b1 #[vbase1] 24]] fr w := ((((((((S.frontC 7 rfl).frontC 7 rfl).frontC 7 rfl).frontC 7 rfl).frontC 7 rfl).frontC 7 rfl).frontC 6 rfl).frontC 8 rfl)
    obtain ⟨y2, hy2, hm⟩ := bind_some hm
    refine wl_call0 (wn rfl) rfl F rfl (changeforgeref2_merged_ok (fr := (fl [[bx b6 #[.i6 x3, .i6 x4] 26], [bx b5 #[.i6 0, .i6 0] 26], [bx b4 #[nilS] 24], [bx b3 #[vright1] 24], [bx b2 #[vleft1] 24], [bx b1 #[vbase1] 24]] fr)) ({ Nodes := [], Conflicts := [] } : SyntaxMerge_changeforgeref2) (nilS) [] (OwnS.nil _) (nilS) [] (OwnS.nil _) base vbase1 (hbase1.mono ((l1.trans l2).trans l3)) z1 left vleft1 (hleft1.mono ((l1.trans l2).trans l3)) z2 right vright1 (hright1.mono ((l1.trans l2).trans l3)) z3 S hy2) rfl tc31 rfl rfl ?_; clear F a S
    rintro _ a w ⟨g4, v1, v2, c1, c2, l4, S, h1, h2, rfl⟩ F; replace S : St g4 [c1, c2, [bx b6 #[.i6 x3, .i6 x4] 26], [bx b5 #[.i6 0, .i6 0] 26], [bx b4 #[nilS] 24], [bx b3 #[vright1] 24], [bx b2 #[vleft1] 24], [bx b1 #[vbase1] 24]] fr w := S
    refine wl_alloc (wn rfl) rfl tz61 (cs := [nilS, nilS]) rfl F S rfl rfl ?_; clear F a S; rintro b7 a w F S
    refine wl_storeC (wn rfl) rfl F S rfl rfl (vs := [v1, v2]) rfl ts61 (one_cons (OwnS.one h1) (one_cons (OwnS.one h2) one_nil)) (k := 0) rfl (lb rfl) (c' := #[v1, v2]) rfl rfl ?_; clear S; intro w S
    refine wpList_nil ?_
    refine then_n ?_
    refine wp_seq ?_
    refine wp_seq ?_
    refine wp_region_lit ?_
    refine wE (ev_fieldAddr' tu61 tf61_0 (z := 0) ts22 rfl ⟨_, rfl⟩ rfl) F S rfl fun a F=>?_
    refine wE (ev_load1 tu22 rfl rfl (box_ptr (cells := [v1]) 0 rfl 0 rfl (lb rfl))) F S rfl fun a F=>?_
    refine wE (ev_lenOw h1 rfl tu22) F S rfl fun a F=>?_
    refine wE (ev_int rfl rfl (bo_gtr _ _ _ _)) F S rfl fun a F=>?_
    refine wpList_nil ?_
    refine then_n ?_
    obtain ⟨hc2, hm⟩ | ⟨hc2, hm⟩ := ite_or hm
    ·refine wp_condT F rfl hc2 ?_
     refine wp_seq ?_
     refine wp_region_lit ?_
     refine wE (ev_build (parts := []) (vs := []) rfl (fun w => tb24_  w)) F S rfl fun a F=>?_
     obtain ⟨y3, hy3, hm⟩ := bind_some hm
     refine wl_call0 (wn rfl) rfl F rfl (changeforgeref1_At_ok (fr := (fl [[bx b7 #[v1, v2] 61], c1, c2, [bx b6 #[.i6 x3, .i6 x4] 26], [bx b5 #[.i6 0, .i6 0] 26], [bx b4 #[nilS] 24], [bx b3 #[vright1] 24], [bx b2 #[vleft1] 24], [bx b1 #[vbase1] 24]] fr)) 10 (-1) S hy3) rfl tc23 rfl rfl ?_; clear F a S
     rintro _ a w ⟨g5, l5, S, rfl⟩ F; replace S : St g5 [[bx b7 #[v1, v2] 61], c1, c2, [bx b6 #[.i6 x3, .i6 x4] 26], [bx b5 #[.i6 0, .i6 0] 26], [bx b4 #[nilS] 24], [bx b3 #[vright1] 24], [bx b2 #[vleft1] 24], [bx b1 #[vbase1] 24]] fr w := S
     refine wl_storeC (wn rfl) rfl F S rfl rfl (vs := [nilS]) rfl ts24 (one_cons rfl one_nil) (k := 5) rfl (lb rfl) (c' := #[nilS]) rfl rfl ?_; clear S; intro w S
     refine wE (ev_assign rfl) F S rfl fun a F=>?_
     refine wl_storeC (wn rfl) rfl F S rfl rfl (vs := [.i6 y3.Code, .i6 y3.Index]) rfl ts26 (one_cons rfl (one_cons rfl one_nil)) (k := 4) rfl (lb rfl) (c' := #[.i6 y3.Code, .i6 y3.Index]) rfl rfl ?_; clear S; intro w S
     refine wpList_nil ?_
     refine then_n ?_
     refine wp_ret ?_
     refine then_r ?_
     obtain rfl := sinj hm
     replace S : St g5 [[], [bx b7 #[v1, v2] 61], c1, c2, [bx b6 #[.i6 x3, .i6 x4] 26], [bx b5 #[.i6 y3.Code, .i6 y3.Index] 26], [bx b4 #[nilS] 24], [bx b3 #[vright1] 24], [bx b2 #[vleft1] 24], [bx b1 #[vbase1] 24]] fr w := S
     replace S : St g5 [[], [], [bx b7 #[v1, v2] 61], c1, c2, [bx b6 #[.i6 x3, .i6 x4] 26], [bx b5 #[.i6 y3.Code, .i6 y3.Index] 26], [bx b4 #[nilS] 24], [bx b3 #[vright1] 24], [bx b2 #[vleft1] 24], [bx b1 #[vbase1] 24]] fr w := S
     refine post_r _ F rfl (ar_cons (resA rfl tu24 rfl (box_ptr (cells := [nilS]) 7 rfl 0 rfl (lb rfl) w S) ts24) (ar_cons (resT rfl) (ar_cons (resA rfl tu26 rfl (box_ptr (cells := [.i6 y3.Code, .i6 y3.Index]) 6 rfl 0 rfl (lb rfl) w S) ts26) ar_nil))) ?_
     replace S : St g5 [[], []] fr w := St.tail [[], []] _ ((S.frontC 0 rfl).frontC 2 rfl)
     exact ⟨_, rfl, g5, (nilS), (nilS), [], [], ((((l1.trans l2).trans l3).trans l4).trans l5), S, (OwnS.nil _), (OwnS.nil _), rfl⟩
    ·refine wp_condF F rfl hc2 ?_
     refine wp_skip ?_
     refine then_n ?_
     refine wp_seq ?_
     refine wp_dv [] mo S ?_; clear S; intro ok2 w S
     refine dv_et ok2 0 rfl (ev_fieldAddr' tu61 tf61_0 (z := 0) ts22 rfl ⟨_, rfl⟩ rfl) F rfl fun a F=>?_
     refine dv_ev ok2 1 rfl (ev_load1 tu22 rfl rfl (box_ptr (cells := [v1]) 0 rfl 0 rfl (lb rfl))) F S rfl fun a F=>?_
     refine dv_et ok2 2 rfl (ev_build (parts := [(0, .tmp 68)]) (vs := [(0, v1)]) rfl (fun w => tb24_0 v1 (OwnS.isSl h1) w)) F rfl fun a F=>?_
     refine dv_et ok2 3 rfl (ev_fieldAddr' tu61 tf61_1 (z := 0) ts38 rfl ⟨_, rfl⟩ rfl) F rfl fun a F=>?_
     refine dv_ev ok2 4 rfl (ev_load1 tu38 rfl rfl (box_ptr (cells := [v2]) 0 rfl 1 rfl (lb rfl))) F S rfl fun a F=>?_
     refine dv_et ok2 5 rfl (ev_build (parts := []) (vs := []) rfl (fun w => tb26_  w)) F rfl fun a F=>?_
     refine dv_op ok2 6 rfl [(4, v2)] ?_
     refine wl_storeC (wn rfl) rfl F S rfl rfl (vs := [v1]) rfl ts24 (one_cons (OwnS.one h1) one_nil) (k := 5) rfl (lb rfl) (c' := #[v1]) rfl rfl ?_; clear S; intro w S
     refine dv_nx ⟨yl_ev rfl rfl (ev_load1 tu38 rfl rfl (box_ptr (cells := [v2]) 0 rfl 1 rfl (lb rfl))) F S, trivial⟩ ?_
     refine dv_et ok2 7 rfl (ev_assign rfl) F rfl fun a F=>?_
     refine dv_op ok2 8 rfl [] ?_
     refine wl_storeC (wn rfl) rfl F S rfl rfl (vs := [.i6 0, .i6 0]) rfl ts26 (one_cons rfl (one_cons rfl one_nil)) (k := 4) rfl (lb rfl) (c' := #[.i6 0, .i6 0]) rfl rfl ?_; clear S; intro w S
     refine dv_nx trivial ?_
     refine dv_fin ok2 ?_
     refine then_n ?_
     refine wp_ret ?_
     obtain rfl := sinj hm
     refine post_r _ F rfl (ar_cons (resA rfl tu24 rfl (box_ptr (cells := [v1]) 5 rfl 0 rfl (lb rfl) w S) ts24) (ar_cons (resT rfl) (ar_cons (resA rfl tu26 rfl (box_ptr (cells := [.i6 0, .i6 0]) 4 rfl 0 rfl (lb rfl) w S) ts26) ar_nil))) ?_
     replace S : St g4 [c1, c2] fr w := St.tail [c1, c2] _ ((S.frontC 2 rfl).frontC 2 rfl)
     exact ⟨_, rfl, g4, v1, v2, c1, c2, (((l1.trans l2).trans l3).trans l4), S, h1, h2, rfl⟩

theorem changeforgelaw2_SyntaxMergeMatchesSpec_ok {g : Gh} {fr : Hl} {w : World} {r : Bool} (base : SyntaxTree) (vbase1 : Value) (hbase1 : RepSl g base.Nodes vbase1) (left : SyntaxTree) (vleft1 : Value) (hleft1 : RepSl g left.Nodes vleft1) (right : SyntaxTree) (vright1 : Value) (hright1 : RepSl g right.Nodes vright1) (S : St g [] fr w) (hm : changeforgelaw2_SyntaxMergeMatchesSpec base left right = some r) :
  Calls Try.prog 6 [.agg #[vbase1], .agg #[vleft1], .agg #[vright1]].toArray w (fun en w' => ∃ v, en = .returned v ∧ ∃ (g' : Gh), Le g g' ∧ St g' [] fr w' ∧ .bool r = v) := by
 unfold changeforgelaw2_SyntaxMergeMatchesSpec at hm
 refine calls_enter (fn := Try.f6) Try.func6 rfl Try.ntmps6 (lb rfl) ?_
 intro a F
 replace F : Fr 45 a [(0, .agg #[vbase1]), (1, .agg #[vleft1]), (2, .agg #[vright1])] := F
 refine wp_seq ?_
 refine wp_region_lit ?_
 refine wl_boxC (wn rfl) rfl rfl rfl F S rfl rfl ?_; clear F a S; rintro b1 a w F S
 refine wl_boxC (wn rfl) rfl rfl rfl F S rfl rfl ?_; clear F a S; rintro b2 a w F S
 refine wl_boxC (wn rfl) rfl rfl rfl F S rfl rfl ?_; clear F a S; rintro b3 a w F S
 refine wE (ev_assign rfl) F S rfl fun a F=>?_
 refine wpList_nil ?_
 refine then_n ?_
 refine wp_seq ?_
 refine wp_region_lit ?_
 refine wE (ev_loadA tu24 rfl (cs := [vbase1]) ts24 rfl (box_ptr (cells := [vbase1]) 2 rfl 0 rfl (lb rfl))) F S rfl fun a F=>?_
 refine wE (ev_loadA tu24 rfl (cs := [vleft1]) ts24 rfl (box_ptr (cells := [vleft1]) 1 rfl 0 rfl (lb rfl))) F S rfl fun a F=>?_
 refine wE (ev_loadA tu24 rfl (cs := [vright1]) ts24 rfl (box_ptr (cells := [vright1]) 0 rfl 0 rfl (lb rfl))) F S rfl fun a F=>?_
 obtain ⟨y1, hy1, hm⟩ := bind_some hm
 refine wl_call0 (wn rfl) rfl F rfl (syntax_Merge_ok (fr := (fl [[bx b3 #[vright1] 24], [bx b2 #[vleft1] 24], [bx b1 #[vbase1] 24]] fr)) base vbase1 hbase1 left vleft1 hleft1 right vright1 hright1 S hy1) rfl tc18 rfl rfl ?_; clear F a S
 rintro _ a w ⟨g1, v1, v2, c1, c2, l1, S, h1, h2, rfl⟩ F; replace S : St g1 [c1, c2, [bx b3 #[vright1] 24], [bx b2 #[vleft1] 24], [bx b1 #[vbase1] 24]] fr w := S
 refine wE (ev_move rfl) F S rfl fun a F=>?_
 refine wE (ev_extract rfl rfl) F S rfl fun a F=>?_
 refine wE (ev_extract rfl rfl) F S rfl fun a F=>?_
 refine wE (ev_extract rfl rfl) F S rfl fun a F=>?_
 refine wl_alloc (wn rfl) rfl tz24 (cs := [nilS]) rfl F S rfl rfl ?_; clear F a S; rintro b4 a w F S
 refine wl_alloc (wn rfl) rfl tz26 (cs := [.i6 0, .i6 0]) rfl F S rfl rfl ?_; clear F a S; rintro b5 a w F S
 refine wl_storeC (wn rfl) rfl F S rfl rfl (vs := [v1]) rfl ts24 (one_cons (OwnS.one h1) one_nil) (k := 1) rfl (lb rfl) (c' := #[v1]) rfl rfl ?_; clear S; intro w S
 refine wE (ev_assign rfl) F S rfl fun a F=>?_
 refine wl_storeC (wn rfl) rfl F S rfl rfl (vs := [.i6 y1.2.2.Code, .i6 y1.2.2.Index]) rfl ts26 (one_cons rfl (one_cons rfl one_nil)) (k := 0) rfl (lb rfl) (c' := #[.i6 y1.2.2.Code, .i6 y1.2.2.Index]) rfl rfl ?_; clear S; intro w S
 refine wpList_nil ?_
 refine then_n ?_
 refine wp_seq ?_
 refine wp_region_lit ?_
 refine wE (ev_loadA tu24 rfl (cs := [vbase1]) ts24 rfl (box_ptr (cells := [vbase1]) 6 rfl 0 rfl (lb rfl))) F S rfl fun a F=>?_
 refine wE (ev_loadA tu24 rfl (cs := [vleft1]) ts24 rfl (box_ptr (cells := [vleft1]) 5 rfl 0 rfl (lb rfl))) F S rfl fun a F=>?_
 refine wE (ev_loadA tu24 rfl (cs := [vright1]) ts24 rfl (box_ptr (cells := [vright1]) 4 rfl 0 rfl (lb rfl))) F S rfl fun a F=>?_
 obtain ⟨y2, hy2, hm⟩ := bind_some hm
 refine wl_call0 (wn rfl) rfl F rfl (changeforgeref2_MergeSyntax_ok (fr := (fl [[bx b5 #[.i6 y1.2.2.Code, .i6 y1.2.2.Index] 26], [bx b4 #[v1] 24], c1, c2, [bx b3 #[vright1] 24], [bx b2 #[vleft1] 24], [bx b1 #[vbase1] 24]] fr)) base vbase1 (hbase1.mono l1) left vleft1 (hleft1.mono l1) right vright1 (hright1.mono l1) S hy2) rfl tc19 rfl rfl ?_; clear F a S
 rintro _ a w ⟨g2, v3, v4, c3, c4, l2, S, h3, h4, rfl⟩ F; replace S : St g2 [c3, c4, [bx b5 #[.i6 y1.2.2.Code, .i6 y1.2.2.Index] 26], [bx b4 #[v1] 24], c1, c2, [bx b3 #[vright1] 24], [bx b2 #[vleft1] 24], [bx b1 #[vbase1] 24]] fr w := S
 refine wE (ev_move rfl) F S rfl fun a F=>?_
 refine wE (ev_extract rfl rfl) F S rfl fun a F=>?_
 refine wE (ev_extract rfl rfl) F S rfl fun a F=>?_
 refine wE (ev_extract rfl rfl) F S rfl fun a F=>?_
 refine wl_alloc (wn rfl) rfl tz24 (cs := [nilS]) rfl F S rfl rfl ?_; clear F a S; rintro b6 a w F S
 refine wl_alloc (wn rfl) rfl tz26 (cs := [.i6 0, .i6 0]) rfl F S rfl rfl ?_; clear F a S; rintro b7 a w F S
 refine wl_storeC (wn rfl) rfl F S rfl rfl (vs := [v3]) rfl ts24 (one_cons (OwnS.one h3) one_nil) (k := 1) rfl (lb rfl) (c' := #[v3]) rfl rfl ?_; clear S; intro w S
 refine wE (ev_assign rfl) F S rfl fun a F=>?_
 refine wl_storeC (wn rfl) rfl F S rfl rfl (vs := [.i6 y2.2.2.Code, .i6 y2.2.2.Index]) rfl ts26 (one_cons rfl (one_cons rfl one_nil)) (k := 0) rfl (lb rfl) (c' := #[.i6 y2.2.2.Code, .i6 y2.2.2.Index]) rfl rfl ?_; clear S; intro w S
 refine wpList_nil ?_
 refine then_n ?_
 refine wp_seq ?_
 refine wp_region_lit ?_
 refine wE (ev_loadA tu24 rfl (cs := [v1]) ts24 rfl (box_ptr (cells := [v1]) 5 rfl 0 rfl (lb rfl))) F S rfl fun a F=>?_
 refine wE (ev_loadA tu24 rfl (cs := [v3]) ts24 rfl (box_ptr (cells := [v3]) 1 rfl 0 rfl (lb rfl))) F S rfl fun a F=>?_
 obtain ⟨g3, l3, S, h5⟩ : ∃ gz, Le g2 gz ∧ St gz [[bx b7 #[.i6 y2.2.2.Code, .i6 y2.2.2.Index] 26], [bx b6 #[v3] 24], c3, c4, [bx b5 #[.i6 y1.2.2.Code, .i6 y1.2.2.Index] 26], [bx b4 #[v1] 24], c2, [bx b3 #[vright1] 24], [bx b2 #[vleft1] 24], [bx b1 #[vbase1] 24]] fr w ∧ RepSl gz y1.1.Nodes v1 := ⟨_, Le.add _ _, S.freeze 6 rfl, OwnS.freeze (S.front 6 rfl) (h1.mono l2)⟩
 obtain ⟨g4, l4, S, h6⟩ : ∃ gz, Le g3 gz ∧ St gz [[bx b7 #[.i6 y2.2.2.Code, .i6 y2.2.2.Index] 26], [bx b6 #[v3] 24], c4, [bx b5 #[.i6 y1.2.2.Code, .i6 y1.2.2.Index] 26], [bx b4 #[v1] 24], c2, [bx b3 #[vright1] 24], [bx b2 #[vleft1] 24], [bx b1 #[vbase1] 24]] fr w ∧ RepSl gz y2.1.Nodes v3 := ⟨_, Le.add _ _, S.freeze 2 rfl, OwnS.freeze (S.front 2 rfl) (h3.mono l3)⟩
 obtain ⟨y3, hy3, hm⟩ := bind_some hm
 refine wl_call0 (wn rfl) rfl F rfl (changeforgeequal_Syntax_ok (fr := (fl [[bx b7 #[.i6 y2.2.2.Code, .i6 y2.2.2.Index] 26], [bx b6 #[v3] 24], c4, [bx b5 #[.i6 y1.2.2.Code, .i6 y1.2.2.Index] 26], [bx b4 #[v1] 24], c2, [bx b3 #[vright1] 24], [bx b2 #[vleft1] 24], [bx b1 #[vbase1] 24]] fr)) y1.1 v1 (h5.mono l4) y2.1 v3 h6 S hy3) rfl tc15 rfl rfl ?_; clear F a S
 rintro _ a w ⟨g5, l5, S, rfl⟩ F; replace S : St g5 [[bx b7 #[.i6 y2.2.2.Code, .i6 y2.2.2.Index] 26], [bx b6 #[v3] 24], c4, [bx b5 #[.i6 y1.2.2.Code, .i6 y1.2.2.Index] 26], [bx b4 #[v1] 24], c2, [bx b3 #[vright1] 24], [bx b2 #[vleft1] 24], [bx b1 #[vbase1] 24]] fr w := S
 refine wE (ev_move rfl) F S rfl fun a F=>?_
 obtain ⟨g6, l6, S, h7⟩ : ∃ gz, Le g5 gz ∧ St gz [[bx b7 #[.i6 y2.2.2.Code, .i6 y2.2.2.Index] 26], [bx b6 #[v3] 24], [bx b5 #[.i6 y1.2.2.Code, .i6 y1.2.2.Index] 26], [bx b4 #[v1] 24], c2, [bx b3 #[vright1] 24], [bx b2 #[vleft1] 24], [bx b1 #[vbase1] 24]] fr w ∧ RepSl gz y2.2.1 v4 := ⟨_, Le.add _ _, S.freeze 2 rfl, OwnS.freeze (S.front 2 rfl) (h4.mono ((l3.trans l4).trans l5))⟩
 obtain ⟨g7, l7, S, h8⟩ : ∃ gz, Le g6 gz ∧ St gz [[bx b7 #[.i6 y2.2.2.Code, .i6 y2.2.2.Index] 26], [bx b6 #[v3] 24], [bx b5 #[.i6 y1.2.2.Code, .i6 y1.2.2.Index] 26], [bx b4 #[v1] 24], [bx b3 #[vright1] 24], [bx b2 #[vleft1] 24], [bx b1 #[vbase1] 24]] fr w ∧ RepSl gz y1.2.1 v2 := ⟨_, Le.add _ _, S.freeze 4 rfl, OwnS.freeze (S.front 4 rfl) (h2.mono ((((l2.trans l3).trans l4).trans l5).trans l6))⟩
 obtain ⟨x1, hx1, hm⟩ := bind_some hm
 refine wl_cut 4 (fun a w => ∃ g8, Fr 45 a [(36, .bool x1), (12, bp b7 0), (9, bp b5 0), (6, .bool false)] ∧ Le g7 g8 ∧ St g8 [[bx b7 #[.i6 y2.2.2.Code, .i6 y2.2.2.Index] 26], [bx b6 #[v3] 24], [bx b5 #[.i6 y1.2.2.Code, .i6 y1.2.2.Index] 26], [bx b4 #[v1] 24], [bx b3 #[vright1] 24], [bx b2 #[vleft1] 24], [bx b1 #[vbase1] 24]] fr w) ?_ ?_
 ·clear hm; obtain ⟨hc1, hm⟩ | ⟨hc1, hm⟩ := ite_or hx1
  ·refine wl_ev (wg F rfl rfl rfl rfl hc1) (ev_move rfl) F S rfl rfl ?_; clear F a; intro a F
   refine wl_ev (wg F rfl rfl rfl rfl hc1) (ev_move rfl) F S rfl rfl ?_; clear F a; intro a F
   obtain ⟨y4, hy4, hm⟩ := bind_some hm
   refine wl_call0 (wg F rfl rfl rfl rfl hc1) rfl F rfl (changeforgeequal_Ints_ok (fr := (fl [[bx b7 #[.i6 y2.2.2.Code, .i6 y2.2.2.Index] 26], [bx b6 #[v3] 24], [bx b5 #[.i6 y1.2.2.Code, .i6 y1.2.2.Index] 26], [bx b4 #[v1] 24], [bx b3 #[vright1] 24], [bx b2 #[vleft1] 24], [bx b1 #[vbase1] 24]] fr)) y1.2.1 v2 h8 y2.2.1 v4 (h7.mono l7) S hy4) rfl tc20 rfl rfl ?_; clear F a S
   rintro _ a w ⟨g9, l9, S, rfl⟩ F; replace S : St g9 [[bx b7 #[.i6 y2.2.2.Code, .i6 y2.2.2.Index] 26], [bx b6 #[v3] 24], [bx b5 #[.i6 y1.2.2.Code, .i6 y1.2.2.Index] 26], [bx b4 #[v1] 24], [bx b3 #[vright1] 24], [bx b2 #[vleft1] 24], [bx b1 #[vbase1] 24]] fr w := S
   refine wE (ev_pickT rfl hc1 rfl) F S rfl fun a F=>?_
   obtain rfl := sinj hm
   refine wpList_nil (then_n ?_); exact ⟨g9, F.sub ⟨rfl, rfl, rfl, rfl, trivial⟩, l9, S⟩
  ·refine wl_skip rfl rfl rfl rfl (ne_tf hc1) F rfl rfl ?_; clear F a; intro a F
   refine wl_skip rfl rfl rfl rfl (ne_tf hc1) F rfl rfl ?_; clear F a; intro a F
   refine wl_skip rfl rfl rfl rfl (ne_tf hc1) F rfl rfl ?_; clear F a; intro a F
   refine wE (ev_pickF rfl hc1 rfl) F S rfl fun a F=>?_
   obtain rfl := sinj hm
   refine wpList_nil (then_n ?_); exact ⟨g7, F.sub ⟨rfl, rfl, rfl, rfl, trivial⟩, (Le.refl _), S⟩
 clear F S; rintro a w ⟨g8, F, l8, S⟩
 refine wE (ev_move rfl) F S rfl fun a F=>?_
 obtain ⟨x2, hx2, hm⟩ := bind_some hm
 refine wl_cut 4 (fun a w' => w = w' ∧ Fr 45 a [(41, .bool x2), (6, .bool false)]) ?_ ?_
 ·clear hm; obtain ⟨hc2, hm⟩ | ⟨hc2, hm⟩ := ite_or hx2
  ·refine wl_ev (wg F rfl rfl rfl rfl hc2) (ev_loadA tu26 rfl (cs := [.i6 y1.2.2.Code, .i6 y1.2.2.Index]) ts26 rfl (box_ptr (cells := [.i6 y1.2.2.Code, .i6 y1.2.2.Index]) 2 rfl 0 rfl (lb rfl))) F S rfl rfl ?_; clear F a; intro a F
   refine wl_ev (wg F rfl rfl rfl rfl hc2) (ev_loadA tu26 rfl (cs := [.i6 y2.2.2.Code, .i6 y2.2.2.Index]) ts26 rfl (box_ptr (cells := [.i6 y2.2.2.Code, .i6 y2.2.2.Index]) 0 rfl 0 rfl (lb rfl))) F S rfl rfl ?_; clear F a; intro a F
   refine wl_ev (wg F rfl rfl rfl rfl hc2) (ev_eqS tu26 tqa26 tqb26 tqc26 (xs := [.i6 y1.2.2.Code, .i6 y1.2.2.Index]) (ys := [.i6 y2.2.2.Code, .i6 y2.2.2.Index]) rfl rfl ⟨_, _, rfl, by decide, ⟨_, _, rfl, rfl, leaf_int tu3⟩, ⟨_, _, rfl, by decide, ⟨_, _, rfl, rfl, leaf_int tu3⟩, rfl⟩⟩) F S rfl rfl ?_; clear F a; intro a F
   refine wE (ev_pickT rfl hc2 rfl) F S rfl fun a F=>?_
   obtain rfl := sinj hm
   refine wpList_nil (then_n ?_); exact ⟨rfl, F.sub ⟨rfl, rfl, trivial⟩⟩
  ·refine wl_skip rfl rfl rfl rfl (ne_tf hc2) F rfl rfl ?_; clear F a; intro a F
   refine wl_skip rfl rfl rfl rfl (ne_tf hc2) F rfl rfl ?_; clear F a; intro a F
   refine wl_skip rfl rfl rfl rfl (ne_tf hc2) F rfl rfl ?_; clear F a; intro a F
   refine wE (ev_pickF rfl hc2 rfl) F S rfl fun a F=>?_
   obtain rfl := sinj hm
   refine wpList_nil (then_n ?_); exact ⟨rfl, F.sub ⟨rfl, rfl, trivial⟩⟩
 clear F; rintro a w' ⟨rfl, F⟩
 refine wE (ev_move rfl) F S rfl fun a F=>?_
 obtain ⟨x3, hx3, hm⟩ := bind_some hm
 refine wl_cut 2 (fun a w => ∃ g10, Fr 45 a [(44, .bool x3), (6, .bool false)] ∧ Le g8 g10 ∧ St g10 [[bx b7 #[.i6 y2.2.2.Code, .i6 y2.2.2.Index] 26], [bx b6 #[v3] 24], [bx b5 #[.i6 y1.2.2.Code, .i6 y1.2.2.Index] 26], [bx b4 #[v1] 24], [bx b3 #[vright1] 24], [bx b2 #[vleft1] 24], [bx b1 #[vbase1] 24]] fr w) ?_ ?_
 ·clear hm; obtain ⟨hc3, hm⟩ | ⟨hc3, hm⟩ := ite_or hx3
  ·obtain ⟨y5, hy5, hm⟩ := bind_some hm
   refine wl_call0 (wg F rfl rfl rfl rfl hc3) rfl F rfl (changeforgelaw2_parsed_ok (fr := (fl [[bx b7 #[.i6 y2.2.2.Code, .i6 y2.2.2.Index] 26], [bx b6 #[v3] 24], [bx b5 #[.i6 y1.2.2.Code, .i6 y1.2.2.Index] 26], [bx b4 #[v1] 24], [bx b3 #[vright1] 24], [bx b2 #[vleft1] 24], [bx b1 #[vbase1] 24]] fr))  S hy5) rfl tc16 rfl rfl ?_; clear F a S
   rintro _ a w ⟨g11, l11, S, rfl⟩ F; replace S : St g11 [[bx b7 #[.i6 y2.2.2.Code, .i6 y2.2.2.Index] 26], [bx b6 #[v3] 24], [bx b5 #[.i6 y1.2.2.Code, .i6 y1.2.2.Index] 26], [bx b4 #[v1] 24], [bx b3 #[vright1] 24], [bx b2 #[vleft1] 24], [bx b1 #[vbase1] 24]] fr w := S
   refine wE (ev_pickT rfl hc3 rfl) F S rfl fun a F=>?_
   obtain rfl := sinj hm
   refine wpList_nil (then_n ?_); exact ⟨g11, F.sub ⟨rfl, rfl, trivial⟩, l11, S⟩
  ·refine wl_skip rfl rfl rfl rfl (ne_tf hc3) F rfl rfl ?_; clear F a; intro a F
   refine wE (ev_pickF rfl hc3 rfl) F S rfl fun a F=>?_
   obtain rfl := sinj hm
   refine wpList_nil (then_n ?_); exact ⟨g8, F.sub ⟨rfl, rfl, trivial⟩, (Le.refl _), S⟩
 clear F S; rintro a w ⟨g10, F, l10, S⟩
 refine wE (ev_assign rfl) F S rfl fun a F=>?_
 refine wpList_nil ?_
 refine then_n ?_
 refine wp_ret ?_
 obtain rfl := sinj hm
 refine post_r _ F rfl (ar_cons (resT rfl) ar_nil) ?_
 replace S : St g10 [] fr w := St.tail [] _ S
 exact ⟨_, rfl, g10, ((((((((l1.trans l2).trans l3).trans l4).trans l5).trans l6).trans l7).trans l8).trans l10), S, rfl⟩
end Go.Dc
