/- Walks: each function comes to what its model says. -/
import Derived.Test.YtjmigclbilnajaaDoorDcTab
import Derived.Test.YtjmigclbilnajaaDoorDcM
import Derived.Test.YtjmigclbilnajaaDoorDcW3
import Derived.Test.YtjmigclbilnajaaDoorDcW7
import Derived.Test.YtjmigclbilnajaaDoorDcW8
import Derived.Test.YtjmigclbilnajaaDoorDcW9
namespace Go.Dc
open Go Go.Proofs
set_option maxRecDepth 100000
set_option maxHeartbeats 4000000
set_option linter.unusedVariables false
theorem changeforgeref2_CommuteChanges_ok {g : Gh} {fr : Hl} {w : World} {r : TreeChange × TreeChange × Bool × Fault} (a_ : TreeChange) (va_1 : Value) (ha_1 : RepSl g a_.Lines va_1) (va_2 : Value) (ha_2 : RepSl g a_.Patch.Hunks va_2) (b_ : TreeChange) (vb_1 : Value) (hb_1 : RepSl g b_.Lines vb_1) (vb_2 : Value) (hb_2 : RepSl g b_.Patch.Hunks vb_2) (S : St g [] fr w) (hm : changeforgeref2_CommuteChanges a_ b_ = some r) :
  Calls Tryd.prog 13 [.agg #[.i6 a_.Kind, .string a_.Path, .string a_.To, va_1, va_2], .agg #[.i6 b_.Kind, .string b_.Path, .string b_.To, vb_1, vb_2]].toArray w (fun en w' => ∃ v, en = .returned v ∧ ∃ (g' : Gh) (v1 v2 v3 v4 : Value), Le g g' ∧ St g' [] fr w' ∧ RepSl g' r.1.Lines v1 ∧ RepSl g' r.1.Patch.Hunks v2 ∧ RepSl g' r.2.1.Lines v3 ∧ RepSl g' r.2.1.Patch.Hunks v4 ∧ .tuple #[.agg #[.i6 r.1.Kind, .string r.1.Path, .string r.1.To, v1, v2], .agg #[.i6 r.2.1.Kind, .string r.2.1.Path, .string r.2.1.To, v3, v4], .bool r.2.2.1, .agg #[.i6 r.2.2.2.Code, .i6 r.2.2.2.Index]] = v) := by
 unfold changeforgeref2_CommuteChanges at hm
 refine calls_enter (fn := Tryd.f13) Tryd.func13 rfl Tryd.ntmps13 (lb rfl) ?_
 intro a F
 replace F : Fr 146 a [(0, .agg #[.i6 a_.Kind, .string a_.Path, .string a_.To, va_1, va_2]), (1, .agg #[.i6 b_.Kind, .string b_.Path, .string b_.To, vb_1, vb_2])] := F
 refine wp_seq ?_
 refine wp_region_lit ?_
 refine wl_boxC (wn rfl) rfl rfl rfl F S rfl rfl ?_; clear F a S; rintro b1 a w F S
 refine wl_boxC (wn rfl) rfl rfl rfl F S rfl rfl ?_; clear F a S; rintro b2 a w F S
 refine wl_alloc (wn rfl) rfl tz27 (cs := [.i6 0, .string ByteArray.empty, .string ByteArray.empty, nilS, nilS]) rfl F S rfl rfl ?_; clear F a S; rintro b3 a w F S
 refine wl_alloc (wn rfl) rfl tz27 (cs := [.i6 0, .string ByteArray.empty, .string ByteArray.empty, nilS, nilS]) rfl F S rfl rfl ?_; clear F a S; rintro b4 a w F S
 refine wE (ev_assign rfl) F S rfl fun a F=>?_
 refine wl_alloc (wn rfl) rfl tz29 (cs := [.i6 0, .i6 0]) rfl F S rfl rfl ?_; clear F a S; rintro b5 a w F S
 refine wpList_nil ?_
 refine then_n ?_
 refine wp_seq ?_
 refine wp_region_lit ?_
 refine wE (ev_build (parts := []) (vs := []) rfl (fun w => tb27_  w)) F S rfl fun a F=>?_
 refine wl_alloc (wn rfl) rfl tz27 (cs := [.i6 0, .string ByteArray.empty, .string ByteArray.empty, nilS, nilS]) rfl F S rfl rfl ?_; clear F a S; rintro b6 a w F S
 refine wl_storeC (wn rfl) rfl F S rfl rfl (vs := [.i6 0, .string ByteArray.empty, .string ByteArray.empty, nilS, nilS]) rfl ts27 (one_cons rfl (one_cons rfl (one_cons rfl (one_cons rfl (one_cons rfl one_nil))))) (k := 0) rfl (lb rfl) (c' := #[.i6 0, .string ByteArray.empty, .string ByteArray.empty, nilS, nilS]) rfl rfl ?_; clear S; intro w S
 refine wpList_nil ?_
 refine then_n ?_
 refine wp_seq ?_
 refine wp_seq ?_
 refine wp_region_lit ?_
 refine wE (ev_loadA tu27 rfl (cs := [.i6 a_.Kind, .string a_.Path, .string a_.To, va_1, va_2]) ts27 rfl (box_ptr (cells := [.i6 a_.Kind, .string a_.Path, .string a_.To, va_1, va_2]) 5 rfl 0 rfl (lb rfl))) F S rfl fun a F=>?_
 obtain ⟨y1, hy1, hm⟩ := bind_some hm
 refine wl_call0 (wn rfl) rfl F rfl (changeforgeref2_ChangeCode_ok (fr := (fl [[bx b6 #[.i6 0, .string ByteArray.empty, .string ByteArray.empty, nilS, nilS] 27], [bx b5 #[.i6 0, .i6 0] 29], [bx b4 #[.i6 0, .string ByteArray.empty, .string ByteArray.empty, nilS, nilS] 27], [bx b3 #[.i6 0, .string ByteArray.empty, .string ByteArray.empty, nilS, nilS] 27], [bx b2 #[.i6 b_.Kind, .string b_.Path, .string b_.To, vb_1, vb_2] 27], [bx b1 #[.i6 a_.Kind, .string a_.Path, .string a_.To, va_1, va_2] 27]] fr)) a_ va_1 ha_1 va_2 ha_2 S hy1) rfl tc35 rfl rfl ?_; clear F a S
 rintro _ a w ⟨g1, l1, S, rfl⟩ F; replace S : St g1 [[bx b6 #[.i6 0, .string ByteArray.empty, .string ByteArray.empty, nilS, nilS] 27], [bx b5 #[.i6 0, .i6 0] 29], [bx b4 #[.i6 0, .string ByteArray.empty, .string ByteArray.empty, nilS, nilS] 27], [bx b3 #[.i6 0, .string ByteArray.empty, .string ByteArray.empty, nilS, nilS] 27], [bx b2 #[.i6 b_.Kind, .string b_.Path, .string b_.To, vb_1, vb_2] 27], [bx b1 #[.i6 a_.Kind, .string a_.Path, .string a_.To, va_1, va_2] 27]] fr w := S
 refine wE (ev_assign rfl) F S rfl fun a F=>?_
 refine wpList_nil ?_
 refine then_n ?_
 refine wp_seq ?_
 refine wp_region_lit ?_
 refine wE (ev_move rfl) F S rfl fun a F=>?_
 refine wE (ev_int rfl rfl (bo_neq _ _ _ _)) F S rfl fun a F=>?_
 refine wpList_nil ?_
 refine then_n ?_
 obtain ⟨hc1, hm⟩ | ⟨hc1, hm⟩ := ite_or hm
 ·refine wp_condT F rfl hc1 ?_
  refine wp_seq ?_
  refine wp_dv [] mo S ?_; clear S; intro ok1 w S
  refine dv_ev ok1 0 rfl (ev_loadA tu27 rfl (cs := [.i6 0, .string ByteArray.empty, .string ByteArray.empty, nilS, nilS]) ts27 rfl (box_ptr (cells := [.i6 0, .string ByteArray.empty, .string ByteArray.empty, nilS, nilS]) 0 rfl 0 rfl (lb rfl))) F S rfl fun a F=>?_
  refine dv_ev ok1 1 rfl (ev_loadA tu27 rfl (cs := [.i6 0, .string ByteArray.empty, .string ByteArray.empty, nilS, nilS]) ts27 rfl (box_ptr (cells := [.i6 0, .string ByteArray.empty, .string ByteArray.empty, nilS, nilS]) 0 rfl 0 rfl (lb rfl))) F S rfl fun a F=>?_
  refine dv_et ok1 2 rfl (ev_move rfl) F rfl fun a F=>?_
  refine dv_op ok1 3 rfl [(1, .agg #[.i6 0, .string ByteArray.empty, .string ByteArray.empty, nilS, nilS]), (0, .agg #[.i6 0, .string ByteArray.empty, .string ByteArray.empty, nilS, nilS])] ?_
  obtain ⟨y2, hy2, hm⟩ := bind_some hm
  refine wl_call0 (wn rfl) rfl F rfl (changeforgeref1_At_ok (fr := (fl [[bx b6 #[.i6 0, .string ByteArray.empty, .string ByteArray.empty, nilS, nilS] 27], [bx b5 #[.i6 0, .i6 0] 29], [bx b4 #[.i6 0, .string ByteArray.empty, .string ByteArray.empty, nilS, nilS] 27], [bx b3 #[.i6 0, .string ByteArray.empty, .string ByteArray.empty, nilS, nilS] 27], [bx b2 #[.i6 b_.Kind, .string b_.Path, .string b_.To, vb_1, vb_2] 27], [bx b1 #[.i6 a_.Kind, .string a_.Path, .string a_.To, va_1, va_2] 27]] fr)) y1 0 S hy2) rfl tc36 rfl rfl ?_; clear F a S
  rintro _ a w ⟨g2, l2, S, rfl⟩ F; replace S : St g2 [[bx b6 #[.i6 0, .string ByteArray.empty, .string ByteArray.empty, nilS, nilS] 27], [bx b5 #[.i6 0, .i6 0] 29], [bx b4 #[.i6 0, .string ByteArray.empty, .string ByteArray.empty, nilS, nilS] 27], [bx b3 #[.i6 0, .string ByteArray.empty, .string ByteArray.empty, nilS, nilS] 27], [bx b2 #[.i6 b_.Kind, .string b_.Path, .string b_.To, vb_1, vb_2] 27], [bx b1 #[.i6 a_.Kind, .string a_.Path, .string a_.To, va_1, va_2] 27]] fr w := S
  refine dv_nx ⟨yl_ev rfl rfl (ev_loadA tu27 rfl (cs := [.i6 0, .string ByteArray.empty, .string ByteArray.empty, nilS, nilS]) ts27 rfl (box_ptr (cells := [.i6 0, .string ByteArray.empty, .string ByteArray.empty, nilS, nilS]) 0 rfl 0 rfl (lb rfl))) F S, yl_ev rfl rfl (ev_loadA tu27 rfl (cs := [.i6 0, .string ByteArray.empty, .string ByteArray.empty, nilS, nilS]) ts27 rfl (box_ptr (cells := [.i6 0, .string ByteArray.empty, .string ByteArray.empty, nilS, nilS]) 0 rfl 0 rfl (lb rfl))) F S, trivial⟩ ?_
  refine dv_op ok1 4 rfl [(1, .agg #[.i6 0, .string ByteArray.empty, .string ByteArray.empty, nilS, nilS])] ?_
  refine wl_storeC (wn rfl) rfl F S rfl rfl (vs := [.i6 0, .string ByteArray.empty, .string ByteArray.empty, nilS, nilS]) rfl ts27 (one_cons rfl (one_cons rfl (one_cons rfl (one_cons rfl (one_cons rfl one_nil))))) (k := 3) rfl (lb rfl) (c' := #[.i6 0, .string ByteArray.empty, .string ByteArray.empty, nilS, nilS]) rfl rfl ?_; clear S; intro w S
  refine dv_nx ⟨yl_ev rfl rfl (ev_loadA tu27 rfl (cs := [.i6 0, .string ByteArray.empty, .string ByteArray.empty, nilS, nilS]) ts27 rfl (box_ptr (cells := [.i6 0, .string ByteArray.empty, .string ByteArray.empty, nilS, nilS]) 0 rfl 0 rfl (lb rfl))) F S, trivial⟩ ?_
  refine dv_op ok1 5 rfl [] ?_
  refine wl_storeC (wn rfl) rfl F S rfl rfl (vs := [.i6 0, .string ByteArray.empty, .string ByteArray.empty, nilS, nilS]) rfl ts27 (one_cons rfl (one_cons rfl (one_cons rfl (one_cons rfl (one_cons rfl one_nil))))) (k := 2) rfl (lb rfl) (c' := #[.i6 0, .string ByteArray.empty, .string ByteArray.empty, nilS, nilS]) rfl rfl ?_; clear S; intro w S
  refine dv_nx trivial ?_
  refine dv_et ok1 6 rfl (ev_assign rfl) F rfl fun a F=>?_
  refine dv_op ok1 7 rfl [] ?_
  refine wl_storeC (wn rfl) rfl F S rfl rfl (vs := [.i6 y2.Code, .i6 y2.Index]) rfl ts29 (one_cons rfl (one_cons rfl one_nil)) (k := 1) rfl (lb rfl) (c' := #[.i6 y2.Code, .i6 y2.Index]) rfl rfl ?_; clear S; intro w S
  refine dv_nx trivial ?_
  refine dv_fin ok1 ?_
  refine then_n ?_
  refine wp_ret ?_
  refine then_r ?_
  obtain rfl := sinj hm
  refine post_r _ F rfl (ar_cons (resA rfl tu27 rfl (box_ptr (cells := [.i6 0, .string ByteArray.empty, .string ByteArray.empty, nilS, nilS]) 3 rfl 0 rfl (lb rfl) w S) ts27) (ar_cons (resA rfl tu27 rfl (box_ptr (cells := [.i6 0, .string ByteArray.empty, .string ByteArray.empty, nilS, nilS]) 2 rfl 0 rfl (lb rfl) w S) ts27) (ar_cons (resT rfl) (ar_cons (resA rfl tu29 rfl (box_ptr (cells := [.i6 y2.Code, .i6 y2.Index]) 1 rfl 0 rfl (lb rfl) w S) ts29) ar_nil)))) ?_
  replace S : St g2 [] fr w := St.tail [] _ S
  exact ⟨_, rfl, g2, (nilS), (nilS), (nilS), (nilS), (l1.trans l2), S, (RepSl.nil _), (RepSl.nil _), (RepSl.nil _), (RepSl.nil _), rfl⟩
 ·refine wp_condF F rfl hc1 ?_
  refine wp_skip ?_
  refine then_n ?_
  refine wp_seq ?_
  refine wp_seq ?_
  refine wp_region_lit ?_
  refine wE (ev_loadA tu27 rfl (cs := [.i6 b_.Kind, .string b_.Path, .string b_.To, vb_1, vb_2]) ts27 rfl (box_ptr (cells := [.i6 b_.Kind, .string b_.Path, .string b_.To, vb_1, vb_2]) 4 rfl 0 rfl (lb rfl))) F S rfl fun a F=>?_
  obtain ⟨y3, hy3, hm⟩ := bind_some hm
  refine wl_call0 (wn rfl) rfl F rfl (changeforgeref2_ChangeCode_ok (fr := (fl [[bx b6 #[.i6 0, .string ByteArray.empty, .string ByteArray.empty, nilS, nilS] 27], [bx b5 #[.i6 0, .i6 0] 29], [bx b4 #[.i6 0, .string ByteArray.empty, .string ByteArray.empty, nilS, nilS] 27], [bx b3 #[.i6 0, .string ByteArray.empty, .string ByteArray.empty, nilS, nilS] 27], [bx b2 #[.i6 b_.Kind, .string b_.Path, .string b_.To, vb_1, vb_2] 27], [bx b1 #[.i6 a_.Kind, .string a_.Path, .string a_.To, va_1, va_2] 27]] fr)) b_ vb_1 (hb_1.mono l1) vb_2 (hb_2.mono l1) S hy3) rfl tc35 rfl rfl ?_; clear F a S
  rintro _ a w ⟨g3, l3, S, rfl⟩ F; replace S : St g3 [[bx b6 #[.i6 0, .string ByteArray.empty, .string ByteArray.empty, nilS, nilS] 27], [bx b5 #[.i6 0, .i6 0] 29], [bx b4 #[.i6 0, .string ByteArray.empty, .string ByteArray.empty, nilS, nilS] 27], [bx b3 #[.i6 0, .string ByteArray.empty, .string ByteArray.empty, nilS, nilS] 27], [bx b2 #[.i6 b_.Kind, .string b_.Path, .string b_.To, vb_1, vb_2] 27], [bx b1 #[.i6 a_.Kind, .string a_.Path, .string a_.To, va_1, va_2] 27]] fr w := S
  refine wE (ev_assign rfl) F S rfl fun a F=>?_
  refine wpList_nil ?_
  refine then_n ?_
  refine wp_seq ?_
  refine wp_region_lit ?_
  refine wE (ev_move rfl) F S rfl fun a F=>?_
  refine wE (ev_int rfl rfl (bo_neq _ _ _ _)) F S rfl fun a F=>?_
  refine wpList_nil ?_
  refine then_n ?_
  obtain ⟨hc2, hm⟩ | ⟨hc2, hm⟩ := ite_or hm
  ·refine wp_condT F rfl hc2 ?_
   refine wp_seq ?_
   refine wp_dv [] mo S ?_; clear S; intro ok2 w S
   refine dv_ev ok2 0 rfl (ev_loadA tu27 rfl (cs := [.i6 0, .string ByteArray.empty, .string ByteArray.empty, nilS, nilS]) ts27 rfl (box_ptr (cells := [.i6 0, .string ByteArray.empty, .string ByteArray.empty, nilS, nilS]) 0 rfl 0 rfl (lb rfl))) F S rfl fun a F=>?_
   refine dv_ev ok2 1 rfl (ev_loadA tu27 rfl (cs := [.i6 0, .string ByteArray.empty, .string ByteArray.empty, nilS, nilS]) ts27 rfl (box_ptr (cells := [.i6 0, .string ByteArray.empty, .string ByteArray.empty, nilS, nilS]) 0 rfl 0 rfl (lb rfl))) F S rfl fun a F=>?_
   refine dv_et ok2 2 rfl (ev_move rfl) F rfl fun a F=>?_
   refine dv_op ok2 3 rfl [(1, .agg #[.i6 0, .string ByteArray.empty, .string ByteArray.empty, nilS, nilS]), (0, .agg #[.i6 0, .string ByteArray.empty, .string ByteArray.empty, nilS, nilS])] ?_
   obtain ⟨y4, hy4, hm⟩ := bind_some hm
   refine wl_call0 (wn rfl) rfl F rfl (changeforgeref1_At_ok (fr := (fl [[bx b6 #[.i6 0, .string ByteArray.empty, .string ByteArray.empty, nilS, nilS] 27], [bx b5 #[.i6 0, .i6 0] 29], [bx b4 #[.i6 0, .string ByteArray.empty, .string ByteArray.empty, nilS, nilS] 27], [bx b3 #[.i6 0, .string ByteArray.empty, .string ByteArray.empty, nilS, nilS] 27], [bx b2 #[.i6 b_.Kind, .string b_.Path, .string b_.To, vb_1, vb_2] 27], [bx b1 #[.i6 a_.Kind, .string a_.Path, .string a_.To, va_1, va_2] 27]] fr)) y3 1 S hy4) rfl tc36 rfl rfl ?_; clear F a S
   rintro _ a w ⟨g4, l4, S, rfl⟩ F; replace S : St g4 [[bx b6 #[.i6 0, .string ByteArray.empty, .string ByteArray.empty, nilS, nilS] 27], [bx b5 #[.i6 0, .i6 0] 29], [bx b4 #[.i6 0, .string ByteArray.empty, .string ByteArray.empty, nilS, nilS] 27], [bx b3 #[.i6 0, .string ByteArray.empty, .string ByteArray.empty, nilS, nilS] 27], [bx b2 #[.i6 b_.Kind, .string b_.Path, .string b_.To, vb_1, vb_2] 27], [bx b1 #[.i6 a_.Kind, .string a_.Path, .string a_.To, va_1, va_2] 27]] fr w := S
   refine dv_nx ⟨yl_ev rfl rfl (ev_loadA tu27 rfl (cs := [.i6 0, .string ByteArray.empty, .string ByteArray.empty, nilS, nilS]) ts27 rfl (box_ptr (cells := [.i6 0, .string ByteArray.empty, .string ByteArray.empty, nilS, nilS]) 0 rfl 0 rfl (lb rfl))) F S, yl_ev rfl rfl (ev_loadA tu27 rfl (cs := [.i6 0, .string ByteArray.empty, .string ByteArray.empty, nilS, nilS]) ts27 rfl (box_ptr (cells := [.i6 0, .string ByteArray.empty, .string ByteArray.empty, nilS, nilS]) 0 rfl 0 rfl (lb rfl))) F S, trivial⟩ ?_
   refine dv_op ok2 4 rfl [(1, .agg #[.i6 0, .string ByteArray.empty, .string ByteArray.empty, nilS, nilS])] ?_
   refine wl_storeC (wn rfl) rfl F S rfl rfl (vs := [.i6 0, .string ByteArray.empty, .string ByteArray.empty, nilS, nilS]) rfl ts27 (one_cons rfl (one_cons rfl (one_cons rfl (one_cons rfl (one_cons rfl one_nil))))) (k := 3) rfl (lb rfl) (c' := #[.i6 0, .string ByteArray.empty, .string ByteArray.empty, nilS, nilS]) rfl rfl ?_; clear S; intro w S
   refine dv_nx ⟨yl_ev rfl rfl (ev_loadA tu27 rfl (cs := [.i6 0, .string ByteArray.empty, .string ByteArray.empty, nilS, nilS]) ts27 rfl (box_ptr (cells := [.i6 0, .string ByteArray.empty, .string ByteArray.empty, nilS, nilS]) 0 rfl 0 rfl (lb rfl))) F S, trivial⟩ ?_
   refine dv_op ok2 5 rfl [] ?_
   refine wl_storeC (wn rfl) rfl F S rfl rfl (vs := [.i6 0, .string ByteArray.empty, .string ByteArray.empty, nilS, nilS]) rfl ts27 (one_cons rfl (one_cons rfl (one_cons rfl (one_cons rfl (one_cons rfl one_nil))))) (k := 2) rfl (lb rfl) (c' := #[.i6 0, .string ByteArray.empty, .string ByteArray.empty, nilS, nilS]) rfl rfl ?_; clear S; intro w S
   refine dv_nx trivial ?_
   refine dv_et ok2 6 rfl (ev_assign rfl) F rfl fun a F=>?_
   refine dv_op ok2 7 rfl [] ?_
   refine wl_storeC (wn rfl) rfl F S rfl rfl (vs := [.i6 y4.Code, .i6 y4.Index]) rfl ts29 (one_cons rfl (one_cons rfl one_nil)) (k := 1) rfl (lb rfl) (c' := #[.i6 y4.Code, .i6 y4.Index]) rfl rfl ?_; clear S; intro w S
   refine dv_nx trivial ?_
   refine dv_fin ok2 ?_
   refine then_n ?_
   refine wp_ret ?_
   refine then_r ?_
   obtain rfl := sinj hm
   refine post_r _ F rfl (ar_cons (resA rfl tu27 rfl (box_ptr (cells := [.i6 0, .string ByteArray.empty, .string ByteArray.empty, nilS, nilS]) 3 rfl 0 rfl (lb rfl) w S) ts27) (ar_cons (resA rfl tu27 rfl (box_ptr (cells := [.i6 0, .string ByteArray.empty, .string ByteArray.empty, nilS, nilS]) 2 rfl 0 rfl (lb rfl) w S) ts27) (ar_cons (resT rfl) (ar_cons (resA rfl tu29 rfl (box_ptr (cells := [.i6 y4.Code, .i6 y4.Index]) 1 rfl 0 rfl (lb rfl) w S) ts29) ar_nil)))) ?_
   replace S : St g4 [] fr w := St.tail [] _ S
   exact ⟨_, rfl, g4, (nilS), (nilS), (nilS), (nilS), ((l1.trans l3).trans l4), S, (RepSl.nil _), (RepSl.nil _), (RepSl.nil _), (RepSl.nil _), rfl⟩
  ·refine wp_condF F rfl hc2 ?_
   refine wp_skip ?_
   refine then_n ?_
   refine wp_seq ?_
   refine wp_seq ?_
   refine wp_region_lit ?_
   refine wE (ev_loadA tu27 rfl (cs := [.i6 a_.Kind, .string a_.Path, .string a_.To, va_1, va_2]) ts27 rfl (box_ptr (cells := [.i6 a_.Kind, .string a_.Path, .string a_.To, va_1, va_2]) 5 rfl 0 rfl (lb rfl))) F S rfl fun a F=>?_
   refine wE (ev_fieldAddr' tu27 tf27_1 (z := 0) ts9 rfl ⟨_, rfl⟩ rfl) F S rfl fun a F=>?_
   refine wE (ev_load1 tu9 rfl rfl (box_ptr (cells := [.string b_.Path]) 4 rfl 1 rfl (lb rfl))) F S rfl fun a F=>?_
   obtain ⟨y5, hy5, hm⟩ := bind_some hm
   refine wl_call0 (wn rfl) rfl F rfl (changeforgeref2_Touches_ok (fr := (fl [[bx b6 #[.i6 0, .string ByteArray.empty, .string ByteArray.empty, nilS, nilS] 27], [bx b5 #[.i6 0, .i6 0] 29], [bx b4 #[.i6 0, .string ByteArray.empty, .string ByteArray.empty, nilS, nilS] 27], [bx b3 #[.i6 0, .string ByteArray.empty, .string ByteArray.empty, nilS, nilS] 27], [bx b2 #[.i6 b_.Kind, .string b_.Path, .string b_.To, vb_1, vb_2] 27], [bx b1 #[.i6 a_.Kind, .string a_.Path, .string a_.To, va_1, va_2] 27]] fr)) a_ va_1 (ha_1.mono (l1.trans l3)) va_2 (ha_2.mono (l1.trans l3)) b_.Path S hy5) rfl tc37 rfl rfl ?_; clear F a S
   rintro _ a w ⟨g5, l5, S, rfl⟩ F; replace S : St g5 [[bx b6 #[.i6 0, .string ByteArray.empty, .string ByteArray.empty, nilS, nilS] 27], [bx b5 #[.i6 0, .i6 0] 29], [bx b4 #[.i6 0, .string ByteArray.empty, .string ByteArray.empty, nilS, nilS] 27], [bx b3 #[.i6 0, .string ByteArray.empty, .string ByteArray.empty, nilS, nilS] 27], [bx b2 #[.i6 b_.Kind, .string b_.Path, .string b_.To, vb_1, vb_2] 27], [bx b1 #[.i6 a_.Kind, .string a_.Path, .string a_.To, va_1, va_2] 27]] fr w := S
   refine wE (ev_not rfl) F S rfl fun a F=>?_
   refine wE (ev_move rfl) F S rfl fun a F=>?_
   obtain ⟨x1, hx1, hm⟩ := bind_some hm
   refine wl_cut 11 (fun a w => ∃ g6, Fr 146 a [(48, .bool x1), (8, bp b6 0), (7, bp b5 0), (5, bp b4 0), (4, bp b3 0), (3, bp b2 0), (2, bp b1 0)] ∧ Le g5 g6 ∧ St g6 [[bx b6 #[.i6 0, .string ByteArray.empty, .string ByteArray.empty, nilS, nilS] 27], [bx b5 #[.i6 0, .i6 0] 29], [bx b4 #[.i6 0, .string ByteArray.empty, .string ByteArray.empty, nilS, nilS] 27], [bx b3 #[.i6 0, .string ByteArray.empty, .string ByteArray.empty, nilS, nilS] 27], [bx b2 #[.i6 b_.Kind, .string b_.Path, .string b_.To, vb_1, vb_2] 27], [bx b1 #[.i6 a_.Kind, .string a_.Path, .string a_.To, va_1, va_2] 27]] fr w) ?_ ?_
   ·clear hm; obtain ⟨hc3, hm⟩ | ⟨hc3, hm⟩ := ite_or hx1
    ·refine wl_ev (wg F rfl rfl rfl rfl hc3) (ev_fieldAddr' tu27 tf27_0 (z := 0) ts3 rfl ⟨_, rfl⟩ rfl) F S rfl rfl ?_; clear F a; intro a F
     refine wl_ev (wg F rfl rfl rfl rfl hc3) (ev_load1 tu3 rfl rfl (box_ptr (cells := [.i6 b_.Kind]) 4 rfl 0 rfl (lb rfl))) F S rfl rfl ?_; clear F a; intro a F
     refine wl_ev (wg F rfl rfl rfl rfl hc3) (ev_int rfl rfl (bo_neq _ _ _ _)) F S rfl rfl ?_; clear F a; intro a F
     refine wl_ev (wg F rfl rfl rfl rfl hc3) (ev_move rfl) F S rfl rfl ?_; clear F a; intro a F
     obtain ⟨x2, hx2, hm⟩ := bind_some hm
     refine wl_cut 6 (fun a w => ∃ g7, Fr 146 a [(47, .bool x2), (37, .bool !y5), (8, bp b6 0), (7, bp b5 0), (5, bp b4 0), (4, bp b3 0), (3, bp b2 0), (2, bp b1 0)] ∧ Le g5 g7 ∧ St g7 [[bx b6 #[.i6 0, .string ByteArray.empty, .string ByteArray.empty, nilS, nilS] 27], [bx b5 #[.i6 0, .i6 0] 29], [bx b4 #[.i6 0, .string ByteArray.empty, .string ByteArray.empty, nilS, nilS] 27], [bx b3 #[.i6 0, .string ByteArray.empty, .string ByteArray.empty, nilS, nilS] 27], [bx b2 #[.i6 b_.Kind, .string b_.Path, .string b_.To, vb_1, vb_2] 27], [bx b1 #[.i6 a_.Kind, .string a_.Path, .string a_.To, va_1, va_2] 27]] fr w) ?_ ?_
     ·clear hm; obtain ⟨hc4, hm⟩ | ⟨hc4, hm⟩ := ite_or hx2
      ·refine wl_skip rfl rfl rfl rfl (ne_ft hc4) F rfl rfl ?_; clear F a; intro a F
       refine wl_skip rfl rfl rfl rfl (ne_ft hc4) F rfl rfl ?_; clear F a; intro a F
       refine wl_skip rfl rfl rfl rfl (ne_ft hc4) F rfl rfl ?_; clear F a; intro a F
       refine wl_skip rfl rfl rfl rfl (ne_ft hc4) F rfl rfl ?_; clear F a; intro a F
       refine wl_skip rfl rfl rfl rfl (ne_ft hc4) F rfl rfl ?_; clear F a; intro a F
       refine wl_ev (wg F rfl rfl rfl rfl hc3) (ev_pickT rfl hc4 rfl) F S rfl rfl ?_; clear F a; intro a F
       obtain rfl := sinj hm
       refine wpList_nil (then_n ?_); exact ⟨g5, F.sub ⟨rfl, rfl, rfl, rfl, rfl, rfl, rfl, rfl, trivial⟩, (Le.refl _), S⟩
      ·refine wl_ev (wg F rfl rfl rfl rfl hc4) (ev_loadA tu27 rfl (cs := [.i6 a_.Kind, .string a_.Path, .string a_.To, va_1, va_2]) ts27 rfl (box_ptr (cells := [.i6 a_.Kind, .string a_.Path, .string a_.To, va_1, va_2]) 5 rfl 0 rfl (lb rfl))) F S rfl rfl ?_; clear F a; intro a F
       refine wl_ev (wg F rfl rfl rfl rfl hc4) (ev_fieldAddr' tu27 tf27_2 (z := 0) ts9 rfl ⟨_, rfl⟩ rfl) F S rfl rfl ?_; clear F a; intro a F
       refine wl_ev (wg F rfl rfl rfl rfl hc4) (ev_load1 tu9 rfl rfl (box_ptr (cells := [.string b_.To]) 4 rfl 2 rfl (lb rfl))) F S rfl rfl ?_; clear F a; intro a F
       obtain ⟨y6, hy6, hm⟩ := bind_some hm
       refine wl_call0 (wg F rfl rfl rfl rfl hc4) rfl F rfl (changeforgeref2_Touches_ok (fr := (fl [[bx b6 #[.i6 0, .string ByteArray.empty, .string ByteArray.empty, nilS, nilS] 27], [bx b5 #[.i6 0, .i6 0] 29], [bx b4 #[.i6 0, .string ByteArray.empty, .string ByteArray.empty, nilS, nilS] 27], [bx b3 #[.i6 0, .string ByteArray.empty, .string ByteArray.empty, nilS, nilS] 27], [bx b2 #[.i6 b_.Kind, .string b_.Path, .string b_.To, vb_1, vb_2] 27], [bx b1 #[.i6 a_.Kind, .string a_.Path, .string a_.To, va_1, va_2] 27]] fr)) a_ va_1 (ha_1.mono ((l1.trans l3).trans l5)) va_2 (ha_2.mono ((l1.trans l3).trans l5)) b_.To S hy6) rfl tc37 rfl rfl ?_; clear F a S
       rintro _ a w ⟨g8, l8, S, rfl⟩ F; replace S : St g8 [[bx b6 #[.i6 0, .string ByteArray.empty, .string ByteArray.empty, nilS, nilS] 27], [bx b5 #[.i6 0, .i6 0] 29], [bx b4 #[.i6 0, .string ByteArray.empty, .string ByteArray.empty, nilS, nilS] 27], [bx b3 #[.i6 0, .string ByteArray.empty, .string ByteArray.empty, nilS, nilS] 27], [bx b2 #[.i6 b_.Kind, .string b_.Path, .string b_.To, vb_1, vb_2] 27], [bx b1 #[.i6 a_.Kind, .string a_.Path, .string a_.To, va_1, va_2] 27]] fr w := S
       refine wl_ev (wg F rfl rfl rfl rfl hc4) (ev_not rfl) F S rfl rfl ?_; clear F a; intro a F
       refine wl_ev (wg F rfl rfl rfl rfl hc3) (ev_pickF rfl hc4 rfl) F S rfl rfl ?_; clear F a; intro a F
       obtain rfl := sinj hm
       refine wpList_nil (then_n ?_); exact ⟨g8, F.sub ⟨rfl, rfl, rfl, rfl, rfl, rfl, rfl, rfl, trivial⟩, l8, S⟩
     clear F S; rintro a w ⟨g7, F, l7, S⟩
     refine wE (ev_pickT rfl hc3 rfl) F S rfl fun a F=>?_
     obtain rfl := sinj hm
     refine wpList_nil (then_n ?_); exact ⟨g7, F.sub ⟨rfl, rfl, rfl, rfl, rfl, rfl, rfl, trivial⟩, l7, S⟩
    ·refine wl_skip rfl rfl rfl rfl (ne_tf hc3) F rfl rfl ?_; clear F a; intro a F
     refine wl_skip rfl rfl rfl rfl (ne_tf hc3) F rfl rfl ?_; clear F a; intro a F
     refine wl_skip rfl rfl rfl rfl (ne_tf hc3) F rfl rfl ?_; clear F a; intro a F
     refine wl_skip rfl rfl rfl rfl (ne_tf hc3) F rfl rfl ?_; clear F a; intro a F
     refine wl_skipu rfl rfl rfl rfl F rfl rfl ?_; clear F a; intro a F
     refine wl_skipu rfl rfl rfl rfl F rfl rfl ?_; clear F a; intro a F
     refine wl_skipu rfl rfl rfl rfl F rfl rfl ?_; clear F a; intro a F
     refine wl_skipu rfl rfl rfl rfl F rfl rfl ?_; clear F a; intro a F
     refine wl_skipu rfl rfl rfl rfl F rfl rfl ?_; clear F a; intro a F
     refine wl_skip rfl rfl rfl rfl (ne_tf hc3) F rfl rfl ?_; clear F a; intro a F
     refine wE (ev_pickF rfl hc3 rfl) F S rfl fun a F=>?_
     obtain rfl := sinj hm
     refine wpList_nil (then_n ?_); exact ⟨g5, F.sub ⟨rfl, rfl, rfl, rfl, rfl, rfl, rfl, trivial⟩, (Le.refl _), S⟩
   clear F S; rintro a w ⟨g6, F, l6, S⟩
   refine wpList_nil ?_
   refine then_n ?_
   obtain ⟨hc5, hm⟩ | ⟨hc5, hm⟩ := ite_or hm
   ·refine wp_condT F rfl hc5 ?_
    refine wp_seq ?_
    refine wp_dv [] mo S ?_; clear S; intro ok3 w S
    refine dv_ev ok3 0 rfl (ev_loadA tu27 rfl (cs := [.i6 b_.Kind, .string b_.Path, .string b_.To, vb_1, vb_2]) ts27 rfl (box_ptr (cells := [.i6 b_.Kind, .string b_.Path, .string b_.To, vb_1, vb_2]) 4 rfl 0 rfl (lb rfl))) F S rfl fun a F=>?_
    refine dv_ev ok3 1 rfl (ev_loadA tu27 rfl (cs := [.i6 a_.Kind, .string a_.Path, .string a_.To, va_1, va_2]) ts27 rfl (box_ptr (cells := [.i6 a_.Kind, .string a_.Path, .string a_.To, va_1, va_2]) 5 rfl 0 rfl (lb rfl))) F S rfl fun a F=>?_
    refine dv_et ok3 2 rfl (ev_build (parts := []) (vs := []) rfl (fun w => tb29_  w)) F rfl fun a F=>?_
    refine dv_op ok3 3 rfl [(1, .agg #[.i6 a_.Kind, .string a_.Path, .string a_.To, va_1, va_2])] ?_
    refine wl_storeC (wn rfl) rfl F S rfl rfl (vs := [.i6 b_.Kind, .string b_.Path, .string b_.To, vb_1, vb_2]) rfl ts27 (one_cons rfl (one_cons rfl (one_cons rfl (one_cons hb_1.one (one_cons hb_2.one one_nil))))) (k := 3) rfl (lb rfl) (c' := #[.i6 b_.Kind, .string b_.Path, .string b_.To, vb_1, vb_2]) rfl rfl ?_; clear S; intro w S
    refine dv_nx ⟨yl_ev rfl rfl (ev_loadA tu27 rfl (cs := [.i6 a_.Kind, .string a_.Path, .string a_.To, va_1, va_2]) ts27 rfl (box_ptr (cells := [.i6 a_.Kind, .string a_.Path, .string a_.To, va_1, va_2]) 5 rfl 0 rfl (lb rfl))) F S, trivial⟩ ?_
    refine dv_op ok3 4 rfl [] ?_
    refine wl_storeC (wn rfl) rfl F S rfl rfl (vs := [.i6 a_.Kind, .string a_.Path, .string a_.To, va_1, va_2]) rfl ts27 (one_cons rfl (one_cons rfl (one_cons rfl (one_cons ha_1.one (one_cons ha_2.one one_nil))))) (k := 2) rfl (lb rfl) (c' := #[.i6 a_.Kind, .string a_.Path, .string a_.To, va_1, va_2]) rfl rfl ?_; clear S; intro w S
    refine dv_nx trivial ?_
    refine dv_et ok3 5 rfl (ev_assign rfl) F rfl fun a F=>?_
    refine dv_op ok3 6 rfl [] ?_
    refine wl_storeC (wn rfl) rfl F S rfl rfl (vs := [.i6 0, .i6 0]) rfl ts29 (one_cons rfl (one_cons rfl one_nil)) (k := 1) rfl (lb rfl) (c' := #[.i6 0, .i6 0]) rfl rfl ?_; clear S; intro w S
    refine dv_nx trivial ?_
    refine dv_fin ok3 ?_
    refine then_n ?_
    refine wp_ret ?_
    refine then_r ?_
    obtain rfl := sinj hm
    refine post_r _ F rfl (ar_cons (resA rfl tu27 rfl (box_ptr (cells := [.i6 b_.Kind, .string b_.Path, .string b_.To, vb_1, vb_2]) 3 rfl 0 rfl (lb rfl) w S) ts27) (ar_cons (resA rfl tu27 rfl (box_ptr (cells := [.i6 a_.Kind, .string a_.Path, .string a_.To, va_1, va_2]) 2 rfl 0 rfl (lb rfl) w S) ts27) (ar_cons (resT rfl) (ar_cons (resA rfl tu29 rfl (box_ptr (cells := [.i6 0, .i6 0]) 1 rfl 0 rfl (lb rfl) w S) ts29) ar_nil)))) ?_
    replace S : St g6 [] fr w := St.tail [] _ S
    exact ⟨_, rfl, g6, vb_1, vb_2, va_1, va_2, (((l1.trans l3).trans l5).trans l6), S, (hb_1.mono (((l1.trans l3).trans l5).trans l6)), (hb_2.mono (((l1.trans l3).trans l5).trans l6)), (ha_1.mono (((l1.trans l3).trans l5).trans l6)), (ha_2.mono (((l1.trans l3).trans l5).trans l6)), rfl⟩
   ·refine wp_condF F rfl hc5 ?_
    refine wp_skip ?_
    refine then_n ?_
    refine wp_seq ?_
    refine wp_seq ?_
    refine wp_region_lit ?_
    refine wE (ev_fieldAddr' tu27 tf27_0 (z := 0) ts3 rfl ⟨_, rfl⟩ rfl) F S rfl fun a F=>?_
    refine wE (ev_load1 tu3 rfl rfl (box_ptr (cells := [.i6 a_.Kind]) 5 rfl 0 rfl (lb rfl))) F S rfl fun a F=>?_
    refine wE (ev_int rfl rfl (bo_eql _ _ _ _)) F S rfl fun a F=>?_
    refine wE (ev_move rfl) F S rfl fun a F=>?_
    obtain ⟨x3, hx3, hm⟩ := bind_some hm
    refine wl_cut 4 (fun a w' => w = w' ∧ Fr 146 a [(59, .bool x3), (8, bp b6 0), (7, bp b5 0), (5, bp b4 0), (4, bp b3 0), (3, bp b2 0), (2, bp b1 0)]) ?_ ?_
    ·clear hm; obtain ⟨hc6, hm⟩ | ⟨hc6, hm⟩ := ite_or hx3
     ·refine wl_ev (wg F rfl rfl rfl rfl hc6) (ev_fieldAddr' tu27 tf27_0 (z := 0) ts3 rfl ⟨_, rfl⟩ rfl) F S rfl rfl ?_; clear F a; intro a F
      refine wl_ev (wg F rfl rfl rfl rfl hc6) (ev_load1 tu3 rfl rfl (box_ptr (cells := [.i6 b_.Kind]) 4 rfl 0 rfl (lb rfl))) F S rfl rfl ?_; clear F a; intro a F
      refine wl_ev (wg F rfl rfl rfl rfl hc6) (ev_int rfl rfl (bo_eql _ _ _ _)) F S rfl rfl ?_; clear F a; intro a F
      refine wE (ev_pickT rfl hc6 rfl) F S rfl fun a F=>?_
      obtain rfl := sinj hm
      refine wpList_nil (then_n ?_); exact ⟨rfl, F.sub ⟨rfl, rfl, rfl, rfl, rfl, rfl, rfl, trivial⟩⟩
     ·refine wl_skip rfl rfl rfl rfl (ne_tf hc6) F rfl rfl ?_; clear F a; intro a F
      refine wl_skip rfl rfl rfl rfl (ne_tf hc6) F rfl rfl ?_; clear F a; intro a F
      refine wl_skip rfl rfl rfl rfl (ne_tf hc6) F rfl rfl ?_; clear F a; intro a F
      refine wE (ev_pickF rfl hc6 rfl) F S rfl fun a F=>?_
      obtain rfl := sinj hm
      refine wpList_nil (then_n ?_); exact ⟨rfl, F.sub ⟨rfl, rfl, rfl, rfl, rfl, rfl, rfl, trivial⟩⟩
    clear F; rintro a w' ⟨rfl, F⟩
    refine wE (ev_move rfl) F S rfl fun a F=>?_
    obtain ⟨x4, hx4, hm⟩ := bind_some hm
    refine wl_cut 6 (fun a w' => w = w' ∧ Fr 146 a [(66, .bool x4), (8, bp b6 0), (7, bp b5 0), (5, bp b4 0), (4, bp b3 0), (3, bp b2 0), (2, bp b1 0)]) ?_ ?_
    ·clear hm; obtain ⟨hc7, hm⟩ | ⟨hc7, hm⟩ := ite_or hx4
     ·refine wl_ev (wg F rfl rfl rfl rfl hc7) (ev_fieldAddr' tu27 tf27_1 (z := 0) ts9 rfl ⟨_, rfl⟩ rfl) F S rfl rfl ?_; clear F a; intro a F
      refine wl_ev (wg F rfl rfl rfl rfl hc7) (ev_load1 tu9 rfl rfl (box_ptr (cells := [.string a_.Path]) 5 rfl 1 rfl (lb rfl))) F S rfl rfl ?_; clear F a; intro a F
      refine wl_ev (wg F rfl rfl rfl rfl hc7) (ev_fieldAddr' tu27 tf27_1 (z := 0) ts9 rfl ⟨_, rfl⟩ rfl) F S rfl rfl ?_; clear F a; intro a F
      refine wl_ev (wg F rfl rfl rfl rfl hc7) (ev_load1 tu9 rfl rfl (box_ptr (cells := [.string b_.Path]) 4 rfl 1 rfl (lb rfl))) F S rfl rfl ?_; clear F a; intro a F
      refine wl_ev (wg F rfl rfl rfl rfl hc7) (ev_str rfl rfl (bs_eql _ _ _)) F S rfl rfl ?_; clear F a; intro a F
      refine wE (ev_pickT rfl hc7 rfl) F S rfl fun a F=>?_
      obtain rfl := sinj hm
      refine wpList_nil (then_n ?_); exact ⟨rfl, F.sub ⟨rfl, rfl, rfl, rfl, rfl, rfl, rfl, trivial⟩⟩
     ·refine wl_skip rfl rfl rfl rfl (ne_tf hc7) F rfl rfl ?_; clear F a; intro a F
      refine wl_skip rfl rfl rfl rfl (ne_tf hc7) F rfl rfl ?_; clear F a; intro a F
      refine wl_skip rfl rfl rfl rfl (ne_tf hc7) F rfl rfl ?_; clear F a; intro a F
      refine wl_skip rfl rfl rfl rfl (ne_tf hc7) F rfl rfl ?_; clear F a; intro a F
      refine wl_skip rfl rfl rfl rfl (ne_tf hc7) F rfl rfl ?_; clear F a; intro a F
      refine wE (ev_pickF rfl hc7 rfl) F S rfl fun a F=>?_
      obtain rfl := sinj hm
      refine wpList_nil (then_n ?_); exact ⟨rfl, F.sub ⟨rfl, rfl, rfl, rfl, rfl, rfl, rfl, trivial⟩⟩
    clear F; rintro a w' ⟨rfl, F⟩
    refine wpList_nil ?_
    refine then_n ?_
    obtain ⟨hc8, hm⟩ | ⟨hc8, hm⟩ := ite_or hm
    ·refine wp_condT F rfl hc8 ?_
     refine wp_seq ?_
     refine wp_region_lit ?_
     refine wE (ev_fieldAddr' tu27 tf27_4 (z := 0) ts25 rfl ⟨_, rfl⟩ rfl) F S rfl fun a F=>?_
     refine wE (ev_loadA tu25 rfl (cs := [va_2]) ts25 rfl (box_ptr (cells := [va_2]) 5 rfl 4 rfl (lb rfl))) F S rfl fun a F=>?_
     refine wE (ev_fieldAddr' tu27 tf27_4 (z := 0) ts25 rfl ⟨_, rfl⟩ rfl) F S rfl fun a F=>?_
     refine wE (ev_loadA tu25 rfl (cs := [vb_2]) ts25 rfl (box_ptr (cells := [vb_2]) 4 rfl 4 rfl (lb rfl))) F S rfl fun a F=>?_
     obtain ⟨y7, hy7, hm⟩ := bind_some hm
     refine wl_call0 (wn rfl) rfl F rfl (changeforgeref1_Commute_ok (fr := (fl [[bx b6 #[.i6 0, .string ByteArray.empty, .string ByteArray.empty, nilS, nilS] 27], [bx b5 #[.i6 0, .i6 0] 29], [bx b4 #[.i6 0, .string ByteArray.empty, .string ByteArray.empty, nilS, nilS] 27], [bx b3 #[.i6 0, .string ByteArray.empty, .string ByteArray.empty, nilS, nilS] 27], [bx b2 #[.i6 b_.Kind, .string b_.Path, .string b_.To, vb_1, vb_2] 27], [bx b1 #[.i6 a_.Kind, .string a_.Path, .string a_.To, va_1, va_2] 27]] fr)) a_.Patch va_2 (ha_2.mono (((l1.trans l3).trans l5).trans l6)) b_.Patch vb_2 (hb_2.mono (((l1.trans l3).trans l5).trans l6)) S hy7) rfl tc38 rfl rfl ?_; clear F a S
     rintro _ a w ⟨g9, v1, v2, l9, S, h1, h2, rfl⟩ F; replace S : St g9 [[bx b6 #[.i6 0, .string ByteArray.empty, .string ByteArray.empty, nilS, nilS] 27], [bx b5 #[.i6 0, .i6 0] 29], [bx b4 #[.i6 0, .string ByteArray.empty, .string ByteArray.empty, nilS, nilS] 27], [bx b3 #[.i6 0, .string ByteArray.empty, .string ByteArray.empty, nilS, nilS] 27], [bx b2 #[.i6 b_.Kind, .string b_.Path, .string b_.To, vb_1, vb_2] 27], [bx b1 #[.i6 a_.Kind, .string a_.Path, .string a_.To, va_1, va_2] 27]] fr w := S
     refine wE (ev_move rfl) F S rfl fun a F=>?_
     refine wE (ev_extract rfl rfl) F S rfl fun a F=>?_
     refine wE (ev_extract rfl rfl) F S rfl fun a F=>?_
     refine wE (ev_extract rfl rfl) F S rfl fun a F=>?_
     refine wE (ev_extract rfl rfl) F S rfl fun a F=>?_
     refine wl_alloc (wn rfl) rfl tz25 (cs := [nilS]) rfl F S rfl rfl ?_; clear F a S; rintro b7 a w F S
     refine wl_alloc (wn rfl) rfl tz25 (cs := [nilS]) rfl F S rfl rfl ?_; clear F a S; rintro b8 a w F S
     refine wl_alloc (wn rfl) rfl tz29 (cs := [.i6 0, .i6 0]) rfl F S rfl rfl ?_; clear F a S; rintro b9 a w F S
     refine wl_storeC (wn rfl) rfl F S rfl rfl (vs := [v1]) rfl ts25 (one_cons h1.one one_nil) (k := 2) rfl (lb rfl) (c' := #[v1]) rfl rfl ?_; clear S; intro w S
     refine wl_storeC (wn rfl) rfl F S rfl rfl (vs := [v2]) rfl ts25 (one_cons h2.one one_nil) (k := 1) rfl (lb rfl) (c' := #[v2]) rfl rfl ?_; clear S; intro w S
     refine wE (ev_assign rfl) F S rfl fun a F=>?_
     refine wl_storeC (wn rfl) rfl F S rfl rfl (vs := [.i6 y7.2.2.2.Code, .i6 y7.2.2.2.Index]) rfl ts29 (one_cons rfl (one_cons rfl one_nil)) (k := 0) rfl (lb rfl) (c' := #[.i6 y7.2.2.2.Code, .i6 y7.2.2.2.Index]) rfl rfl ?_; clear S; intro w S
     refine wpList_nil ?_
     refine then_n ?_
     refine wp_seq ?_
     refine wp_seq ?_
     refine wp_region_lit ?_
     refine wE (ev_fieldAddr' tu29 tf29_0 (z := 0) ts3 rfl ⟨_, rfl⟩ rfl) F S rfl fun a F=>?_
     refine wE (ev_load1 tu3 rfl rfl (box_ptr (cells := [.i6 y7.2.2.2.Code]) 0 rfl 0 rfl (lb rfl))) F S rfl fun a F=>?_
     refine wE (ev_int rfl rfl (bo_neq _ _ _ _)) F S rfl fun a F=>?_
     refine wpList_nil ?_
     refine then_n ?_
     obtain ⟨hc9, hm⟩ | ⟨hc9, hm⟩ := ite_or hm
     ·refine wp_condT F rfl hc9 ?_
      refine wp_seq ?_
      refine wp_dv [] mo S ?_; clear S; intro ok4 w S
      refine dv_ev ok4 0 rfl (ev_loadA tu27 rfl (cs := [.i6 0, .string ByteArray.empty, .string ByteArray.empty, nilS, nilS]) ts27 rfl (box_ptr (cells := [.i6 0, .string ByteArray.empty, .string ByteArray.empty, nilS, nilS]) 3 rfl 0 rfl (lb rfl))) F S rfl fun a F=>?_
      refine dv_ev ok4 1 rfl (ev_loadA tu27 rfl (cs := [.i6 0, .string ByteArray.empty, .string ByteArray.empty, nilS, nilS]) ts27 rfl (box_ptr (cells := [.i6 0, .string ByteArray.empty, .string ByteArray.empty, nilS, nilS]) 3 rfl 0 rfl (lb rfl))) F S rfl fun a F=>?_
      refine dv_et ok4 2 rfl (ev_fieldAddr' tu29 tf29_0 (z := 0) ts3 rfl ⟨_, rfl⟩ rfl) F rfl fun a F=>?_
      refine dv_ev ok4 3 rfl (ev_load1 tu3 rfl rfl (box_ptr (cells := [.i6 y7.2.2.2.Code]) 0 rfl 0 rfl (lb rfl))) F S rfl fun a F=>?_
      refine dv_op ok4 4 rfl [(1, .agg #[.i6 0, .string ByteArray.empty, .string ByteArray.empty, nilS, nilS]), (0, .agg #[.i6 0, .string ByteArray.empty, .string ByteArray.empty, nilS, nilS])] ?_
      obtain ⟨y8, hy8, hm⟩ := bind_some hm
      refine wl_call0 (wn rfl) rfl F rfl (changeforgeref1_At_ok (fr := (fl [[bx b9 #[.i6 y7.2.2.2.Code, .i6 y7.2.2.2.Index] 29], [bx b8 #[v2] 25], [bx b7 #[v1] 25], [bx b6 #[.i6 0, .string ByteArray.empty, .string ByteArray.empty, nilS, nilS] 27], [bx b5 #[.i6 0, .i6 0] 29], [bx b4 #[.i6 0, .string ByteArray.empty, .string ByteArray.empty, nilS, nilS] 27], [bx b3 #[.i6 0, .string ByteArray.empty, .string ByteArray.empty, nilS, nilS] 27], [bx b2 #[.i6 b_.Kind, .string b_.Path, .string b_.To, vb_1, vb_2] 27], [bx b1 #[.i6 a_.Kind, .string a_.Path, .string a_.To, va_1, va_2] 27]] fr)) y7.2.2.2.Code (-1) S hy8) rfl tc36 rfl rfl ?_; clear F a S
      rintro _ a w ⟨g10, l10, S, rfl⟩ F; replace S : St g10 [[bx b9 #[.i6 y7.2.2.2.Code, .i6 y7.2.2.2.Index] 29], [bx b8 #[v2] 25], [bx b7 #[v1] 25], [bx b6 #[.i6 0, .string ByteArray.empty, .string ByteArray.empty, nilS, nilS] 27], [bx b5 #[.i6 0, .i6 0] 29], [bx b4 #[.i6 0, .string ByteArray.empty, .string ByteArray.empty, nilS, nilS] 27], [bx b3 #[.i6 0, .string ByteArray.empty, .string ByteArray.empty, nilS, nilS] 27], [bx b2 #[.i6 b_.Kind, .string b_.Path, .string b_.To, vb_1, vb_2] 27], [bx b1 #[.i6 a_.Kind, .string a_.Path, .string a_.To, va_1, va_2] 27]] fr w := S
      refine dv_nx ⟨yl_ev rfl rfl (ev_loadA tu27 rfl (cs := [.i6 0, .string ByteArray.empty, .string ByteArray.empty, nilS, nilS]) ts27 rfl (box_ptr (cells := [.i6 0, .string ByteArray.empty, .string ByteArray.empty, nilS, nilS]) 3 rfl 0 rfl (lb rfl))) F S, yl_ev rfl rfl (ev_loadA tu27 rfl (cs := [.i6 0, .string ByteArray.empty, .string ByteArray.empty, nilS, nilS]) ts27 rfl (box_ptr (cells := [.i6 0, .string ByteArray.empty, .string ByteArray.empty, nilS, nilS]) 3 rfl 0 rfl (lb rfl))) F S, trivial⟩ ?_
      refine dv_op ok4 5 rfl [(1, .agg #[.i6 0, .string ByteArray.empty, .string ByteArray.empty, nilS, nilS])] ?_
      refine wl_storeC (wn rfl) rfl F S rfl rfl (vs := [.i6 0, .string ByteArray.empty, .string ByteArray.empty, nilS, nilS]) rfl ts27 (one_cons rfl (one_cons rfl (one_cons rfl (one_cons rfl (one_cons rfl one_nil))))) (k := 6) rfl (lb rfl) (c' := #[.i6 0, .string ByteArray.empty, .string ByteArray.empty, nilS, nilS]) rfl rfl ?_; clear S; intro w S
      refine dv_nx ⟨yl_ev rfl rfl (ev_loadA tu27 rfl (cs := [.i6 0, .string ByteArray.empty, .string ByteArray.empty, nilS, nilS]) ts27 rfl (box_ptr (cells := [.i6 0, .string ByteArray.empty, .string ByteArray.empty, nilS, nilS]) 3 rfl 0 rfl (lb rfl))) F S, trivial⟩ ?_
      refine dv_op ok4 6 rfl [] ?_
      refine wl_storeC (wn rfl) rfl F S rfl rfl (vs := [.i6 0, .string ByteArray.empty, .string ByteArray.empty, nilS, nilS]) rfl ts27 (one_cons rfl (one_cons rfl (one_cons rfl (one_cons rfl (one_cons rfl one_nil))))) (k := 5) rfl (lb rfl) (c' := #[.i6 0, .string ByteArray.empty, .string ByteArray.empty, nilS, nilS]) rfl rfl ?_; clear S; intro w S
      refine dv_nx trivial ?_
      refine dv_et ok4 7 rfl (ev_assign rfl) F rfl fun a F=>?_
      refine dv_op ok4 8 rfl [] ?_
      refine wl_storeC (wn rfl) rfl F S rfl rfl (vs := [.i6 y8.Code, .i6 y8.Index]) rfl ts29 (one_cons rfl (one_cons rfl one_nil)) (k := 4) rfl (lb rfl) (c' := #[.i6 y8.Code, .i6 y8.Index]) rfl rfl ?_; clear S; intro w S
      refine dv_nx trivial ?_
      refine dv_fin ok4 ?_
      refine then_n ?_
      refine wp_ret ?_
      refine then_r ?_
      refine then_r ?_
      obtain rfl := sinj hm
      refine post_r _ F rfl (ar_cons (resA rfl tu27 rfl (box_ptr (cells := [.i6 0, .string ByteArray.empty, .string ByteArray.empty, nilS, nilS]) 6 rfl 0 rfl (lb rfl) w S) ts27) (ar_cons (resA rfl tu27 rfl (box_ptr (cells := [.i6 0, .string ByteArray.empty, .string ByteArray.empty, nilS, nilS]) 5 rfl 0 rfl (lb rfl) w S) ts27) (ar_cons (resT rfl) (ar_cons (resA rfl tu29 rfl (box_ptr (cells := [.i6 y8.Code, .i6 y8.Index]) 4 rfl 0 rfl (lb rfl) w S) ts29) ar_nil)))) ?_
      replace S : St g10 [] fr w := St.tail [] _ S
      exact ⟨_, rfl, g10, (nilS), (nilS), (nilS), (nilS), (((((l1.trans l3).trans l5).trans l6).trans l9).trans l10), S, (RepSl.nil _), (RepSl.nil _), (RepSl.nil _), (RepSl.nil _), rfl⟩
     ·refine wp_condF F rfl hc9 ?_
      refine wp_skip ?_
      refine then_n ?_
      refine wp_seq ?_
      refine wp_seq ?_
      refine wp_region_lit ?_
      refine wE (ev_move rfl) F S rfl fun a F=>?_
      refine wE (ev_not rfl) F S rfl fun a F=>?_
      refine wpList_nil ?_
      refine then_n ?_
      obtain ⟨hc10, hm⟩ | ⟨hc10, hm⟩ := ite_or hm
      ·refine wp_condT F rfl hc10 ?_
       refine wp_seq ?_
       refine wp_dv [] mo S ?_; clear S; intro ok5 w S
       refine dv_ev ok5 0 rfl (ev_loadA tu27 rfl (cs := [.i6 0, .string ByteArray.empty, .string ByteArray.empty, nilS, nilS]) ts27 rfl (box_ptr (cells := [.i6 0, .string ByteArray.empty, .string ByteArray.empty, nilS, nilS]) 3 rfl 0 rfl (lb rfl))) F S rfl fun a F=>?_
       refine dv_ev ok5 1 rfl (ev_loadA tu27 rfl (cs := [.i6 0, .string ByteArray.empty, .string ByteArray.empty, nilS, nilS]) ts27 rfl (box_ptr (cells := [.i6 0, .string ByteArray.empty, .string ByteArray.empty, nilS, nilS]) 3 rfl 0 rfl (lb rfl))) F S rfl fun a F=>?_
       refine dv_et ok5 2 rfl (ev_build (parts := []) (vs := []) rfl (fun w => tb29_  w)) F rfl fun a F=>?_
       refine dv_op ok5 3 rfl [(1, .agg #[.i6 0, .string ByteArray.empty, .string ByteArray.empty, nilS, nilS])] ?_
       refine wl_storeC (wn rfl) rfl F S rfl rfl (vs := [.i6 0, .string ByteArray.empty, .string ByteArray.empty, nilS, nilS]) rfl ts27 (one_cons rfl (one_cons rfl (one_cons rfl (one_cons rfl (one_cons rfl one_nil))))) (k := 6) rfl (lb rfl) (c' := #[.i6 0, .string ByteArray.empty, .string ByteArray.empty, nilS, nilS]) rfl rfl ?_; clear S; intro w S
       refine dv_nx ⟨yl_ev rfl rfl (ev_loadA tu27 rfl (cs := [.i6 0, .string ByteArray.empty, .string ByteArray.empty, nilS, nilS]) ts27 rfl (box_ptr (cells := [.i6 0, .string ByteArray.empty, .string ByteArray.empty, nilS, nilS]) 3 rfl 0 rfl (lb rfl))) F S, trivial⟩ ?_
       refine dv_op ok5 4 rfl [] ?_
       refine wl_storeC (wn rfl) rfl F S rfl rfl (vs := [.i6 0, .string ByteArray.empty, .string ByteArray.empty, nilS, nilS]) rfl ts27 (one_cons rfl (one_cons rfl (one_cons rfl (one_cons rfl (one_cons rfl one_nil))))) (k := 5) rfl (lb rfl) (c' := #[.i6 0, .string ByteArray.empty, .string ByteArray.empty, nilS, nilS]) rfl rfl ?_; clear S; intro w S
       refine dv_nx trivial ?_
       refine dv_et ok5 5 rfl (ev_assign rfl) F rfl fun a F=>?_
       refine dv_op ok5 6 rfl [] ?_
       refine wl_storeC (wn rfl) rfl F S rfl rfl (vs := [.i6 0, .i6 0]) rfl ts29 (one_cons rfl (one_cons rfl one_nil)) (k := 4) rfl (lb rfl) (c' := #[.i6 0, .i6 0]) rfl rfl ?_; clear S; intro w S
       refine dv_nx trivial ?_
       refine dv_fin ok5 ?_
       refine then_n ?_
       refine wp_ret ?_
       refine then_r ?_
       refine then_r ?_
       obtain rfl := sinj hm
       refine post_r _ F rfl (ar_cons (resA rfl tu27 rfl (box_ptr (cells := [.i6 0, .string ByteArray.empty, .string ByteArray.empty, nilS, nilS]) 6 rfl 0 rfl (lb rfl) w S) ts27) (ar_cons (resA rfl tu27 rfl (box_ptr (cells := [.i6 0, .string ByteArray.empty, .string ByteArray.empty, nilS, nilS]) 5 rfl 0 rfl (lb rfl) w S) ts27) (ar_cons (resT rfl) (ar_cons (resA rfl tu29 rfl (box_ptr (cells := [.i6 0, .i6 0]) 4 rfl 0 rfl (lb rfl) w S) ts29) ar_nil)))) ?_
       replace S : St g9 [] fr w := St.tail [] _ S
       exact ⟨_, rfl, g9, (nilS), (nilS), (nilS), (nilS), ((((l1.trans l3).trans l5).trans l6).trans l9), S, (RepSl.nil _), (RepSl.nil _), (RepSl.nil _), (RepSl.nil _), rfl⟩
      ·refine wp_condF F rfl hc10 ?_
       refine wp_skip ?_
       refine then_n ?_
       refine wp_seq ?_
       refine wp_dv [] mo S ?_; clear S; intro ok6 w S
       refine dv_et ok6 0 rfl (ev_fieldAddr' tu27 tf27_1 (z := 0) ts9 rfl ⟨_, rfl⟩ rfl) F rfl fun a F=>?_
       refine dv_ev ok6 1 rfl (ev_load1 tu9 rfl rfl (box_ptr (cells := [.string a_.Path]) 8 rfl 1 rfl (lb rfl))) F S rfl fun a F=>?_
       refine dv_ev ok6 2 rfl (ev_loadA tu25 rfl (cs := [v1]) ts25 rfl (box_ptr (cells := [v1]) 2 rfl 0 rfl (lb rfl))) F S rfl fun a F=>?_
       refine dv_et ok6 3 rfl (ev_build (parts := [(0, .const (.i6 4)), (1, .tmp 91), (4, .tmp 92)]) (vs := [(0, .i6 4), (1, .string a_.Path), (4, .agg #[v1])]) rfl (fun w => tb27_0_1_4 4 a_.Path v1 (RepSl.isSl h1) w)) F rfl fun a F=>?_
       refine dv_et ok6 4 rfl (ev_fieldAddr' tu27 tf27_1 (z := 0) ts9 rfl ⟨_, rfl⟩ rfl) F rfl fun a F=>?_
       refine dv_ev ok6 5 rfl (ev_load1 tu9 rfl rfl (box_ptr (cells := [.string a_.Path]) 8 rfl 1 rfl (lb rfl))) F S rfl fun a F=>?_
       refine dv_ev ok6 6 rfl (ev_loadA tu25 rfl (cs := [v2]) ts25 rfl (box_ptr (cells := [v2]) 1 rfl 0 rfl (lb rfl))) F S rfl fun a F=>?_
       refine dv_et ok6 7 rfl (ev_build (parts := [(0, .const (.i6 4)), (1, .tmp 95), (4, .tmp 96)]) (vs := [(0, .i6 4), (1, .string a_.Path), (4, .agg #[v2])]) rfl (fun w => tb27_0_1_4 4 a_.Path v2 (RepSl.isSl h2) w)) F rfl fun a F=>?_
       refine dv_et ok6 8 rfl (ev_build (parts := []) (vs := []) rfl (fun w => tb29_  w)) F rfl fun a F=>?_
       refine dv_op ok6 9 rfl [(6, .agg #[v2]), (5, .string a_.Path)] ?_
       refine wl_storeC (wn rfl) rfl F S rfl rfl (vs := [.i6 4, .string a_.Path, .string ByteArray.empty, nilS, v1]) rfl ts27 (one_cons rfl (one_cons rfl (one_cons rfl (one_cons rfl (one_cons h1.one one_nil))))) (k := 6) rfl (lb rfl) (c' := #[.i6 4, .string a_.Path, .string ByteArray.empty, nilS, v1]) rfl rfl ?_; clear S; intro w S
       refine dv_nx ⟨yl_ev rfl rfl (ev_loadA tu25 rfl (cs := [v2]) ts25 rfl (box_ptr (cells := [v2]) 1 rfl 0 rfl (lb rfl))) F S, yl_ev rfl rfl (ev_load1 tu9 rfl rfl (box_ptr (cells := [.string a_.Path]) 8 rfl 1 rfl (lb rfl))) F S, trivial⟩ ?_
       refine dv_op ok6 10 rfl [] ?_
       refine wl_storeC (wn rfl) rfl F S rfl rfl (vs := [.i6 4, .string a_.Path, .string ByteArray.empty, nilS, v2]) rfl ts27 (one_cons rfl (one_cons rfl (one_cons rfl (one_cons rfl (one_cons h2.one one_nil))))) (k := 5) rfl (lb rfl) (c' := #[.i6 4, .string a_.Path, .string ByteArray.empty, nilS, v2]) rfl rfl ?_; clear S; intro w S
       refine dv_nx trivial ?_
       refine dv_et ok6 11 rfl (ev_assign rfl) F rfl fun a F=>?_
       refine dv_op ok6 12 rfl [] ?_
       refine wl_storeC (wn rfl) rfl F S rfl rfl (vs := [.i6 0, .i6 0]) rfl ts29 (one_cons rfl (one_cons rfl one_nil)) (k := 4) rfl (lb rfl) (c' := #[.i6 0, .i6 0]) rfl rfl ?_; clear S; intro w S
       refine dv_nx trivial ?_
       refine dv_fin ok6 ?_
       refine then_n ?_
       refine wp_ret ?_
       refine then_r ?_
       obtain rfl := sinj hm
       refine post_r _ F rfl (ar_cons (resA rfl tu27 rfl (box_ptr (cells := [.i6 4, .string a_.Path, .string ByteArray.empty, nilS, v1]) 6 rfl 0 rfl (lb rfl) w S) ts27) (ar_cons (resA rfl tu27 rfl (box_ptr (cells := [.i6 4, .string a_.Path, .string ByteArray.empty, nilS, v2]) 5 rfl 0 rfl (lb rfl) w S) ts27) (ar_cons (resT rfl) (ar_cons (resA rfl tu29 rfl (box_ptr (cells := [.i6 0, .i6 0]) 4 rfl 0 rfl (lb rfl) w S) ts29) ar_nil)))) ?_
       replace S : St g9 [] fr w := St.tail [] _ S
       exact ⟨_, rfl, g9, (nilS), v1, (nilS), v2, ((((l1.trans l3).trans l5).trans l6).trans l9), S, (RepSl.nil _), h1, (RepSl.nil _), h2, rfl⟩
    ·refine wp_condF F rfl hc8 ?_
     refine wp_skip ?_
     refine then_n ?_
     refine wp_seq ?_
     refine wp_seq ?_
     refine wp_region_lit ?_
     refine wE (ev_fieldAddr' tu27 tf27_0 (z := 0) ts3 rfl ⟨_, rfl⟩ rfl) F S rfl fun a F=>?_
     refine wE (ev_load1 tu3 rfl rfl (box_ptr (cells := [.i6 a_.Kind]) 5 rfl 0 rfl (lb rfl))) F S rfl fun a F=>?_
     refine wE (ev_int rfl rfl (bo_eql _ _ _ _)) F S rfl fun a F=>?_
     refine wE (ev_move rfl) F S rfl fun a F=>?_
     obtain ⟨x5, hx5, hm⟩ := bind_some hm
     refine wl_cut 4 (fun a w' => w = w' ∧ Fr 146 a [(106, .bool x5), (8, bp b6 0), (7, bp b5 0), (5, bp b4 0), (4, bp b3 0), (3, bp b2 0), (2, bp b1 0)]) ?_ ?_
     ·clear hm; obtain ⟨hc11, hm⟩ | ⟨hc11, hm⟩ := ite_or hx5
      ·refine wl_ev (wg F rfl rfl rfl rfl hc11) (ev_fieldAddr' tu27 tf27_0 (z := 0) ts3 rfl ⟨_, rfl⟩ rfl) F S rfl rfl ?_; clear F a; intro a F
       refine wl_ev (wg F rfl rfl rfl rfl hc11) (ev_load1 tu3 rfl rfl (box_ptr (cells := [.i6 b_.Kind]) 4 rfl 0 rfl (lb rfl))) F S rfl rfl ?_; clear F a; intro a F
       refine wl_ev (wg F rfl rfl rfl rfl hc11) (ev_int rfl rfl (bo_eql _ _ _ _)) F S rfl rfl ?_; clear F a; intro a F
       refine wE (ev_pickT rfl hc11 rfl) F S rfl fun a F=>?_
       obtain rfl := sinj hm
       refine wpList_nil (then_n ?_); exact ⟨rfl, F.sub ⟨rfl, rfl, rfl, rfl, rfl, rfl, rfl, trivial⟩⟩
      ·refine wl_skip rfl rfl rfl rfl (ne_tf hc11) F rfl rfl ?_; clear F a; intro a F
       refine wl_skip rfl rfl rfl rfl (ne_tf hc11) F rfl rfl ?_; clear F a; intro a F
       refine wl_skip rfl rfl rfl rfl (ne_tf hc11) F rfl rfl ?_; clear F a; intro a F
       refine wE (ev_pickF rfl hc11 rfl) F S rfl fun a F=>?_
       obtain rfl := sinj hm
       refine wpList_nil (then_n ?_); exact ⟨rfl, F.sub ⟨rfl, rfl, rfl, rfl, rfl, rfl, rfl, trivial⟩⟩
     clear F; rintro a w' ⟨rfl, F⟩
     refine wE (ev_move rfl) F S rfl fun a F=>?_
     obtain ⟨x6, hx6, hm⟩ := bind_some hm
     refine wl_cut 6 (fun a w' => w = w' ∧ Fr 146 a [(113, .bool x6), (8, bp b6 0), (7, bp b5 0), (5, bp b4 0), (4, bp b3 0), (3, bp b2 0), (2, bp b1 0)]) ?_ ?_
     ·clear hm; obtain ⟨hc12, hm⟩ | ⟨hc12, hm⟩ := ite_or hx6
      ·refine wl_ev (wg F rfl rfl rfl rfl hc12) (ev_fieldAddr' tu27 tf27_2 (z := 0) ts9 rfl ⟨_, rfl⟩ rfl) F S rfl rfl ?_; clear F a; intro a F
       refine wl_ev (wg F rfl rfl rfl rfl hc12) (ev_load1 tu9 rfl rfl (box_ptr (cells := [.string a_.To]) 5 rfl 2 rfl (lb rfl))) F S rfl rfl ?_; clear F a; intro a F
       refine wl_ev (wg F rfl rfl rfl rfl hc12) (ev_fieldAddr' tu27 tf27_1 (z := 0) ts9 rfl ⟨_, rfl⟩ rfl) F S rfl rfl ?_; clear F a; intro a F
       refine wl_ev (wg F rfl rfl rfl rfl hc12) (ev_load1 tu9 rfl rfl (box_ptr (cells := [.string b_.Path]) 4 rfl 1 rfl (lb rfl))) F S rfl rfl ?_; clear F a; intro a F
       refine wl_ev (wg F rfl rfl rfl rfl hc12) (ev_str rfl rfl (bs_eql _ _ _)) F S rfl rfl ?_; clear F a; intro a F
       refine wE (ev_pickT rfl hc12 rfl) F S rfl fun a F=>?_
       obtain rfl := sinj hm
       refine wpList_nil (then_n ?_); exact ⟨rfl, F.sub ⟨rfl, rfl, rfl, rfl, rfl, rfl, rfl, trivial⟩⟩
      ·refine wl_skip rfl rfl rfl rfl (ne_tf hc12) F rfl rfl ?_; clear F a; intro a F
       refine wl_skip rfl rfl rfl rfl (ne_tf hc12) F rfl rfl ?_; clear F a; intro a F
       refine wl_skip rfl rfl rfl rfl (ne_tf hc12) F rfl rfl ?_; clear F a; intro a F
       refine wl_skip rfl rfl rfl rfl (ne_tf hc12) F rfl rfl ?_; clear F a; intro a F
       refine wl_skip rfl rfl rfl rfl (ne_tf hc12) F rfl rfl ?_; clear F a; intro a F
       refine wE (ev_pickF rfl hc12 rfl) F S rfl fun a F=>?_
       obtain rfl := sinj hm
       refine wpList_nil (then_n ?_); exact ⟨rfl, F.sub ⟨rfl, rfl, rfl, rfl, rfl, rfl, rfl, trivial⟩⟩
     clear F; rintro a w' ⟨rfl, F⟩
     refine wpList_nil ?_
     refine then_n ?_
     obtain ⟨hc13, hm⟩ | ⟨hc13, hm⟩ := ite_or hm
     ·refine wp_condT F rfl hc13 ?_
      refine wp_seq ?_
      refine wp_dv [] mo S ?_; clear S; intro ok7 w S
      refine dv_et ok7 0 rfl (ev_fieldAddr' tu27 tf27_1 (z := 0) ts9 rfl ⟨_, rfl⟩ rfl) F rfl fun a F=>?_
      refine dv_ev ok7 1 rfl (ev_load1 tu9 rfl rfl (box_ptr (cells := [.string a_.Path]) 5 rfl 1 rfl (lb rfl))) F S rfl fun a F=>?_
      refine dv_et ok7 2 rfl (ev_fieldAddr' tu27 tf27_4 (z := 0) ts25 rfl ⟨_, rfl⟩ rfl) F rfl fun a F=>?_
      refine dv_ev ok7 3 rfl (ev_loadA tu25 rfl (cs := [vb_2]) ts25 rfl (box_ptr (cells := [vb_2]) 4 rfl 4 rfl (lb rfl))) F S rfl fun a F=>?_
      refine dv_et ok7 4 rfl (ev_build (parts := [(0, .const (.i6 4)), (1, .tmp 115), (4, .tmp 117)]) (vs := [(0, .i6 4), (1, .string a_.Path), (4, .agg #[vb_2])]) rfl (fun w => tb27_0_1_4 4 a_.Path vb_2 (RepSl.isSl hb_2) w)) F rfl fun a F=>?_
      refine dv_ev ok7 5 rfl (ev_loadA tu27 rfl (cs := [.i6 a_.Kind, .string a_.Path, .string a_.To, va_1, va_2]) ts27 rfl (box_ptr (cells := [.i6 a_.Kind, .string a_.Path, .string a_.To, va_1, va_2]) 5 rfl 0 rfl (lb rfl))) F S rfl fun a F=>?_
      refine dv_et ok7 6 rfl (ev_build (parts := []) (vs := []) rfl (fun w => tb29_  w)) F rfl fun a F=>?_
      refine dv_op ok7 7 rfl [(5, .agg #[.i6 a_.Kind, .string a_.Path, .string a_.To, va_1, va_2])] ?_
      refine wl_storeC (wn rfl) rfl F S rfl rfl (vs := [.i6 4, .string a_.Path, .string ByteArray.empty, nilS, vb_2]) rfl ts27 (one_cons rfl (one_cons rfl (one_cons rfl (one_cons rfl (one_cons hb_2.one one_nil))))) (k := 3) rfl (lb rfl) (c' := #[.i6 4, .string a_.Path, .string ByteArray.empty, nilS, vb_2]) rfl rfl ?_; clear S; intro w S
      refine dv_nx ⟨yl_ev rfl rfl (ev_loadA tu27 rfl (cs := [.i6 a_.Kind, .string a_.Path, .string a_.To, va_1, va_2]) ts27 rfl (box_ptr (cells := [.i6 a_.Kind, .string a_.Path, .string a_.To, va_1, va_2]) 5 rfl 0 rfl (lb rfl))) F S, trivial⟩ ?_
      refine dv_op ok7 8 rfl [] ?_
      refine wl_storeC (wn rfl) rfl F S rfl rfl (vs := [.i6 a_.Kind, .string a_.Path, .string a_.To, va_1, va_2]) rfl ts27 (one_cons rfl (one_cons rfl (one_cons rfl (one_cons ha_1.one (one_cons ha_2.one one_nil))))) (k := 2) rfl (lb rfl) (c' := #[.i6 a_.Kind, .string a_.Path, .string a_.To, va_1, va_2]) rfl rfl ?_; clear S; intro w S
      refine dv_nx trivial ?_
      refine dv_et ok7 9 rfl (ev_assign rfl) F rfl fun a F=>?_
      refine dv_op ok7 10 rfl [] ?_
      refine wl_storeC (wn rfl) rfl F S rfl rfl (vs := [.i6 0, .i6 0]) rfl ts29 (one_cons rfl (one_cons rfl one_nil)) (k := 1) rfl (lb rfl) (c' := #[.i6 0, .i6 0]) rfl rfl ?_; clear S; intro w S
      refine dv_nx trivial ?_
      refine dv_fin ok7 ?_
      refine then_n ?_
      refine wp_ret ?_
      refine then_r ?_
      obtain rfl := sinj hm
      refine post_r _ F rfl (ar_cons (resA rfl tu27 rfl (box_ptr (cells := [.i6 4, .string a_.Path, .string ByteArray.empty, nilS, vb_2]) 3 rfl 0 rfl (lb rfl) w S) ts27) (ar_cons (resA rfl tu27 rfl (box_ptr (cells := [.i6 a_.Kind, .string a_.Path, .string a_.To, va_1, va_2]) 2 rfl 0 rfl (lb rfl) w S) ts27) (ar_cons (resT rfl) (ar_cons (resA rfl tu29 rfl (box_ptr (cells := [.i6 0, .i6 0]) 1 rfl 0 rfl (lb rfl) w S) ts29) ar_nil)))) ?_
      replace S : St g6 [] fr w := St.tail [] _ S
      exact ⟨_, rfl, g6, (nilS), vb_2, va_1, va_2, (((l1.trans l3).trans l5).trans l6), S, (RepSl.nil _), (hb_2.mono (((l1.trans l3).trans l5).trans l6)), (ha_1.mono (((l1.trans l3).trans l5).trans l6)), (ha_2.mono (((l1.trans l3).trans l5).trans l6)), rfl⟩
     ·refine wp_condF F rfl hc13 ?_
      refine wp_skip ?_
      refine then_n ?_
      refine wp_seq ?_
      refine wp_seq ?_
      refine wp_region_lit ?_
      refine wE (ev_fieldAddr' tu27 tf27_0 (z := 0) ts3 rfl ⟨_, rfl⟩ rfl) F S rfl fun a F=>?_
      refine wE (ev_load1 tu3 rfl rfl (box_ptr (cells := [.i6 a_.Kind]) 5 rfl 0 rfl (lb rfl))) F S rfl fun a F=>?_
      refine wE (ev_int rfl rfl (bo_eql _ _ _ _)) F S rfl fun a F=>?_
      refine wE (ev_move rfl) F S rfl fun a F=>?_
      obtain ⟨x7, hx7, hm⟩ := bind_some hm
      refine wl_cut 4 (fun a w' => w = w' ∧ Fr 146 a [(128, .bool x7), (8, bp b6 0), (7, bp b5 0), (5, bp b4 0), (4, bp b3 0), (3, bp b2 0), (2, bp b1 0)]) ?_ ?_
      ·clear hm; obtain ⟨hc14, hm⟩ | ⟨hc14, hm⟩ := ite_or hx7
       ·refine wl_ev (wg F rfl rfl rfl rfl hc14) (ev_fieldAddr' tu27 tf27_0 (z := 0) ts3 rfl ⟨_, rfl⟩ rfl) F S rfl rfl ?_; clear F a; intro a F
        refine wl_ev (wg F rfl rfl rfl rfl hc14) (ev_load1 tu3 rfl rfl (box_ptr (cells := [.i6 b_.Kind]) 4 rfl 0 rfl (lb rfl))) F S rfl rfl ?_; clear F a; intro a F
        refine wl_ev (wg F rfl rfl rfl rfl hc14) (ev_int rfl rfl (bo_eql _ _ _ _)) F S rfl rfl ?_; clear F a; intro a F
        refine wE (ev_pickT rfl hc14 rfl) F S rfl fun a F=>?_
        obtain rfl := sinj hm
        refine wpList_nil (then_n ?_); exact ⟨rfl, F.sub ⟨rfl, rfl, rfl, rfl, rfl, rfl, rfl, trivial⟩⟩
       ·refine wl_skip rfl rfl rfl rfl (ne_tf hc14) F rfl rfl ?_; clear F a; intro a F
        refine wl_skip rfl rfl rfl rfl (ne_tf hc14) F rfl rfl ?_; clear F a; intro a F
        refine wl_skip rfl rfl rfl rfl (ne_tf hc14) F rfl rfl ?_; clear F a; intro a F
        refine wE (ev_pickF rfl hc14 rfl) F S rfl fun a F=>?_
        obtain rfl := sinj hm
        refine wpList_nil (then_n ?_); exact ⟨rfl, F.sub ⟨rfl, rfl, rfl, rfl, rfl, rfl, rfl, trivial⟩⟩
      clear F; rintro a w' ⟨rfl, F⟩
      refine wE (ev_move rfl) F S rfl fun a F=>?_
      obtain ⟨x8, hx8, hm⟩ := bind_some hm
      refine wl_cut 6 (fun a w' => w = w' ∧ Fr 146 a [(135, .bool x8), (8, bp b6 0), (7, bp b5 0), (5, bp b4 0), (4, bp b3 0), (3, bp b2 0), (2, bp b1 0)]) ?_ ?_
      ·clear hm; obtain ⟨hc15, hm⟩ | ⟨hc15, hm⟩ := ite_or hx8
       ·refine wl_ev (wg F rfl rfl rfl rfl hc15) (ev_fieldAddr' tu27 tf27_1 (z := 0) ts9 rfl ⟨_, rfl⟩ rfl) F S rfl rfl ?_; clear F a; intro a F
        refine wl_ev (wg F rfl rfl rfl rfl hc15) (ev_load1 tu9 rfl rfl (box_ptr (cells := [.string a_.Path]) 5 rfl 1 rfl (lb rfl))) F S rfl rfl ?_; clear F a; intro a F
        refine wl_ev (wg F rfl rfl rfl rfl hc15) (ev_fieldAddr' tu27 tf27_1 (z := 0) ts9 rfl ⟨_, rfl⟩ rfl) F S rfl rfl ?_; clear F a; intro a F
        refine wl_ev (wg F rfl rfl rfl rfl hc15) (ev_load1 tu9 rfl rfl (box_ptr (cells := [.string b_.Path]) 4 rfl 1 rfl (lb rfl))) F S rfl rfl ?_; clear F a; intro a F
        refine wl_ev (wg F rfl rfl rfl rfl hc15) (ev_str rfl rfl (bs_eql _ _ _)) F S rfl rfl ?_; clear F a; intro a F
        refine wE (ev_pickT rfl hc15 rfl) F S rfl fun a F=>?_
        obtain rfl := sinj hm
        refine wpList_nil (then_n ?_); exact ⟨rfl, F.sub ⟨rfl, rfl, rfl, rfl, rfl, rfl, rfl, trivial⟩⟩
       ·refine wl_skip rfl rfl rfl rfl (ne_tf hc15) F rfl rfl ?_; clear F a; intro a F
        refine wl_skip rfl rfl rfl rfl (ne_tf hc15) F rfl rfl ?_; clear F a; intro a F
        refine wl_skip rfl rfl rfl rfl (ne_tf hc15) F rfl rfl ?_; clear F a; intro a F
        refine wl_skip rfl rfl rfl rfl (ne_tf hc15) F rfl rfl ?_; clear F a; intro a F
        refine wl_skip rfl rfl rfl rfl (ne_tf hc15) F rfl rfl ?_; clear F a; intro a F
        refine wE (ev_pickF rfl hc15 rfl) F S rfl fun a F=>?_
        obtain rfl := sinj hm
        refine wpList_nil (then_n ?_); exact ⟨rfl, F.sub ⟨rfl, rfl, rfl, rfl, rfl, rfl, rfl, trivial⟩⟩
      clear F; rintro a w' ⟨rfl, F⟩
      refine wpList_nil ?_
      refine then_n ?_
      obtain ⟨hc16, hm⟩ | ⟨hc16, hm⟩ := ite_or hm
      ·refine wp_condT F rfl hc16 ?_
       refine wp_seq ?_
       refine wp_dv [] mo S ?_; clear S; intro ok8 w S
       refine dv_ev ok8 0 rfl (ev_loadA tu27 rfl (cs := [.i6 b_.Kind, .string b_.Path, .string b_.To, vb_1, vb_2]) ts27 rfl (box_ptr (cells := [.i6 b_.Kind, .string b_.Path, .string b_.To, vb_1, vb_2]) 4 rfl 0 rfl (lb rfl))) F S rfl fun a F=>?_
       refine dv_et ok8 1 rfl (ev_fieldAddr' tu27 tf27_2 (z := 0) ts9 rfl ⟨_, rfl⟩ rfl) F rfl fun a F=>?_
       refine dv_ev ok8 2 rfl (ev_load1 tu9 rfl rfl (box_ptr (cells := [.string b_.To]) 4 rfl 2 rfl (lb rfl))) F S rfl fun a F=>?_
       refine dv_et ok8 3 rfl (ev_fieldAddr' tu27 tf27_4 (z := 0) ts25 rfl ⟨_, rfl⟩ rfl) F rfl fun a F=>?_
       refine dv_ev ok8 4 rfl (ev_loadA tu25 rfl (cs := [va_2]) ts25 rfl (box_ptr (cells := [va_2]) 5 rfl 4 rfl (lb rfl))) F S rfl fun a F=>?_
       refine dv_et ok8 5 rfl (ev_build (parts := [(0, .const (.i6 4)), (1, .tmp 138), (4, .tmp 140)]) (vs := [(0, .i6 4), (1, .string b_.To), (4, .agg #[va_2])]) rfl (fun w => tb27_0_1_4 4 b_.To va_2 (RepSl.isSl ha_2) w)) F rfl fun a F=>?_
       refine dv_et ok8 6 rfl (ev_build (parts := []) (vs := []) rfl (fun w => tb29_  w)) F rfl fun a F=>?_
       refine dv_op ok8 7 rfl [(4, .agg #[va_2]), (2, .string b_.To)] ?_
       refine wl_storeC (wn rfl) rfl F S rfl rfl (vs := [.i6 b_.Kind, .string b_.Path, .string b_.To, vb_1, vb_2]) rfl ts27 (one_cons rfl (one_cons rfl (one_cons rfl (one_cons hb_1.one (one_cons hb_2.one one_nil))))) (k := 3) rfl (lb rfl) (c' := #[.i6 b_.Kind, .string b_.Path, .string b_.To, vb_1, vb_2]) rfl rfl ?_; clear S; intro w S
       refine dv_nx ⟨yl_ev rfl rfl (ev_loadA tu25 rfl (cs := [va_2]) ts25 rfl (box_ptr (cells := [va_2]) 5 rfl 4 rfl (lb rfl))) F S, yl_ev rfl rfl (ev_load1 tu9 rfl rfl (box_ptr (cells := [.string b_.To]) 4 rfl 2 rfl (lb rfl))) F S, trivial⟩ ?_
       refine dv_op ok8 8 rfl [] ?_
       refine wl_storeC (wn rfl) rfl F S rfl rfl (vs := [.i6 4, .string b_.To, .string ByteArray.empty, nilS, va_2]) rfl ts27 (one_cons rfl (one_cons rfl (one_cons rfl (one_cons rfl (one_cons ha_2.one one_nil))))) (k := 2) rfl (lb rfl) (c' := #[.i6 4, .string b_.To, .string ByteArray.empty, nilS, va_2]) rfl rfl ?_; clear S; intro w S
       refine dv_nx trivial ?_
       refine dv_et ok8 9 rfl (ev_assign rfl) F rfl fun a F=>?_
       refine dv_op ok8 10 rfl [] ?_
       refine wl_storeC (wn rfl) rfl F S rfl rfl (vs := [.i6 0, .i6 0]) rfl ts29 (one_cons rfl (one_cons rfl one_nil)) (k := 1) rfl (lb rfl) (c' := #[.i6 0, .i6 0]) rfl rfl ?_; clear S; intro w S
       refine dv_nx trivial ?_
       refine dv_fin ok8 ?_
       refine then_n ?_
       refine wp_ret ?_
       refine then_r ?_
       obtain rfl := sinj hm
       refine post_r _ F rfl (ar_cons (resA rfl tu27 rfl (box_ptr (cells := [.i6 b_.Kind, .string b_.Path, .string b_.To, vb_1, vb_2]) 3 rfl 0 rfl (lb rfl) w S) ts27) (ar_cons (resA rfl tu27 rfl (box_ptr (cells := [.i6 4, .string b_.To, .string ByteArray.empty, nilS, va_2]) 2 rfl 0 rfl (lb rfl) w S) ts27) (ar_cons (resT rfl) (ar_cons (resA rfl tu29 rfl (box_ptr (cells := [.i6 0, .i6 0]) 1 rfl 0 rfl (lb rfl) w S) ts29) ar_nil)))) ?_
       replace S : St g6 [] fr w := St.tail [] _ S
       exact ⟨_, rfl, g6, vb_1, vb_2, (nilS), va_2, (((l1.trans l3).trans l5).trans l6), S, (hb_1.mono (((l1.trans l3).trans l5).trans l6)), (hb_2.mono (((l1.trans l3).trans l5).trans l6)), (RepSl.nil _), (ha_2.mono (((l1.trans l3).trans l5).trans l6)), rfl⟩
      ·refine wp_condF F rfl hc16 ?_
       refine wp_skip ?_
       refine then_n ?_
       refine wp_seq ?_
       refine wp_dv [] mo S ?_; clear S; intro ok9 w S
       refine dv_ev ok9 0 rfl (ev_loadA tu27 rfl (cs := [.i6 0, .string ByteArray.empty, .string ByteArray.empty, nilS, nilS]) ts27 rfl (box_ptr (cells := [.i6 0, .string ByteArray.empty, .string ByteArray.empty, nilS, nilS]) 0 rfl 0 rfl (lb rfl))) F S rfl fun a F=>?_
       refine dv_ev ok9 1 rfl (ev_loadA tu27 rfl (cs := [.i6 0, .string ByteArray.empty, .string ByteArray.empty, nilS, nilS]) ts27 rfl (box_ptr (cells := [.i6 0, .string ByteArray.empty, .string ByteArray.empty, nilS, nilS]) 0 rfl 0 rfl (lb rfl))) F S rfl fun a F=>?_
       refine dv_et ok9 2 rfl (ev_build (parts := []) (vs := []) rfl (fun w => tb29_  w)) F rfl fun a F=>?_
       refine dv_op ok9 3 rfl [(1, .agg #[.i6 0, .string ByteArray.empty, .string ByteArray.empty, nilS, nilS])] ?_
       refine wl_storeC (wn rfl) rfl F S rfl rfl (vs := [.i6 0, .string ByteArray.empty, .string ByteArray.empty, nilS, nilS]) rfl ts27 (one_cons rfl (one_cons rfl (one_cons rfl (one_cons rfl (one_cons rfl one_nil))))) (k := 3) rfl (lb rfl) (c' := #[.i6 0, .string ByteArray.empty, .string ByteArray.empty, nilS, nilS]) rfl rfl ?_; clear S; intro w S
       refine dv_nx ⟨yl_ev rfl rfl (ev_loadA tu27 rfl (cs := [.i6 0, .string ByteArray.empty, .string ByteArray.empty, nilS, nilS]) ts27 rfl (box_ptr (cells := [.i6 0, .string ByteArray.empty, .string ByteArray.empty, nilS, nilS]) 0 rfl 0 rfl (lb rfl))) F S, trivial⟩ ?_
       refine dv_op ok9 4 rfl [] ?_
       refine wl_storeC (wn rfl) rfl F S rfl rfl (vs := [.i6 0, .string ByteArray.empty, .string ByteArray.empty, nilS, nilS]) rfl ts27 (one_cons rfl (one_cons rfl (one_cons rfl (one_cons rfl (one_cons rfl one_nil))))) (k := 2) rfl (lb rfl) (c' := #[.i6 0, .string ByteArray.empty, .string ByteArray.empty, nilS, nilS]) rfl rfl ?_; clear S; intro w S
       refine dv_nx trivial ?_
       refine dv_et ok9 5 rfl (ev_assign rfl) F rfl fun a F=>?_
       refine dv_op ok9 6 rfl [] ?_
       refine wl_storeC (wn rfl) rfl F S rfl rfl (vs := [.i6 0, .i6 0]) rfl ts29 (one_cons rfl (one_cons rfl one_nil)) (k := 1) rfl (lb rfl) (c' := #[.i6 0, .i6 0]) rfl rfl ?_; clear S; intro w S
       refine dv_nx trivial ?_
       refine dv_fin ok9 ?_
       refine then_n ?_
       refine wp_ret ?_
       obtain rfl := sinj hm
       refine post_r _ F rfl (ar_cons (resA rfl tu27 rfl (box_ptr (cells := [.i6 0, .string ByteArray.empty, .string ByteArray.empty, nilS, nilS]) 3 rfl 0 rfl (lb rfl) w S) ts27) (ar_cons (resA rfl tu27 rfl (box_ptr (cells := [.i6 0, .string ByteArray.empty, .string ByteArray.empty, nilS, nilS]) 2 rfl 0 rfl (lb rfl) w S) ts27) (ar_cons (resT rfl) (ar_cons (resA rfl tu29 rfl (box_ptr (cells := [.i6 0, .i6 0]) 1 rfl 0 rfl (lb rfl) w S) ts29) ar_nil)))) ?_
       replace S : St g6 [] fr w := St.tail [] _ S
       exact ⟨_, rfl, g6, (nilS), (nilS), (nilS), (nilS), (((l1.trans l3).trans l5).trans l6), S, (RepSl.nil _), (RepSl.nil _), (RepSl.nil _), (RepSl.nil _), rfl⟩

theorem changeforgelaw2_TreecommuteMatchesSpec_ok {g : Gh} {fr : Hl} {w : World} {r : Bool} (a_ : TreeChange) (va_1 : Value) (ha_1 : RepSl g a_.Lines va_1) (va_2 : Value) (ha_2 : RepSl g a_.Patch.Hunks va_2) (b_ : TreeChange) (vb_1 : Value) (hb_1 : RepSl g b_.Lines vb_1) (vb_2 : Value) (hb_2 : RepSl g b_.Patch.Hunks vb_2) (S : St g [] fr w) (hm : changeforgelaw2_TreecommuteMatchesSpec a_ b_ = some r) :
  Calls Tryd.prog 3 [.agg #[.i6 a_.Kind, .string a_.Path, .string a_.To, va_1, va_2], .agg #[.i6 b_.Kind, .string b_.Path, .string b_.To, vb_1, vb_2]].toArray w (fun en w' => ∃ v, en = .returned v ∧ ∃ (g' : Gh), Le g g' ∧ St g' [] fr w' ∧ .bool r = v) := by
 unfold changeforgelaw2_TreecommuteMatchesSpec at hm
 refine calls_enter (fn := Tryd.f3) Tryd.func3 rfl Tryd.ntmps3 (lb rfl) ?_
 intro a F
 replace F : Fr 50 a [(0, .agg #[.i6 a_.Kind, .string a_.Path, .string a_.To, va_1, va_2]), (1, .agg #[.i6 b_.Kind, .string b_.Path, .string b_.To, vb_1, vb_2])] := F
 refine wp_seq ?_
 refine wp_region_lit ?_
 refine wl_boxC (wn rfl) rfl rfl rfl F S rfl rfl ?_; clear F a S; rintro b1 a w F S
 refine wl_boxC (wn rfl) rfl rfl rfl F S rfl rfl ?_; clear F a S; rintro b2 a w F S
 refine wE (ev_assign rfl) F S rfl fun a F=>?_
 refine wpList_nil ?_
 refine then_n ?_
 refine wp_seq ?_
 refine wp_region_lit ?_
 refine wE (ev_loadA tu27 rfl (cs := [.i6 a_.Kind, .string a_.Path, .string a_.To, va_1, va_2]) ts27 rfl (box_ptr (cells := [.i6 a_.Kind, .string a_.Path, .string a_.To, va_1, va_2]) 1 rfl 0 rfl (lb rfl))) F S rfl fun a F=>?_
 refine wE (ev_loadA tu27 rfl (cs := [.i6 b_.Kind, .string b_.Path, .string b_.To, vb_1, vb_2]) ts27 rfl (box_ptr (cells := [.i6 b_.Kind, .string b_.Path, .string b_.To, vb_1, vb_2]) 0 rfl 0 rfl (lb rfl))) F S rfl fun a F=>?_
 obtain ⟨y1, hy1, hm⟩ := bind_some hm
 refine wl_call0 (wn rfl) rfl F rfl (treecommute_Commute_ok (fr := (fl [[bx b2 #[.i6 b_.Kind, .string b_.Path, .string b_.To, vb_1, vb_2] 27], [bx b1 #[.i6 a_.Kind, .string a_.Path, .string a_.To, va_1, va_2] 27]] fr)) a_ va_1 ha_1 va_2 ha_2 b_ vb_1 hb_1 vb_2 hb_2 S hy1) rfl tc12 rfl rfl ?_; clear F a S
 rintro _ a w ⟨g1, v1, v2, v3, v4, l1, S, h1, h2, h3, h4, rfl⟩ F; replace S : St g1 [[bx b2 #[.i6 b_.Kind, .string b_.Path, .string b_.To, vb_1, vb_2] 27], [bx b1 #[.i6 a_.Kind, .string a_.Path, .string a_.To, va_1, va_2] 27]] fr w := S
 refine wE (ev_move rfl) F S rfl fun a F=>?_
 refine wE (ev_extract rfl rfl) F S rfl fun a F=>?_
 refine wE (ev_extract rfl rfl) F S rfl fun a F=>?_
 refine wE (ev_extract rfl rfl) F S rfl fun a F=>?_
 refine wE (ev_extract rfl rfl) F S rfl fun a F=>?_
 refine wl_alloc (wn rfl) rfl tz27 (cs := [.i6 0, .string ByteArray.empty, .string ByteArray.empty, nilS, nilS]) rfl F S rfl rfl ?_; clear F a S; rintro b3 a w F S
 refine wl_alloc (wn rfl) rfl tz27 (cs := [.i6 0, .string ByteArray.empty, .string ByteArray.empty, nilS, nilS]) rfl F S rfl rfl ?_; clear F a S; rintro b4 a w F S
 refine wl_alloc (wn rfl) rfl tz29 (cs := [.i6 0, .i6 0]) rfl F S rfl rfl ?_; clear F a S; rintro b5 a w F S
 refine wl_storeC (wn rfl) rfl F S rfl rfl (vs := [.i6 y1.1.Kind, .string y1.1.Path, .string y1.1.To, v1, v2]) rfl ts27 (one_cons rfl (one_cons rfl (one_cons rfl (one_cons h1.one (one_cons h2.one one_nil))))) (k := 2) rfl (lb rfl) (c' := #[.i6 y1.1.Kind, .string y1.1.Path, .string y1.1.To, v1, v2]) rfl rfl ?_; clear S; intro w S
 refine wl_storeC (wn rfl) rfl F S rfl rfl (vs := [.i6 y1.2.1.Kind, .string y1.2.1.Path, .string y1.2.1.To, v3, v4]) rfl ts27 (one_cons rfl (one_cons rfl (one_cons rfl (one_cons h3.one (one_cons h4.one one_nil))))) (k := 1) rfl (lb rfl) (c' := #[.i6 y1.2.1.Kind, .string y1.2.1.Path, .string y1.2.1.To, v3, v4]) rfl rfl ?_; clear S; intro w S
 refine wE (ev_assign rfl) F S rfl fun a F=>?_
 refine wl_storeC (wn rfl) rfl F S rfl rfl (vs := [.i6 y1.2.2.2.Code, .i6 y1.2.2.2.Index]) rfl ts29 (one_cons rfl (one_cons rfl one_nil)) (k := 0) rfl (lb rfl) (c' := #[.i6 y1.2.2.2.Code, .i6 y1.2.2.2.Index]) rfl rfl ?_; clear S; intro w S
 refine wpList_nil ?_
 refine then_n ?_
 refine wp_seq ?_
 refine wp_region_lit ?_
 refine wE (ev_loadA tu27 rfl (cs := [.i6 a_.Kind, .string a_.Path, .string a_.To, va_1, va_2]) ts27 rfl (box_ptr (cells := [.i6 a_.Kind, .string a_.Path, .string a_.To, va_1, va_2]) 4 rfl 0 rfl (lb rfl))) F S rfl fun a F=>?_
 refine wE (ev_loadA tu27 rfl (cs := [.i6 b_.Kind, .string b_.Path, .string b_.To, vb_1, vb_2]) ts27 rfl (box_ptr (cells := [.i6 b_.Kind, .string b_.Path, .string b_.To, vb_1, vb_2]) 3 rfl 0 rfl (lb rfl))) F S rfl fun a F=>?_
 obtain ⟨y2, hy2, hm⟩ := bind_some hm
 refine wl_call0 (wn rfl) rfl F rfl (changeforgeref2_CommuteChanges_ok (fr := (fl [[bx b5 #[.i6 y1.2.2.2.Code, .i6 y1.2.2.2.Index] 29], [bx b4 #[.i6 y1.2.1.Kind, .string y1.2.1.Path, .string y1.2.1.To, v3, v4] 27], [bx b3 #[.i6 y1.1.Kind, .string y1.1.Path, .string y1.1.To, v1, v2] 27], [bx b2 #[.i6 b_.Kind, .string b_.Path, .string b_.To, vb_1, vb_2] 27], [bx b1 #[.i6 a_.Kind, .string a_.Path, .string a_.To, va_1, va_2] 27]] fr)) a_ va_1 (ha_1.mono l1) va_2 (ha_2.mono l1) b_ vb_1 (hb_1.mono l1) vb_2 (hb_2.mono l1) S hy2) rfl tc13 rfl rfl ?_; clear F a S
 rintro _ a w ⟨g2, v5, v6, v7, v8, l2, S, h5, h6, h7, h8, rfl⟩ F; replace S : St g2 [[bx b5 #[.i6 y1.2.2.2.Code, .i6 y1.2.2.2.Index] 29], [bx b4 #[.i6 y1.2.1.Kind, .string y1.2.1.Path, .string y1.2.1.To, v3, v4] 27], [bx b3 #[.i6 y1.1.Kind, .string y1.1.Path, .string y1.1.To, v1, v2] 27], [bx b2 #[.i6 b_.Kind, .string b_.Path, .string b_.To, vb_1, vb_2] 27], [bx b1 #[.i6 a_.Kind, .string a_.Path, .string a_.To, va_1, va_2] 27]] fr w := S
 refine wE (ev_move rfl) F S rfl fun a F=>?_
 refine wE (ev_extract rfl rfl) F S rfl fun a F=>?_
 refine wE (ev_extract rfl rfl) F S rfl fun a F=>?_
 refine wE (ev_extract rfl rfl) F S rfl fun a F=>?_
 refine wE (ev_extract rfl rfl) F S rfl fun a F=>?_
 refine wl_alloc (wn rfl) rfl tz27 (cs := [.i6 0, .string ByteArray.empty, .string ByteArray.empty, nilS, nilS]) rfl F S rfl rfl ?_; clear F a S; rintro b6 a w F S
 refine wl_alloc (wn rfl) rfl tz27 (cs := [.i6 0, .string ByteArray.empty, .string ByteArray.empty, nilS, nilS]) rfl F S rfl rfl ?_; clear F a S; rintro b7 a w F S
 refine wl_alloc (wn rfl) rfl tz29 (cs := [.i6 0, .i6 0]) rfl F S rfl rfl ?_; clear F a S; rintro b8 a w F S
 refine wl_storeC (wn rfl) rfl F S rfl rfl (vs := [.i6 y2.1.Kind, .string y2.1.Path, .string y2.1.To, v5, v6]) rfl ts27 (one_cons rfl (one_cons rfl (one_cons rfl (one_cons h5.one (one_cons h6.one one_nil))))) (k := 2) rfl (lb rfl) (c' := #[.i6 y2.1.Kind, .string y2.1.Path, .string y2.1.To, v5, v6]) rfl rfl ?_; clear S; intro w S
 refine wl_storeC (wn rfl) rfl F S rfl rfl (vs := [.i6 y2.2.1.Kind, .string y2.2.1.Path, .string y2.2.1.To, v7, v8]) rfl ts27 (one_cons rfl (one_cons rfl (one_cons rfl (one_cons h7.one (one_cons h8.one one_nil))))) (k := 1) rfl (lb rfl) (c' := #[.i6 y2.2.1.Kind, .string y2.2.1.Path, .string y2.2.1.To, v7, v8]) rfl rfl ?_; clear S; intro w S
 refine wE (ev_assign rfl) F S rfl fun a F=>?_
 refine wl_storeC (wn rfl) rfl F S rfl rfl (vs := [.i6 y2.2.2.2.Code, .i6 y2.2.2.2.Index]) rfl ts29 (one_cons rfl (one_cons rfl one_nil)) (k := 0) rfl (lb rfl) (c' := #[.i6 y2.2.2.2.Code, .i6 y2.2.2.2.Index]) rfl rfl ?_; clear S; intro w S
 refine wpList_nil ?_
 refine then_n ?_
 refine wp_seq ?_
 refine wp_region_lit ?_
 refine wE (ev_loadA tu27 rfl (cs := [.i6 y1.1.Kind, .string y1.1.Path, .string y1.1.To, v1, v2]) ts27 rfl (box_ptr (cells := [.i6 y1.1.Kind, .string y1.1.Path, .string y1.1.To, v1, v2]) 5 rfl 0 rfl (lb rfl))) F S rfl fun a F=>?_
 refine wE (ev_loadA tu27 rfl (cs := [.i6 y2.1.Kind, .string y2.1.Path, .string y2.1.To, v5, v6]) ts27 rfl (box_ptr (cells := [.i6 y2.1.Kind, .string y2.1.Path, .string y2.1.To, v5, v6]) 2 rfl 0 rfl (lb rfl))) F S rfl fun a F=>?_
 obtain ⟨y3, hy3, hm⟩ := bind_some hm
 refine wl_call0 (wn rfl) rfl F rfl (changeforgeequal_Change_ok (fr := (fl [[bx b8 #[.i6 y2.2.2.2.Code, .i6 y2.2.2.2.Index] 29], [bx b7 #[.i6 y2.2.1.Kind, .string y2.2.1.Path, .string y2.2.1.To, v7, v8] 27], [bx b6 #[.i6 y2.1.Kind, .string y2.1.Path, .string y2.1.To, v5, v6] 27], [bx b5 #[.i6 y1.2.2.2.Code, .i6 y1.2.2.2.Index] 29], [bx b4 #[.i6 y1.2.1.Kind, .string y1.2.1.Path, .string y1.2.1.To, v3, v4] 27], [bx b3 #[.i6 y1.1.Kind, .string y1.1.Path, .string y1.1.To, v1, v2] 27], [bx b2 #[.i6 b_.Kind, .string b_.Path, .string b_.To, vb_1, vb_2] 27], [bx b1 #[.i6 a_.Kind, .string a_.Path, .string a_.To, va_1, va_2] 27]] fr)) y1.1 v1 (h1.mono l2) v2 (h2.mono l2) y2.1 v5 h5 v6 h6 S hy3) rfl tc14 rfl rfl ?_; clear F a S
 rintro _ a w ⟨g3, l3, S, rfl⟩ F; replace S : St g3 [[bx b8 #[.i6 y2.2.2.2.Code, .i6 y2.2.2.2.Index] 29], [bx b7 #[.i6 y2.2.1.Kind, .string y2.2.1.Path, .string y2.2.1.To, v7, v8] 27], [bx b6 #[.i6 y2.1.Kind, .string y2.1.Path, .string y2.1.To, v5, v6] 27], [bx b5 #[.i6 y1.2.2.2.Code, .i6 y1.2.2.2.Index] 29], [bx b4 #[.i6 y1.2.1.Kind, .string y1.2.1.Path, .string y1.2.1.To, v3, v4] 27], [bx b3 #[.i6 y1.1.Kind, .string y1.1.Path, .string y1.1.To, v1, v2] 27], [bx b2 #[.i6 b_.Kind, .string b_.Path, .string b_.To, vb_1, vb_2] 27], [bx b1 #[.i6 a_.Kind, .string a_.Path, .string a_.To, va_1, va_2] 27]] fr w := S
 refine wE (ev_move rfl) F S rfl fun a F=>?_
 obtain ⟨x1, hx1, hm⟩ := bind_some hm
 refine wl_cut 4 (fun a w => ∃ g4, Fr 50 a [(36, .bool x1), (11, .bool y2.2.2.1), (12, bp b8 0), (7, .bool y1.2.2.1), (8, bp b5 0), (4, .bool false)] ∧ Le g3 g4 ∧ St g4 [[bx b8 #[.i6 y2.2.2.2.Code, .i6 y2.2.2.2.Index] 29], [bx b7 #[.i6 y2.2.1.Kind, .string y2.2.1.Path, .string y2.2.1.To, v7, v8] 27], [bx b6 #[.i6 y2.1.Kind, .string y2.1.Path, .string y2.1.To, v5, v6] 27], [bx b5 #[.i6 y1.2.2.2.Code, .i6 y1.2.2.2.Index] 29], [bx b4 #[.i6 y1.2.1.Kind, .string y1.2.1.Path, .string y1.2.1.To, v3, v4] 27], [bx b3 #[.i6 y1.1.Kind, .string y1.1.Path, .string y1.1.To, v1, v2] 27], [bx b2 #[.i6 b_.Kind, .string b_.Path, .string b_.To, vb_1, vb_2] 27], [bx b1 #[.i6 a_.Kind, .string a_.Path, .string a_.To, va_1, va_2] 27]] fr w) ?_ ?_
 ·clear hm; obtain ⟨hc1, hm⟩ | ⟨hc1, hm⟩ := ite_or hx1
  ·refine wl_ev (wg F rfl rfl rfl rfl hc1) (ev_loadA tu27 rfl (cs := [.i6 y1.2.1.Kind, .string y1.2.1.Path, .string y1.2.1.To, v3, v4]) ts27 rfl (box_ptr (cells := [.i6 y1.2.1.Kind, .string y1.2.1.Path, .string y1.2.1.To, v3, v4]) 4 rfl 0 rfl (lb rfl))) F S rfl rfl ?_; clear F a; intro a F
   refine wl_ev (wg F rfl rfl rfl rfl hc1) (ev_loadA tu27 rfl (cs := [.i6 y2.2.1.Kind, .string y2.2.1.Path, .string y2.2.1.To, v7, v8]) ts27 rfl (box_ptr (cells := [.i6 y2.2.1.Kind, .string y2.2.1.Path, .string y2.2.1.To, v7, v8]) 1 rfl 0 rfl (lb rfl))) F S rfl rfl ?_; clear F a; intro a F
   obtain ⟨y4, hy4, hm⟩ := bind_some hm
   refine wl_call0 (wg F rfl rfl rfl rfl hc1) rfl F rfl (changeforgeequal_Change_ok (fr := (fl [[bx b8 #[.i6 y2.2.2.2.Code, .i6 y2.2.2.2.Index] 29], [bx b7 #[.i6 y2.2.1.Kind, .string y2.2.1.Path, .string y2.2.1.To, v7, v8] 27], [bx b6 #[.i6 y2.1.Kind, .string y2.1.Path, .string y2.1.To, v5, v6] 27], [bx b5 #[.i6 y1.2.2.2.Code, .i6 y1.2.2.2.Index] 29], [bx b4 #[.i6 y1.2.1.Kind, .string y1.2.1.Path, .string y1.2.1.To, v3, v4] 27], [bx b3 #[.i6 y1.1.Kind, .string y1.1.Path, .string y1.1.To, v1, v2] 27], [bx b2 #[.i6 b_.Kind, .string b_.Path, .string b_.To, vb_1, vb_2] 27], [bx b1 #[.i6 a_.Kind, .string a_.Path, .string a_.To, va_1, va_2] 27]] fr)) y1.2.1 v3 (h3.mono (l2.trans l3)) v4 (h4.mono (l2.trans l3)) y2.2.1 v7 (h7.mono l3) v8 (h8.mono l3) S hy4) rfl tc14 rfl rfl ?_; clear F a S
   rintro _ a w ⟨g5, l5, S, rfl⟩ F; replace S : St g5 [[bx b8 #[.i6 y2.2.2.2.Code, .i6 y2.2.2.2.Index] 29], [bx b7 #[.i6 y2.2.1.Kind, .string y2.2.1.Path, .string y2.2.1.To, v7, v8] 27], [bx b6 #[.i6 y2.1.Kind, .string y2.1.Path, .string y2.1.To, v5, v6] 27], [bx b5 #[.i6 y1.2.2.2.Code, .i6 y1.2.2.2.Index] 29], [bx b4 #[.i6 y1.2.1.Kind, .string y1.2.1.Path, .string y1.2.1.To, v3, v4] 27], [bx b3 #[.i6 y1.1.Kind, .string y1.1.Path, .string y1.1.To, v1, v2] 27], [bx b2 #[.i6 b_.Kind, .string b_.Path, .string b_.To, vb_1, vb_2] 27], [bx b1 #[.i6 a_.Kind, .string a_.Path, .string a_.To, va_1, va_2] 27]] fr w := S
   refine wE (ev_pickT rfl hc1 rfl) F S rfl fun a F=>?_
   obtain rfl := sinj hm
   refine wpList_nil (then_n ?_); exact ⟨g5, F.sub ⟨rfl, rfl, rfl, rfl, rfl, rfl, trivial⟩, l5, S⟩
  ·refine wl_skip rfl rfl rfl rfl (ne_tf hc1) F rfl rfl ?_; clear F a; intro a F
   refine wl_skip rfl rfl rfl rfl (ne_tf hc1) F rfl rfl ?_; clear F a; intro a F
   refine wl_skip rfl rfl rfl rfl (ne_tf hc1) F rfl rfl ?_; clear F a; intro a F
   refine wE (ev_pickF rfl hc1 rfl) F S rfl fun a F=>?_
   obtain rfl := sinj hm
   refine wpList_nil (then_n ?_); exact ⟨g3, F.sub ⟨rfl, rfl, rfl, rfl, rfl, rfl, trivial⟩, (Le.refl _), S⟩
 clear F S; rintro a w ⟨g4, F, l4, S⟩
 refine wE (ev_move rfl) F S rfl fun a F=>?_
 obtain ⟨x2, hx2, hm⟩ := bind_some hm
 refine wl_cut 4 (fun a w' => w = w' ∧ Fr 50 a [(41, .bool x2), (12, bp b8 0), (8, bp b5 0), (4, .bool false)]) ?_ ?_
 ·clear hm; obtain ⟨hc2, hm⟩ | ⟨hc2, hm⟩ := ite_or hx2
  ·refine wl_ev (wg F rfl rfl rfl rfl hc2) (ev_move rfl) F S rfl rfl ?_; clear F a; intro a F
   refine wl_ev (wg F rfl rfl rfl rfl hc2) (ev_move rfl) F S rfl rfl ?_; clear F a; intro a F
   refine wl_ev (wg F rfl rfl rfl rfl hc2) (ev_eqB tu4 rfl rfl) F S rfl rfl ?_; clear F a; intro a F
   refine wE (ev_pickT rfl hc2 rfl) F S rfl fun a F=>?_
   obtain rfl := sinj hm
   refine wpList_nil (then_n ?_); exact ⟨rfl, F.sub ⟨rfl, rfl, rfl, rfl, trivial⟩⟩
  ·refine wl_skip rfl rfl rfl rfl (ne_tf hc2) F rfl rfl ?_; clear F a; intro a F
   refine wl_skip rfl rfl rfl rfl (ne_tf hc2) F rfl rfl ?_; clear F a; intro a F
   refine wl_skip rfl rfl rfl rfl (ne_tf hc2) F rfl rfl ?_; clear F a; intro a F
   refine wE (ev_pickF rfl hc2 rfl) F S rfl fun a F=>?_
   obtain rfl := sinj hm
   refine wpList_nil (then_n ?_); exact ⟨rfl, F.sub ⟨rfl, rfl, rfl, rfl, trivial⟩⟩
 clear F; rintro a w' ⟨rfl, F⟩
 refine wE (ev_move rfl) F S rfl fun a F=>?_
 obtain ⟨x3, hx3, hm⟩ := bind_some hm
 refine wl_cut 4 (fun a w' => w = w' ∧ Fr 50 a [(46, .bool x3), (4, .bool false)]) ?_ ?_
 ·clear hm; obtain ⟨hc3, hm⟩ | ⟨hc3, hm⟩ := ite_or hx3
  ·refine wl_ev (wg F rfl rfl rfl rfl hc3) (ev_loadA tu29 rfl (cs := [.i6 y1.2.2.2.Code, .i6 y1.2.2.2.Index]) ts29 rfl (box_ptr (cells := [.i6 y1.2.2.2.Code, .i6 y1.2.2.2.Index]) 3 rfl 0 rfl (lb rfl))) F S rfl rfl ?_; clear F a; intro a F
   refine wl_ev (wg F rfl rfl rfl rfl hc3) (ev_loadA tu29 rfl (cs := [.i6 y2.2.2.2.Code, .i6 y2.2.2.2.Index]) ts29 rfl (box_ptr (cells := [.i6 y2.2.2.2.Code, .i6 y2.2.2.2.Index]) 0 rfl 0 rfl (lb rfl))) F S rfl rfl ?_; clear F a; intro a F
   refine wl_ev (wg F rfl rfl rfl rfl hc3) (ev_eqS tu29 tqa29 tqb29 tqc29 (xs := [.i6 y1.2.2.2.Code, .i6 y1.2.2.2.Index]) (ys := [.i6 y2.2.2.2.Code, .i6 y2.2.2.2.Index]) rfl rfl ⟨_, _, rfl, by decide, ⟨_, _, rfl, rfl, leaf_int tu3⟩, ⟨_, _, rfl, by decide, ⟨_, _, rfl, rfl, leaf_int tu3⟩, rfl⟩⟩) F S rfl rfl ?_; clear F a; intro a F
   refine wE (ev_pickT rfl hc3 rfl) F S rfl fun a F=>?_
   obtain rfl := sinj hm
   refine wpList_nil (then_n ?_); exact ⟨rfl, F.sub ⟨rfl, rfl, trivial⟩⟩
  ·refine wl_skip rfl rfl rfl rfl (ne_tf hc3) F rfl rfl ?_; clear F a; intro a F
   refine wl_skip rfl rfl rfl rfl (ne_tf hc3) F rfl rfl ?_; clear F a; intro a F
   refine wl_skip rfl rfl rfl rfl (ne_tf hc3) F rfl rfl ?_; clear F a; intro a F
   refine wE (ev_pickF rfl hc3 rfl) F S rfl fun a F=>?_
   obtain rfl := sinj hm
   refine wpList_nil (then_n ?_); exact ⟨rfl, F.sub ⟨rfl, rfl, trivial⟩⟩
 clear F; rintro a w' ⟨rfl, F⟩
 refine wE (ev_move rfl) F S rfl fun a F=>?_
 obtain ⟨x4, hx4, hm⟩ := bind_some hm
 refine wl_cut 2 (fun a w => ∃ g6, Fr 50 a [(49, .bool x4), (4, .bool false)] ∧ Le g4 g6 ∧ St g6 [[bx b8 #[.i6 y2.2.2.2.Code, .i6 y2.2.2.2.Index] 29], [bx b7 #[.i6 y2.2.1.Kind, .string y2.2.1.Path, .string y2.2.1.To, v7, v8] 27], [bx b6 #[.i6 y2.1.Kind, .string y2.1.Path, .string y2.1.To, v5, v6] 27], [bx b5 #[.i6 y1.2.2.2.Code, .i6 y1.2.2.2.Index] 29], [bx b4 #[.i6 y1.2.1.Kind, .string y1.2.1.Path, .string y1.2.1.To, v3, v4] 27], [bx b3 #[.i6 y1.1.Kind, .string y1.1.Path, .string y1.1.To, v1, v2] 27], [bx b2 #[.i6 b_.Kind, .string b_.Path, .string b_.To, vb_1, vb_2] 27], [bx b1 #[.i6 a_.Kind, .string a_.Path, .string a_.To, va_1, va_2] 27]] fr w) ?_ ?_
 ·clear hm; obtain ⟨hc4, hm⟩ | ⟨hc4, hm⟩ := ite_or hx4
  ·obtain ⟨y5, hy5, hm⟩ := bind_some hm
   refine wl_call0 (wg F rfl rfl rfl rfl hc4) rfl F rfl (changeforgelaw2_followed_ok (fr := (fl [[bx b8 #[.i6 y2.2.2.2.Code, .i6 y2.2.2.2.Index] 29], [bx b7 #[.i6 y2.2.1.Kind, .string y2.2.1.Path, .string y2.2.1.To, v7, v8] 27], [bx b6 #[.i6 y2.1.Kind, .string y2.1.Path, .string y2.1.To, v5, v6] 27], [bx b5 #[.i6 y1.2.2.2.Code, .i6 y1.2.2.2.Index] 29], [bx b4 #[.i6 y1.2.1.Kind, .string y1.2.1.Path, .string y1.2.1.To, v3, v4] 27], [bx b3 #[.i6 y1.1.Kind, .string y1.1.Path, .string y1.1.To, v1, v2] 27], [bx b2 #[.i6 b_.Kind, .string b_.Path, .string b_.To, vb_1, vb_2] 27], [bx b1 #[.i6 a_.Kind, .string a_.Path, .string a_.To, va_1, va_2] 27]] fr))  S hy5) rfl tc15 rfl rfl ?_; clear F a S
   rintro _ a w ⟨g7, l7, S, rfl⟩ F; replace S : St g7 [[bx b8 #[.i6 y2.2.2.2.Code, .i6 y2.2.2.2.Index] 29], [bx b7 #[.i6 y2.2.1.Kind, .string y2.2.1.Path, .string y2.2.1.To, v7, v8] 27], [bx b6 #[.i6 y2.1.Kind, .string y2.1.Path, .string y2.1.To, v5, v6] 27], [bx b5 #[.i6 y1.2.2.2.Code, .i6 y1.2.2.2.Index] 29], [bx b4 #[.i6 y1.2.1.Kind, .string y1.2.1.Path, .string y1.2.1.To, v3, v4] 27], [bx b3 #[.i6 y1.1.Kind, .string y1.1.Path, .string y1.1.To, v1, v2] 27], [bx b2 #[.i6 b_.Kind, .string b_.Path, .string b_.To, vb_1, vb_2] 27], [bx b1 #[.i6 a_.Kind, .string a_.Path, .string a_.To, va_1, va_2] 27]] fr w := S
   refine wE (ev_pickT rfl hc4 rfl) F S rfl fun a F=>?_
   obtain rfl := sinj hm
   refine wpList_nil (then_n ?_); exact ⟨g7, F.sub ⟨rfl, rfl, trivial⟩, l7, S⟩
  ·refine wl_skip rfl rfl rfl rfl (ne_tf hc4) F rfl rfl ?_; clear F a; intro a F
   refine wE (ev_pickF rfl hc4 rfl) F S rfl fun a F=>?_
   obtain rfl := sinj hm
   refine wpList_nil (then_n ?_); exact ⟨g4, F.sub ⟨rfl, rfl, trivial⟩, (Le.refl _), S⟩
 clear F S; rintro a w ⟨g6, F, l6, S⟩
 refine wE (ev_assign rfl) F S rfl fun a F=>?_
 refine wpList_nil ?_
 refine then_n ?_
 refine wp_ret ?_
 obtain rfl := sinj hm
 refine post_r _ F rfl (ar_cons (resT rfl) ar_nil) ?_
 replace S : St g6 [] fr w := St.tail [] _ S
 exact ⟨_, rfl, g6, ((((l1.trans l2).trans l3).trans l4).trans l6), S, rfl⟩
end Go.Dc
