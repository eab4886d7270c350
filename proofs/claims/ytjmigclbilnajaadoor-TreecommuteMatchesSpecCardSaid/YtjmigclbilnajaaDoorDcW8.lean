/- Walks: each function comes to what its model says. -/
import Derived.Test.YtjmigclbilnajaaDoorDcTab
import Derived.Test.YtjmigclbilnajaaDoorDcM
import Derived.Test.YtjmigclbilnajaaDoorDcW3
namespace Go.Dc
open Go Go.Proofs
set_option maxRecDepth 100000
set_option maxHeartbeats 4000000
set_option linter.unusedVariables false
theorem changeforgeref2_Touches_ok {g : Gh} {fr : Hl} {w : World} {r : Bool} (c_ : TreeChange) (vc_1 : Value) (hc_1 : RepSl g c_.Lines vc_1) (vc_2 : Value) (hc_2 : RepSl g c_.Patch.Hunks vc_2) (path : ByteArray) (S : St g [] fr w) (hm : changeforgeref2_Touches c_ path = some r) :
  Calls Tryd.prog 37 [.agg #[.i6 c_.Kind, .string c_.Path, .string c_.To, vc_1, vc_2], .string path].toArray w (fun en w' => ∃ v, en = .returned v ∧ ∃ (g' : Gh), Le g g' ∧ St g' [] fr w' ∧ .bool r = v) := by
 unfold changeforgeref2_Touches at hm
 refine calls_enter (fn := Tryd.f37) Tryd.func37 rfl Tryd.ntmps37 (lb rfl) ?_
 intro a F
 replace F : Fr 20 a [(0, .agg #[.i6 c_.Kind, .string c_.Path, .string c_.To, vc_1, vc_2]), (1, .string path)] := F
 refine wp_seq ?_
 refine wp_region_lit ?_
 refine wl_boxC (wn rfl) rfl rfl rfl F S rfl rfl ?_; clear F a S; rintro b1 a w F S
 refine wE (ev_assign rfl) F S rfl fun a F=>?_
 refine wpList_nil ?_
 refine then_n ?_
 refine wp_seq ?_
 refine wp_region_lit ?_
 refine wE (ev_fieldAddr' tu27 tf27_1 (z := 0) ts9 rfl ⟨_, rfl⟩ rfl) F S rfl fun a F=>?_
 refine wE (ev_load1 tu9 rfl rfl (box_ptr (cells := [.string c_.Path]) 0 rfl 1 rfl (lb rfl))) F S rfl fun a F=>?_
 refine wE (ev_move rfl) F S rfl fun a F=>?_
 obtain ⟨y1, hy1, hm⟩ := bind_some hm
 refine wl_call0 (wn rfl) rfl F rfl (changeforgeref2_Related_ok (fr := (fl [[bx b1 #[.i6 c_.Kind, .string c_.Path, .string c_.To, vc_1, vc_2] 27]] fr)) c_.Path path S hy1) rfl tc55 rfl rfl ?_; clear F a S
 rintro _ a w ⟨g1, l1, S, rfl⟩ F; replace S : St g1 [[bx b1 #[.i6 c_.Kind, .string c_.Path, .string c_.To, vc_1, vc_2] 27]] fr w := S
 refine wE (ev_move rfl) F S rfl fun a F=>?_
 obtain ⟨x1, hx1, hm⟩ := bind_some hm
 refine wl_cut 10 (fun a w => ∃ g2, Fr 20 a [(19, .bool x1), (4, .bool false)] ∧ Le g1 g2 ∧ St g2 [[bx b1 #[.i6 c_.Kind, .string c_.Path, .string c_.To, vc_1, vc_2] 27]] fr w) ?_ ?_
 ·clear hm; obtain ⟨hc1, hm⟩ | ⟨hc1, hm⟩ := ite_or hx1
  ·refine wl_skip rfl rfl rfl rfl (ne_ft hc1) F rfl rfl ?_; clear F a; intro a F
   refine wl_skip rfl rfl rfl rfl (ne_ft hc1) F rfl rfl ?_; clear F a; intro a F
   refine wl_skip rfl rfl rfl rfl (ne_ft hc1) F rfl rfl ?_; clear F a; intro a F
   refine wl_skip rfl rfl rfl rfl (ne_ft hc1) F rfl rfl ?_; clear F a; intro a F
   refine wl_skipu rfl rfl rfl rfl F rfl rfl ?_; clear F a; intro a F
   refine wl_skipu rfl rfl rfl rfl F rfl rfl ?_; clear F a; intro a F
   refine wl_skipu rfl rfl rfl rfl F rfl rfl ?_; clear F a; intro a F
   refine wl_skipu rfl rfl rfl rfl F rfl rfl ?_; clear F a; intro a F
   refine wl_skip rfl rfl rfl rfl (ne_ft hc1) F rfl rfl ?_; clear F a; intro a F
   refine wE (ev_pickT rfl hc1 rfl) F S rfl fun a F=>?_
   obtain rfl := sinj hm
   refine wpList_nil (then_n ?_); exact ⟨g1, F.sub ⟨rfl, rfl, trivial⟩, (Le.refl _), S⟩
  ·refine wl_ev (wg F rfl rfl rfl rfl hc1) (ev_fieldAddr' tu27 tf27_0 (z := 0) ts3 rfl ⟨_, rfl⟩ rfl) F S rfl rfl ?_; clear F a; intro a F
   refine wl_ev (wg F rfl rfl rfl rfl hc1) (ev_load1 tu3 rfl rfl (box_ptr (cells := [.i6 c_.Kind]) 0 rfl 0 rfl (lb rfl))) F S rfl rfl ?_; clear F a; intro a F
   refine wl_ev (wg F rfl rfl rfl rfl hc1) (ev_int rfl rfl (bo_eql _ _ _ _)) F S rfl rfl ?_; clear F a; intro a F
   refine wl_ev (wg F rfl rfl rfl rfl hc1) (ev_move rfl) F S rfl rfl ?_; clear F a; intro a F
   obtain ⟨x2, hx2, hm⟩ := bind_some hm
   refine wl_cut 5 (fun a w => ∃ g3, Fr 20 a [(18, .bool x2), (9, .bool y1), (4, .bool false)] ∧ Le g1 g3 ∧ St g3 [[bx b1 #[.i6 c_.Kind, .string c_.Path, .string c_.To, vc_1, vc_2] 27]] fr w) ?_ ?_
   ·clear hm; obtain ⟨hc2, hm⟩ | ⟨hc2, hm⟩ := ite_or hx2
    ·refine wl_ev (wg F rfl rfl rfl rfl hc2) (ev_fieldAddr' tu27 tf27_2 (z := 0) ts9 rfl ⟨_, rfl⟩ rfl) F S rfl rfl ?_; clear F a; intro a F
     refine wl_ev (wg F rfl rfl rfl rfl hc2) (ev_load1 tu9 rfl rfl (box_ptr (cells := [.string c_.To]) 0 rfl 2 rfl (lb rfl))) F S rfl rfl ?_; clear F a; intro a F
     refine wl_ev (wg F rfl rfl rfl rfl hc2) (ev_move rfl) F S rfl rfl ?_; clear F a; intro a F
     obtain ⟨y2, hy2, hm⟩ := bind_some hm
     refine wl_call0 (wg F rfl rfl rfl rfl hc2) rfl F rfl (changeforgeref2_Related_ok (fr := (fl [[bx b1 #[.i6 c_.Kind, .string c_.Path, .string c_.To, vc_1, vc_2] 27]] fr)) c_.To path S hy2) rfl tc55 rfl rfl ?_; clear F a S
     rintro _ a w ⟨g4, l4, S, rfl⟩ F; replace S : St g4 [[bx b1 #[.i6 c_.Kind, .string c_.Path, .string c_.To, vc_1, vc_2] 27]] fr w := S
     refine wl_ev (wg F rfl rfl rfl rfl hc1) (ev_pickT rfl hc2 rfl) F S rfl rfl ?_; clear F a; intro a F
     obtain rfl := sinj hm
     refine wpList_nil (then_n ?_); exact ⟨g4, F.sub ⟨rfl, rfl, rfl, trivial⟩, l4, S⟩
    ·refine wl_skip rfl rfl rfl rfl (ne_tf hc2) F rfl rfl ?_; clear F a; intro a F
     refine wl_skip rfl rfl rfl rfl (ne_tf hc2) F rfl rfl ?_; clear F a; intro a F
     refine wl_skip rfl rfl rfl rfl (ne_tf hc2) F rfl rfl ?_; clear F a; intro a F
     refine wl_skip rfl rfl rfl rfl (ne_tf hc2) F rfl rfl ?_; clear F a; intro a F
     refine wl_ev (wg F rfl rfl rfl rfl hc1) (ev_pickF rfl hc2 rfl) F S rfl rfl ?_; clear F a; intro a F
     obtain rfl := sinj hm
     refine wpList_nil (then_n ?_); exact ⟨g1, F.sub ⟨rfl, rfl, rfl, trivial⟩, (Le.refl _), S⟩
   clear F S; rintro a w ⟨g3, F, l3, S⟩
   refine wE (ev_pickF rfl hc1 rfl) F S rfl fun a F=>?_
   obtain rfl := sinj hm
   refine wpList_nil (then_n ?_); exact ⟨g3, F.sub ⟨rfl, rfl, trivial⟩, l3, S⟩
 clear F S; rintro a w ⟨g2, F, l2, S⟩
 refine wE (ev_assign rfl) F S rfl fun a F=>?_
 refine wpList_nil ?_
 refine then_n ?_
 refine wp_ret ?_
 obtain rfl := sinj hm
 refine post_r _ F rfl (ar_cons (resT rfl) ar_nil) ?_
 replace S : St g2 [] fr w := St.tail [] _ S
 exact ⟨_, rfl, g2, (l1.trans l2), S, rfl⟩

theorem changeforgeref1_Pair_ok {g : Gh} {fr : Hl} {w : World} {r : Fault} (p_ : Patch) (vp_1 : Value) (hp_1 : RepSl g p_.Hunks vp_1) (q_ : Patch) (vq_1 : Value) (hq_1 : RepSl g q_.Hunks vq_1) (S : St g [] fr w) (hm : changeforgeref1_Pair p_ q_ = some r) :
  Calls Tryd.prog 78 [.agg #[vp_1], .agg #[vq_1]].toArray w (fun en w' => ∃ v, en = .returned v ∧ ∃ (g' : Gh), Le g g' ∧ St g' [] fr w' ∧ .agg #[.i6 r.Code, .i6 r.Index] = v) := by
 unfold changeforgeref1_Pair at hm
 refine calls_enter (fn := Tryd.f78) Tryd.func78 rfl Tryd.ntmps78 (lb rfl) ?_
 intro a F
 replace F : Fr 22 a [(0, .agg #[vp_1]), (1, .agg #[vq_1])] := F
 refine wp_seq ?_
 refine wp_region_lit ?_
 refine wl_boxC (wn rfl) rfl rfl rfl F S rfl rfl ?_; clear F a S; rintro b1 a w F S
 refine wl_boxC (wn rfl) rfl rfl rfl F S rfl rfl ?_; clear F a S; rintro b2 a w F S
 refine wl_alloc (wn rfl) rfl tz29 (cs := [.i6 0, .i6 0]) rfl F S rfl rfl ?_; clear F a S; rintro b3 a w F S
 refine wpList_nil ?_
 refine then_n ?_
 refine wp_seq ?_
 refine wp_region_lit ?_
 refine wE (ev_loadA tu25 rfl (cs := [vp_1]) ts25 rfl (box_ptr (cells := [vp_1]) 2 rfl 0 rfl (lb rfl))) F S rfl fun a F=>?_
 obtain ⟨y1, hy1, hm⟩ := bind_some hm
 refine wl_call0 (wn rfl) rfl F rfl (changeforgeref1_PatchFault_ok (fr := (fl [[bx b3 #[.i6 0, .i6 0] 29], [bx b2 #[vq_1] 25], [bx b1 #[vp_1] 25]] fr)) p_ vp_1 hp_1 S hy1) rfl tc77 rfl rfl ?_; clear F a S
 rintro _ a w ⟨g1, l1, S, rfl⟩ F; replace S : St g1 [[bx b3 #[.i6 0, .i6 0] 29], [bx b2 #[vq_1] 25], [bx b1 #[vp_1] 25]] fr w := S
 refine wl_alloc (wn rfl) rfl tz29 (cs := [.i6 0, .i6 0]) rfl F S rfl rfl ?_; clear F a S; rintro b4 a w F S
 refine wl_storeC (wn rfl) rfl F S rfl rfl (vs := [.i6 y1.Code, .i6 y1.Index]) rfl ts29 (one_cons rfl (one_cons rfl one_nil)) (k := 0) rfl (lb rfl) (c' := #[.i6 y1.Code, .i6 y1.Index]) rfl rfl ?_; clear S; intro w S
 refine wpList_nil ?_
 refine then_n ?_
 refine wp_cut (fun a w => ∃ (x1 : Int) (x2 : Int) (g2 : Gh), Fr 22 a [(5, bp b4 0), (4, bp b3 0)] ∧ Le g1 g2 ∧ St g2 [[bx b4 #[.i6 x1, .i6 x2] 29], [bx b3 #[.i6 0, .i6 0] 29]] fr w ∧ changeforgeref1_Pair.j1 x1 x2 = some r) ?_ ?_
 ·refine wp_seq ?_
  refine wp_region_lit ?_
  refine wE (ev_fieldAddr' tu29 tf29_0 (z := 0) ts3 rfl ⟨_, rfl⟩ rfl) F S rfl fun a F=>?_
  refine wE (ev_load1 tu3 rfl rfl (box_ptr (cells := [.i6 y1.Code]) 0 rfl 0 rfl (lb rfl))) F S rfl fun a F=>?_
  refine wE (ev_int rfl rfl (bo_eql _ _ _ _)) F S rfl fun a F=>?_
  refine wE (ev_move rfl) F S rfl fun a F=>?_
  obtain ⟨x3, hx1, hm⟩ := bind_some hm
  refine wl_cut 5 (fun a w => ∃ g3, Fr 22 a [(16, .bool x3), (5, bp b4 0), (4, bp b3 0), (3, bp b2 0)] ∧ Le g1 g3 ∧ St g3 [[bx b4 #[.i6 y1.Code, .i6 y1.Index] 29], [bx b3 #[.i6 0, .i6 0] 29], [bx b2 #[vq_1] 25], [bx b1 #[vp_1] 25]] fr w) ?_ ?_
  ·clear hm; obtain ⟨hc1, hm⟩ | ⟨hc1, hm⟩ := ite_or hx1
   ·refine wl_ev (wg F rfl rfl rfl rfl hc1) (ev_loadA tu25 rfl (cs := [vq_1]) ts25 rfl (box_ptr (cells := [vq_1]) 2 rfl 0 rfl (lb rfl))) F S rfl rfl ?_; clear F a; intro a F
    obtain ⟨y2, hy2, hm⟩ := bind_some hm
    refine wl_call0 (wg F rfl rfl rfl rfl hc1) rfl F rfl (changeforgeref1_PatchFault_ok (fr := (fl [[bx b4 #[.i6 y1.Code, .i6 y1.Index] 29], [bx b3 #[.i6 0, .i6 0] 29], [bx b2 #[vq_1] 25], [bx b1 #[vp_1] 25]] fr)) q_ vq_1 (hq_1.mono l1) S hy2) rfl tc77 rfl rfl ?_; clear F a S
    rintro _ a w ⟨g4, l4, S, rfl⟩ F; replace S : St g4 [[bx b4 #[.i6 y1.Code, .i6 y1.Index] 29], [bx b3 #[.i6 0, .i6 0] 29], [bx b2 #[vq_1] 25], [bx b1 #[vp_1] 25]] fr w := S
    refine wl_ev (wg F rfl rfl rfl rfl hc1) (ev_field1 tu29 tf29_0 tu3 rfl (cs := [.i6 y2.Code, .i6 y2.Index]) rfl rfl) F S rfl rfl ?_; clear F a; intro a F
    refine wl_ev (wg F rfl rfl rfl rfl hc1) (ev_int rfl rfl (bo_neq _ _ _ _)) F S rfl rfl ?_; clear F a; intro a F
    refine wE (ev_pickT rfl hc1 rfl) F S rfl fun a F=>?_
    obtain rfl := sinj hm
    refine wpList_nil (then_n ?_); exact ⟨g4, F.sub ⟨rfl, rfl, rfl, rfl, trivial⟩, l4, S⟩
   ·refine wl_skip rfl rfl rfl rfl (ne_tf hc1) F rfl rfl ?_; clear F a; intro a F
    refine wl_skip rfl rfl rfl rfl (ne_tf hc1) F rfl rfl ?_; clear F a; intro a F
    refine wl_skip rfl rfl rfl rfl (ne_tf hc1) F rfl rfl ?_; clear F a; intro a F
    refine wl_skip rfl rfl rfl rfl (ne_tf hc1) F rfl rfl ?_; clear F a; intro a F
    refine wE (ev_pickF rfl hc1 rfl) F S rfl fun a F=>?_
    obtain rfl := sinj hm
    refine wpList_nil (then_n ?_); exact ⟨g1, F.sub ⟨rfl, rfl, rfl, rfl, trivial⟩, (Le.refl _), S⟩
  clear F S; rintro a w ⟨g3, F, l3, S⟩
  refine wpList_nil ?_
  refine then_n ?_
  obtain ⟨hc2, hm⟩ | ⟨hc2, hm⟩ := ite_or hm
  ·refine wp_condT F rfl hc2 ?_
   refine wp_region_lit ?_
   refine wE (ev_loadA tu25 rfl (cs := [vq_1]) ts25 rfl (box_ptr (cells := [vq_1]) 2 rfl 0 rfl (lb rfl))) F S rfl fun a F=>?_
   obtain ⟨y3, hy3, hm⟩ := bind_some hm
   refine wl_call0 (wn rfl) rfl F rfl (changeforgeref1_PatchFault_ok (fr := (fl [[bx b4 #[.i6 y1.Code, .i6 y1.Index] 29], [bx b3 #[.i6 0, .i6 0] 29], [bx b2 #[vq_1] 25], [bx b1 #[vp_1] 25]] fr)) q_ vq_1 (hq_1.mono (l1.trans l3)) S hy3) rfl tc77 rfl rfl ?_; clear F a S
   rintro _ a w ⟨g5, l5, S, rfl⟩ F; replace S : St g5 [[bx b4 #[.i6 y1.Code, .i6 y1.Index] 29], [bx b3 #[.i6 0, .i6 0] 29], [bx b2 #[vq_1] 25], [bx b1 #[vp_1] 25]] fr w := S
   refine wE (ev_field1 tu29 tf29_0 tu3 rfl (cs := [.i6 y3.Code, .i6 y3.Index]) rfl rfl) F S rfl fun a F=>?_
   obtain ⟨y4, hy4, hm⟩ := bind_some hm
   refine wl_call0 (wn rfl) rfl F rfl (changeforgeref1_At_ok (fr := (fl [[bx b4 #[.i6 y1.Code, .i6 y1.Index] 29], [bx b3 #[.i6 0, .i6 0] 29], [bx b2 #[vq_1] 25], [bx b1 #[vp_1] 25]] fr)) y3.Code (-2) S hy4) rfl tc36 rfl rfl ?_; clear F a S
   rintro _ a w ⟨g6, l6, S, rfl⟩ F; replace S : St g6 [[bx b4 #[.i6 y1.Code, .i6 y1.Index] 29], [bx b3 #[.i6 0, .i6 0] 29], [bx b2 #[vq_1] 25], [bx b1 #[vp_1] 25]] fr w := S
   refine wl_storeC (wn rfl) rfl F S rfl rfl (vs := [.i6 y4.Code, .i6 y4.Index]) rfl ts29 (one_cons rfl (one_cons rfl one_nil)) (k := 0) rfl (lb rfl) (c' := #[.i6 y4.Code, .i6 y4.Index]) rfl rfl ?_; clear S; intro w S
   refine wpList_nil ?_
   refine then_n ?_
   replace S : St g6 [[bx b4 #[.i6 y4.Code, .i6 y4.Index] 29], [bx b3 #[.i6 0, .i6 0] 29]] fr w := St.tail [[bx b4 #[.i6 y4.Code, .i6 y4.Index] 29], [bx b3 #[.i6 0, .i6 0] 29]] _ ((S.frontC 1 rfl).frontC 1 rfl)
   exact ⟨y4.Code, y4.Index, g6, F.sub ⟨rfl, rfl, trivial⟩, ((l3.trans l5).trans l6), S, hm⟩
  ·refine wp_condF F rfl hc2 ?_
   refine wp_skip ?_
   refine then_n ?_
   replace S : St g3 [[bx b4 #[.i6 y1.Code, .i6 y1.Index] 29], [bx b3 #[.i6 0, .i6 0] 29]] fr w := St.tail [[bx b4 #[.i6 y1.Code, .i6 y1.Index] 29], [bx b3 #[.i6 0, .i6 0] 29]] _ ((S.frontC 1 rfl).frontC 1 rfl)
   exact ⟨y1.Code, y1.Index, g3, F.sub ⟨rfl, rfl, trivial⟩, l3, S, hm⟩
 ·clear F S hm; rintro a w ⟨x1, x2, g2, F, l2, S, hm⟩
  refine wp_seq ?_
  refine wp_region_lit ?_
  refine wE (ev_loadA tu29 rfl (cs := [.i6 x1, .i6 x2]) ts29 rfl (box_ptr (cells := [.i6 x1, .i6 x2]) 0 rfl 0 rfl (lb rfl))) F S rfl fun a F=>?_
  refine wl_storeC (wn rfl) rfl F S rfl rfl (vs := [.i6 x1, .i6 x2]) rfl ts29 (one_cons rfl (one_cons rfl one_nil)) (k := 1) rfl (lb rfl) (c' := #[.i6 x1, .i6 x2]) rfl rfl ?_; clear S; intro w S
  refine wpList_nil ?_
  refine then_n ?_
  refine wp_ret ?_
  obtain rfl := sinj hm
  refine post_r _ F rfl (ar_cons (resA rfl tu29 rfl (box_ptr (cells := [.i6 x1, .i6 x2]) 1 rfl 0 rfl (lb rfl) w S) ts29) ar_nil) ?_
  replace S : St g2 [] fr w := St.tail [] _ S
  exact ⟨_, rfl, g2, (l1.trans l2), S, rfl⟩

theorem changeforgeref1_Growth_ok {g : Gh} {fr : Hl} {w : World} {r : Int} (h_ : Hunk) (vh_1 : Value) (hh_1 : RepSl g h_.Old vh_1) (vh_2 : Value) (hh_2 : RepSl g h_.New vh_2) (S : St g [] fr w) (hm : changeforgeref1_Growth h_ = some r) :
  Calls Tryd.prog 81 [.agg #[.i6 h_.At, vh_1, vh_2]].toArray w (fun en w' => ∃ v, en = .returned v ∧ ∃ (g' : Gh), Le g g' ∧ St g' [] fr w' ∧ .i6 r = v) := by
 unfold changeforgeref1_Growth at hm
 refine calls_enter (fn := Tryd.f81) Tryd.func81 rfl Tryd.ntmps81 (lb rfl) ?_
 intro a F
 replace F : Fr 10 a [(0, .agg #[.i6 h_.At, vh_1, vh_2])] := F
 refine wp_seq ?_
 refine wp_region_lit ?_
 refine wl_boxC (wn rfl) rfl rfl rfl F S rfl rfl ?_; clear F a S; rintro b1 a w F S
 refine wE (ev_assign rfl) F S rfl fun a F=>?_
 refine wpList_nil ?_
 refine then_n ?_
 refine wp_seq ?_
 refine wp_region_lit ?_
 refine wE (ev_fieldAddr' tu69 tf69_2 (z := 0) ts22 rfl ⟨_, rfl⟩ rfl) F S rfl fun a F=>?_
 refine wE (ev_load1 tu22 rfl rfl (box_ptr (cells := [vh_2]) 0 rfl 2 rfl (lb rfl))) F S rfl fun a F=>?_
 refine wE (ev_lenSh hh_2 rfl tu22) F S rfl fun a F=>?_
 refine wE (ev_fieldAddr' tu69 tf69_1 (z := 0) ts22 rfl ⟨_, rfl⟩ rfl) F S rfl fun a F=>?_
 refine wE (ev_load1 tu22 rfl rfl (box_ptr (cells := [vh_1]) 0 rfl 1 rfl (lb rfl))) F S rfl fun a F=>?_
 refine wE (ev_lenSh hh_1 rfl tu22) F S rfl fun a F=>?_
 obtain ⟨z1, hz1, hm⟩ := bind_some hm
 refine wE (ev_int rfl rfl (bo_sub hz1)) F S rfl fun a F=>?_
 refine wE (ev_assign rfl) F S rfl fun a F=>?_
 refine wpList_nil ?_
 refine then_n ?_
 refine wp_ret ?_
 obtain rfl := sinj hm
 refine post_r _ F rfl (ar_cons (resT rfl) ar_nil) ?_
 replace S : St g [] fr w := St.tail [] _ S
 exact ⟨_, rfl, g, (Le.refl _), S, rfl⟩

theorem changeforgeref1_news_ok {g : Gh} {fr : Hl} {w : World} {r : Int × Int} (p_ : Patch) (vp_1 : Value) (hp_1 : RepSl g p_.Hunks vp_1) (i_ : Int) (S : St g [] fr w) (hm : changeforgeref1_news p_ i_ = some r) :
  Calls Tryd.prog 79 [.agg #[vp_1], .i6 i_].toArray w (fun en w' => ∃ v, en = .returned v ∧ ∃ (g' : Gh), Le g g' ∧ St g' [] fr w' ∧ .tuple #[.i6 r.1, .i6 r.2] = v) := by
 unfold changeforgeref1_news at hm
 refine calls_enter (fn := Tryd.f79) Tryd.func79 rfl Tryd.ntmps79 (lb rfl) ?_
 intro a F
 replace F : Fr 37 a [(0, .agg #[vp_1]), (1, .i6 i_)] := F
 refine wp_seq ?_
 refine wp_region_lit ?_
 refine wl_boxC (wn rfl) rfl rfl rfl F S rfl rfl ?_; clear F a S; rintro b1 a w F S
 refine wE (ev_assign rfl) F S rfl fun a F=>?_
 refine wE (ev_assign rfl) F S rfl fun a F=>?_
 refine wpList_nil ?_
 refine then_n ?_
 refine wp_seq ?_
 refine wp_region_lit ?_
 refine wE (ev_fieldAddr' tu25 tf25_0 (z := 0) ts23 rfl ⟨_, rfl⟩ rfl) F S rfl fun a F=>?_
 refine wE (ev_load1 tu23 rfl rfl (box_ptr (cells := [vp_1]) 0 rfl 0 rfl (lb rfl))) F S rfl fun a F=>?_
 refine wE (ev_move rfl) F S rfl fun a F=>?_
 obtain ⟨y1, hy1, hm⟩ := bind_some hm
 obtain ⟨cs1, hr1, hp1⟩ := elemS hp_1 hy1
 obtain ⟨v1, v2, rfl, h1, h2⟩ := rep_Hunk hr1
 refine wE (ev_idxS hp_1 hy1 tu23 ts69 rfl rfl) F S rfl fun a F=>?_
 have hp2 := PtrC.field hp1 0 1 (lb rfl)
 have hp2 : PtrC g (addP (elemP vp_1 i_ 3) 0) [.i6 y1.At] := hp2
 refine wE (ev_fieldAddr' tu69 tf69_0 (z := 0) ts3 rfl hp1.ptr rfl) F S rfl fun a F=>?_
 refine wE (ev_load1 tu3 rfl rfl (ptr_mono (cks := [[bx b1 #[vp_1] 25]]) (fr := fr) hp2 (Le.refl _))) F S rfl fun a F=>?_
 refine wE (ev_assign rfl) F S rfl fun a F=>?_
 refine wpList_nil ?_
 refine then_n ?_
 refine wp_cut (fun a w => ∃ (x1 : Int) (g1 : Gh), Fr 37 a [(6, .i6 x1), (2, bp b1 0), (1, .i6 i_)] ∧ Le g g1 ∧ St g1 [[bx b1 #[vp_1] 25]] fr w ∧ changeforgeref1_news.j1 p_ i_ x1 = some r) ?_ ?_
 ·refine wp_seq ?_
  refine wp_region_lit ?_
  refine wE (ev_assign rfl) F S rfl fun a F=>?_
  refine wpList_nil ?_
  refine then_n ?_
  refine wp_block ?_
  obtain ⟨r1, hr3, hm⟩ := bind_some hm
  have hmo1 := hm; clear hm
  refine wp_iter (σ := Int × Int) (ρ := Int) (m := fun s => changeforgeref1_news.l1 p_ i_ s.1 s.2) (I := fun s a w => match s with | (x2, x3) => ∃ (g2 : Gh), Fr 37 a [(7, .i6 x2), (6, .i6 x3), (2, bp b1 0), (1, .i6 i_)] ∧ Le g g2 ∧ St g2 [[bx b1 #[vp_1] 25]] fr w) hr3 ?_ ?_
  ·dsimp only
   exact ⟨g, F.sub ⟨rfl, rfl, rfl, rfl, trivial⟩, (Le.refl _), S⟩
  ·clear F S; rintro ⟨x2, x3⟩ a w x4 ⟨g2, F, l2, S⟩ hx1 hfin1
   have hm : changeforgeref1_news.l1 p_ i_ x2 x3 = some x4 := hx1; clear hx1
   unfold changeforgeref1_news.l1 at hm
   refine wp_seq ?_
   refine wp_seq ?_
   refine wp_region_lit ?_
   refine wE (ev_move rfl) F S rfl fun a F=>?_
   refine wE (ev_move rfl) F S rfl fun a F=>?_
   refine wE (ev_int rfl rfl (bo_lss _ _ _ _)) F S rfl fun a F=>?_
   refine wpList_nil ?_
   refine then_n ?_
   obtain ⟨hc1, hm⟩ | ⟨hc1, hm⟩ := ite_or hm
   ·refine wp_condT F rfl hc1 ?_
    refine wp_skip ?_
    refine then_n ?_
    refine wp_seq ?_
    refine wp_block ?_
    refine wp_region_lit ?_
    refine wE (ev_move rfl) F S rfl fun a F=>?_
    refine wE (ev_fieldAddr' tu25 tf25_0 (z := 0) ts23 rfl ⟨_, rfl⟩ rfl) F S rfl fun a F=>?_
    refine wE (ev_load1 tu23 rfl rfl (box_ptr (cells := [vp_1]) 0 rfl 0 rfl (lb rfl))) F S rfl fun a F=>?_
    refine wE (ev_move rfl) F S rfl fun a F=>?_
    obtain ⟨y3, hy3, hm⟩ := bind_some hm
    obtain ⟨cs3, hr4, hp5⟩ := elemS (hp_1.mono l2) hy3
    obtain ⟨v5, v6, rfl, h5, h6⟩ := rep_Hunk hr4
    refine wE (ev_idxS (hp_1.mono l2) hy3 tu23 ts69 rfl rfl) F S rfl fun a F=>?_
    refine wE (ev_loadA tu69 rfl (cs := [.i6 y3.At, v5, v6]) ts69 rfl (ptr_mono (cks := [[bx b1 #[vp_1] 25]]) (fr := fr) hp5 (Le.refl _))) F S rfl fun a F=>?_
    obtain ⟨y4, hy4, hm⟩ := bind_some hm
    refine wl_call0 (wn rfl) rfl F rfl (changeforgeref1_Growth_ok (fr := (fl [[bx b1 #[vp_1] 25]] fr)) y3 v5 h5 v6 h6 S hy4) rfl tc81 rfl rfl ?_; clear F a S
    rintro _ a w ⟨g3, l3, S, rfl⟩ F; replace S : St g3 [[bx b1 #[vp_1] 25]] fr w := S
    obtain ⟨z2, hz2, hm⟩ := bind_some hm
    refine wE (ev_int rfl rfl (bo_add hz2)) F S rfl fun a F=>?_
    refine wE (ev_assign rfl) F S rfl fun a F=>?_
    refine wpList_nil ?_
    refine inb_n ?_
    refine then_n ?_
    refine wp_region_lit ?_
    refine wE (ev_move rfl) F S rfl fun a F=>?_
    obtain ⟨z3, hz3, hm⟩ := bind_some hm
    refine wE (ev_int rfl rfl (bo_add hz3)) F S rfl fun a F=>?_
    refine wE (ev_assign rfl) F S rfl fun a F=>?_
    refine wpList_nil ?_
    refine then_n ?_
    obtain rfl := sinj hm
    refine ⟨_, rfl, ?_⟩
    dsimp only
    exact ⟨g3, F.sub ⟨rfl, rfl, rfl, rfl, trivial⟩, (l2.trans l3), S⟩
   ·refine wp_condF F rfl hc1 ?_
    refine wp_exit ?_
    refine then_e ?_
    refine then_e ?_
    refine inb_x ?_
    refine then_n ?_
    obtain rfl := sinj hm
    obtain rfl := hfin1 _ rfl
    clear hm
    have hm : (changeforgeref1_news.j1 p_ i_ x3 : Option (Int × Int)) = some _ := hmo1
    exact ⟨x3, g2, F.sub ⟨rfl, rfl, rfl, trivial⟩, l2, S, hm⟩
 ·clear F S hm; rintro a w ⟨x1, g1, F, l1, S, hm⟩
  refine wp_seq ?_
  refine wp_quiet mo (by kernel_rfl) S ?_
  refine wq_ev (wn rfl) (ev_move rfl) F rfl rfl ?_; clear F a; intro a F
  refine wq_ev (wn rfl) (ev_move rfl) F rfl rfl ?_; clear F a; intro a F
  refine wq_ev (wn rfl) (ev_fieldAddr' tu25 tf25_0 (z := 0) ts23 rfl ⟨_, rfl⟩ rfl) F rfl rfl ?_; clear F a; intro a F
  refine wq_ev (wn rfl) (ev_load1 tu23 rfl rfl (box_ptr (cells := [vp_1]) 0 rfl 0 rfl (lb rfl))) F rfl rfl ?_; clear F a; intro a F
  refine wq_ev (wn rfl) (ev_move rfl) F rfl rfl ?_; clear F a; intro a F
  obtain ⟨y2, hy2, hm⟩ := bind_some hm
  obtain ⟨cs2, hr2, hp3⟩ := elemS (hp_1.mono l1) hy2
  obtain ⟨v3, v4, rfl, h3, h4⟩ := rep_Hunk hr2
  refine wq_ev (wn rfl) (ev_idxS (hp_1.mono l1) hy2 tu23 ts69 rfl rfl) F rfl rfl ?_; clear F a; intro a F
  have hp4 := PtrC.field hp3 2 1 (lb rfl)
  have hp4 : PtrC g1 (addP (elemP vp_1 i_ 3) 2) [v4] := hp4
  refine wq_ev (wn rfl) (ev_fieldAddr' tu69 tf69_2 (z := 0) ts22 rfl hp3.ptr rfl) F rfl rfl ?_; clear F a; intro a F
  refine wq_ev (wn rfl) (ev_load1 tu22 rfl rfl (ptr_mono (cks := [[bx b1 #[vp_1] 25]]) (fr := fr) hp4 (Le.refl _))) F rfl rfl ?_; clear F a; intro a F
  refine wq_ev (wn rfl) (ev_lenSh h4 rfl tu22) F rfl rfl ?_; clear F a; intro a F
  obtain ⟨z1, hz1, hm⟩ := bind_some hm
  refine wq_ev (wn rfl) (ev_int rfl rfl (bo_add hz1)) F rfl rfl ?_; clear F a; intro a F
  refine wq_ev (wn rfl) (ev_assign rfl) F rfl rfl ?_; clear F a; intro a F
  refine wq_ev (wn rfl) (ev_assign rfl) F rfl rfl ?_; clear F a; intro a F
  refine wq_nil ?_; clear S; intro w S
  refine then_n ?_
  refine wp_ret ?_
  obtain rfl := sinj hm
  refine post_r _ F rfl (ar_cons (resT rfl) (ar_cons (resT rfl) ar_nil)) ?_
  replace S : St g1 [] fr w := St.tail [] _ S
  exact ⟨_, rfl, g1, l1, S, rfl⟩

theorem changeforgeref1_moved_ok {g : Gh} {fr : Hl} {w : World} {r : Hunk} (h_ : Hunk) (vh_1 : Value) (hh_1 : RepSl g h_.Old vh_1) (vh_2 : Value) (hh_2 : RepSl g h_.New vh_2) (n_ : Int) (S : St g [] fr w) (hm : changeforgeref1_moved h_ n_ = some r) :
  Calls Tryd.prog 82 [.agg #[.i6 h_.At, vh_1, vh_2], .i6 n_].toArray w (fun en w' => ∃ v, en = .returned v ∧ ∃ (g' : Gh) (v1 v2 : Value), Le g g' ∧ St g' [] fr w' ∧ RepSl g' r.Old v1 ∧ RepSl g' r.New v2 ∧ .agg #[.i6 r.At, v1, v2] = v) := by
 unfold changeforgeref1_moved at hm
 refine calls_enter (fn := Tryd.f82) Tryd.func82 rfl Tryd.ntmps82 (lb rfl) ?_
 intro a F
 replace F : Fr 14 a [(0, .agg #[.i6 h_.At, vh_1, vh_2]), (1, .i6 n_)] := F
 refine wp_seq ?_
 refine wp_region_lit ?_
 refine wl_boxC (wn rfl) rfl rfl rfl F S rfl rfl ?_; clear F a S; rintro b1 a w F S
 refine wl_alloc (wn rfl) rfl tz69 (cs := [.i6 0, nilS, nilS]) rfl F S rfl rfl ?_; clear F a S; rintro b2 a w F S
 refine wpList_nil ?_
 refine then_n ?_
 refine wp_seq ?_
 refine wp_region_lit ?_
 refine wE (ev_fieldAddr' tu69 tf69_0 (z := 0) ts3 rfl ⟨_, rfl⟩ rfl) F S rfl fun a F=>?_
 refine wE (ev_load1 tu3 rfl rfl (box_ptr (cells := [.i6 h_.At]) 1 rfl 0 rfl (lb rfl))) F S rfl fun a F=>?_
 refine wE (ev_move rfl) F S rfl fun a F=>?_
 obtain ⟨z1, hz1, hm⟩ := bind_some hm
 refine wE (ev_int rfl rfl (bo_add hz1)) F S rfl fun a F=>?_
 refine wE (ev_fieldAddr' tu69 tf69_1 (z := 0) ts22 rfl ⟨_, rfl⟩ rfl) F S rfl fun a F=>?_
 refine wE (ev_load1 tu22 rfl rfl (box_ptr (cells := [vh_1]) 1 rfl 1 rfl (lb rfl))) F S rfl fun a F=>?_
 refine wE (ev_fieldAddr' tu69 tf69_2 (z := 0) ts22 rfl ⟨_, rfl⟩ rfl) F S rfl fun a F=>?_
 refine wE (ev_load1 tu22 rfl rfl (box_ptr (cells := [vh_2]) 1 rfl 2 rfl (lb rfl))) F S rfl fun a F=>?_
 refine wE (ev_build (parts := [(0, .tmp 8), (1, .tmp 10), (2, .tmp 12)]) (vs := [(0, .i6 z1), (1, vh_1), (2, vh_2)]) rfl (fun w => tb69_0_1_2 z1 vh_1 (RepSl.isSl hh_1) vh_2 (RepSl.isSl hh_2) w)) F S rfl fun a F=>?_
 refine wl_storeC (wn rfl) rfl F S rfl rfl (vs := [.i6 z1, vh_1, vh_2]) rfl ts69 (one_cons rfl (one_cons hh_1.one (one_cons hh_2.one one_nil))) (k := 0) rfl (lb rfl) (c' := #[.i6 z1, vh_1, vh_2]) rfl rfl ?_; clear S; intro w S
 refine wpList_nil ?_
 refine then_n ?_
 refine wp_ret ?_
 obtain rfl := sinj hm
 refine post_r _ F rfl (ar_cons (resA rfl tu69 rfl (box_ptr (cells := [.i6 z1, vh_1, vh_2]) 0 rfl 0 rfl (lb rfl) w S) ts69) ar_nil) ?_
 replace S : St g [] fr w := St.tail [] _ S
 exact ⟨_, rfl, g, vh_1, vh_2, (Le.refl _), S, hh_1, hh_2, rfl⟩

theorem changeforgeref1_Commute_ok {g : Gh} {fr : Hl} {w : World} {r : Patch × Patch × Bool × Fault} (p_ : Patch) (vp_1 : Value) (hp_1 : RepSl g p_.Hunks vp_1) (q_ : Patch) (vq_1 : Value) (hq_1 : RepSl g q_.Hunks vq_1) (S : St g [] fr w) (hm : changeforgeref1_Commute p_ q_ = some r) :
  Calls Tryd.prog 38 [.agg #[vp_1], .agg #[vq_1]].toArray w (fun en w' => ∃ v, en = .returned v ∧ ∃ (g' : Gh) (v1 v2 : Value), Le g g' ∧ St g' [] fr w' ∧ RepSl g' r.1.Hunks v1 ∧ RepSl g' r.2.1.Hunks v2 ∧ .tuple #[.agg #[v1], .agg #[v2], .bool r.2.2.1, .agg #[.i6 r.2.2.2.Code, .i6 r.2.2.2.Index]] = v) := by
 unfold changeforgeref1_Commute at hm
 refine calls_enter (fn := Tryd.f38) Tryd.func38 rfl Tryd.ntmps38 (lb rfl) ?_
 intro a F
 replace F : Fr 160 a [(0, .agg #[vp_1]), (1, .agg #[vq_1])] := F
 refine wp_seq ?_
 refine wp_region_lit ?_
 refine wl_boxC (wn rfl) rfl rfl rfl F S rfl rfl ?_; clear F a S; rintro b1 a w F S
 refine wl_boxC (wn rfl) rfl rfl rfl F S rfl rfl ?_; clear F a S; rintro b2 a w F S
 refine wl_alloc (wn rfl) rfl tz25 (cs := [nilS]) rfl F S rfl rfl ?_; clear F a S; rintro b3 a w F S
 refine wl_alloc (wn rfl) rfl tz25 (cs := [nilS]) rfl F S rfl rfl ?_; clear F a S; rintro b4 a w F S
 refine wE (ev_assign rfl) F S rfl fun a F=>?_
 refine wl_alloc (wn rfl) rfl tz29 (cs := [.i6 0, .i6 0]) rfl F S rfl rfl ?_; clear F a S; rintro b5 a w F S
 refine wpList_nil ?_
 refine then_n ?_
 refine wp_seq ?_
 refine wp_seq ?_
 refine wp_region_lit ?_
 refine wE (ev_loadA tu25 rfl (cs := [vp_1]) ts25 rfl (box_ptr (cells := [vp_1]) 4 rfl 0 rfl (lb rfl))) F S rfl fun a F=>?_
 refine wE (ev_loadA tu25 rfl (cs := [vq_1]) ts25 rfl (box_ptr (cells := [vq_1]) 3 rfl 0 rfl (lb rfl))) F S rfl fun a F=>?_
 obtain ⟨y1, hy1, hm⟩ := bind_some hm
 refine wl_call0 (wn rfl) rfl F rfl (changeforgeref1_Pair_ok (fr := (fl [[bx b5 #[.i6 0, .i6 0] 29], [bx b4 #[nilS] 25], [bx b3 #[nilS] 25], [bx b2 #[vq_1] 25], [bx b1 #[vp_1] 25]] fr)) p_ vp_1 hp_1 q_ vq_1 hq_1 S hy1) rfl tc78 rfl rfl ?_; clear F a S
 rintro _ a w ⟨g1, l1, S, rfl⟩ F; replace S : St g1 [[bx b5 #[.i6 0, .i6 0] 29], [bx b4 #[nilS] 25], [bx b3 #[nilS] 25], [bx b2 #[vq_1] 25], [bx b1 #[vp_1] 25]] fr w := S
 refine wl_alloc (wn rfl) rfl tz29 (cs := [.i6 0, .i6 0]) rfl F S rfl rfl ?_; clear F a S; rintro b6 a w F S
 refine wl_storeC (wn rfl) rfl F S rfl rfl (vs := [.i6 y1.Code, .i6 y1.Index]) rfl ts29 (one_cons rfl (one_cons rfl one_nil)) (k := 0) rfl (lb rfl) (c' := #[.i6 y1.Code, .i6 y1.Index]) rfl rfl ?_; clear S; intro w S
 refine wpList_nil ?_
 refine then_n ?_
 refine wp_seq ?_
 refine wp_region_lit ?_
 refine wE (ev_fieldAddr' tu29 tf29_0 (z := 0) ts3 rfl ⟨_, rfl⟩ rfl) F S rfl fun a F=>?_
 refine wE (ev_load1 tu3 rfl rfl (box_ptr (cells := [.i6 y1.Code]) 0 rfl 0 rfl (lb rfl))) F S rfl fun a F=>?_
 refine wE (ev_int rfl rfl (bo_neq _ _ _ _)) F S rfl fun a F=>?_
 refine wpList_nil ?_
 refine then_n ?_
 obtain ⟨hc1, hm⟩ | ⟨hc1, hm⟩ := ite_or hm
 ·refine wp_condT F rfl hc1 ?_
  refine wp_seq ?_
  refine wp_dv [] mo S ?_; clear S; intro ok1 w S
  refine dv_et ok1 0 rfl (ev_build (parts := []) (vs := []) rfl (fun w => tb25_  w)) F rfl fun a F=>?_
  refine dv_et ok1 1 rfl (ev_build (parts := []) (vs := []) rfl (fun w => tb25_  w)) F rfl fun a F=>?_
  refine dv_ev ok1 2 rfl (ev_loadA tu29 rfl (cs := [.i6 y1.Code, .i6 y1.Index]) ts29 rfl (box_ptr (cells := [.i6 y1.Code, .i6 y1.Index]) 0 rfl 0 rfl (lb rfl))) F S rfl fun a F=>?_
  refine dv_op ok1 3 rfl [(2, .agg #[.i6 y1.Code, .i6 y1.Index])] ?_
  refine wl_storeC (wn rfl) rfl F S rfl rfl (vs := [nilS]) rfl ts25 (one_cons rfl one_nil) (k := 3) rfl (lb rfl) (c' := #[nilS]) rfl rfl ?_; clear S; intro w S
  refine dv_nx ⟨yl_ev rfl rfl (ev_loadA tu29 rfl (cs := [.i6 y1.Code, .i6 y1.Index]) ts29 rfl (box_ptr (cells := [.i6 y1.Code, .i6 y1.Index]) 0 rfl 0 rfl (lb rfl))) F S, trivial⟩ ?_
  refine dv_op ok1 4 rfl [(2, .agg #[.i6 y1.Code, .i6 y1.Index])] ?_
  refine wl_storeC (wn rfl) rfl F S rfl rfl (vs := [nilS]) rfl ts25 (one_cons rfl one_nil) (k := 2) rfl (lb rfl) (c' := #[nilS]) rfl rfl ?_; clear S; intro w S
  refine dv_nx ⟨yl_ev rfl rfl (ev_loadA tu29 rfl (cs := [.i6 y1.Code, .i6 y1.Index]) ts29 rfl (box_ptr (cells := [.i6 y1.Code, .i6 y1.Index]) 0 rfl 0 rfl (lb rfl))) F S, trivial⟩ ?_
  refine dv_et ok1 5 rfl (ev_assign rfl) F rfl fun a F=>?_
  refine dv_op ok1 6 rfl [] ?_
  refine wl_storeC (wn rfl) rfl F S rfl rfl (vs := [.i6 y1.Code, .i6 y1.Index]) rfl ts29 (one_cons rfl (one_cons rfl one_nil)) (k := 1) rfl (lb rfl) (c' := #[.i6 y1.Code, .i6 y1.Index]) rfl rfl ?_; clear S; intro w S
  refine dv_nx trivial ?_
  refine dv_fin ok1 ?_
  refine then_n ?_
  refine wp_ret ?_
  refine then_r ?_
  obtain rfl := sinj hm
  refine post_r _ F rfl (ar_cons (resA rfl tu25 rfl (box_ptr (cells := [nilS]) 3 rfl 0 rfl (lb rfl) w S) ts25) (ar_cons (resA rfl tu25 rfl (box_ptr (cells := [nilS]) 2 rfl 0 rfl (lb rfl) w S) ts25) (ar_cons (resT rfl) (ar_cons (resA rfl tu29 rfl (box_ptr (cells := [.i6 y1.Code, .i6 y1.Index]) 1 rfl 0 rfl (lb rfl) w S) ts29) ar_nil)))) ?_
  replace S : St g1 [] fr w := St.tail [] _ S
  exact ⟨_, rfl, g1, (nilS), (nilS), l1, S, (RepSl.nil _), (RepSl.nil _), rfl⟩
 ·refine wp_condF F rfl hc1 ?_
  refine wp_skip ?_
  refine then_n ?_
  refine wp_seq ?_
  refine wp_region_lit ?_
  refine wl_alloc (wn rfl) rfl tz25 (cs := [nilS]) rfl F S rfl rfl ?_; clear F a S; rintro b7 a w F S
  refine wpList_nil ?_
  refine then_n ?_
  refine wp_seq ?_
  refine wp_region_lit ?_
  refine wl_alloc (wn rfl) rfl tz25 (cs := [nilS]) rfl F S rfl rfl ?_; clear F a S; rintro b8 a w F S
  refine wpList_nil ?_
  refine then_n ?_
  refine wp_cut (fun a w => ∃ (x1 : List Hunk) (v1 : Value) (c1 : Hl) (g2 : Gh), Fr 160 a [(10, bp b8 0), (9, bp b7 0), (7, bp b5 0), (5, bp b4 0), (4, bp b3 0), (2, bp b1 0)] ∧ Le g1 g2 ∧ St g2 [[bx b8 #[nilS] 25], [bx b7 #[v1] 25], [bx b5 #[.i6 0, .i6 0] 29], [bx b4 #[nilS] 25], [bx b3 #[nilS] 25], [bx b1 #[vp_1] 25], c1] fr w ∧ OwnS g2 x1 v1 c1 ∧ changeforgeref1_Commute.j1 p_ x1 = some r) ?_ ?_
  ·refine wp_seq ?_
   refine wp_region_lit ?_
   refine wE (ev_assign rfl) F S rfl fun a F=>?_
   refine wpList_nil ?_
   refine then_n ?_
   refine wp_block ?_
   obtain ⟨r3, hr8, hm⟩ := bind_some hm
   have hmo3 := hm; clear hm
   refine wp_iter (σ := Int × (List Hunk)) (ρ := (Patch × Patch × Bool × Fault) ⊕ (List Hunk)) (m := fun s => changeforgeref1_Commute.l3 p_ q_ s.1 s.2) (I := fun s a w => match s with | (x13, x14) => ∃ (v17 : Value) (c7 : Hl) (g18 : Gh), Fr 160 a [(11, .i6 x13), (10, bp b8 0), (9, bp b7 0), (7, bp b5 0), (5, bp b4 0), (4, bp b3 0), (3, bp b2 0), (2, bp b1 0)] ∧ Le g1 g18 ∧ St g18 [[bx b8 #[nilS] 25], [bx b7 #[v17] 25], [bx b5 #[.i6 0, .i6 0] 29], [bx b4 #[nilS] 25], [bx b3 #[nilS] 25], [bx b2 #[vq_1] 25], [bx b1 #[vp_1] 25], c7] fr w ∧ OwnS g18 x14 v17 c7) hr8 ?_ ?_
   ·dsimp only
    replace S : St g1 [[], [bx b8 #[nilS] 25], [bx b7 #[nilS] 25], [bx b6 #[.i6 y1.Code, .i6 y1.Index] 29], [bx b5 #[.i6 0, .i6 0] 29], [bx b4 #[nilS] 25], [bx b3 #[nilS] 25], [bx b2 #[vq_1] 25], [bx b1 #[vp_1] 25]] fr w := S
    replace S : St g1 [[bx b8 #[nilS] 25], [bx b7 #[nilS] 25], [bx b5 #[.i6 0, .i6 0] 29], [bx b4 #[nilS] 25], [bx b3 #[nilS] 25], [bx b2 #[vq_1] 25], [bx b1 #[vp_1] 25], []] fr w := St.tail [[bx b8 #[nilS] 25], [bx b7 #[nilS] 25], [bx b5 #[.i6 0, .i6 0] 29], [bx b4 #[nilS] 25], [bx b3 #[nilS] 25], [bx b2 #[vq_1] 25], [bx b1 #[vp_1] 25], []] _ ((((((((S.frontC 0 rfl).frontC 9 rfl).frontC 9 rfl).frontC 9 rfl).frontC 9 rfl).frontC 9 rfl).frontC 8 rfl).frontC 8 rfl)
    exact ⟨(nilS), [], g1, F.sub ⟨rfl, rfl, rfl, rfl, rfl, rfl, rfl, rfl, trivial⟩, (Le.refl _), S, (OwnS.nil _)⟩
   ·clear F S; rintro ⟨x13, x14⟩ a w x15 ⟨v17, c7, g18, F, l18, S, h19⟩ hx4 hfin3
    have hm : changeforgeref1_Commute.l3 p_ q_ x13 x14 = some x15 := hx4; clear hx4
    unfold changeforgeref1_Commute.l3 at hm
    refine wp_seq ?_
    refine wp_seq ?_
    refine wp_region_lit ?_
    refine wE (ev_move rfl) F S rfl fun a F=>?_
    refine wE (ev_fieldAddr' tu25 tf25_0 (z := 0) ts23 rfl ⟨_, rfl⟩ rfl) F S rfl fun a F=>?_
    refine wE (ev_load1 tu23 rfl rfl (box_ptr (cells := [vq_1]) 5 rfl 0 rfl (lb rfl))) F S rfl fun a F=>?_
    refine wE (ev_lenSh hq_1 rfl tu23) F S rfl fun a F=>?_
    refine wE (ev_int rfl rfl (bo_lss _ _ _ _)) F S rfl fun a F=>?_
    refine wpList_nil ?_
    refine then_n ?_
    obtain ⟨hc7, hm⟩ | ⟨hc7, hm⟩ := ite_or hm
    ·refine wp_condT F rfl hc7 ?_
     refine wp_skip ?_
     refine then_n ?_
     refine wp_cut (fun a w => ∃ (x16 : List Hunk) (v18 : Value) (c8 : Hl) (g19 : Gh), Fr 160 a [(11, .i6 x13), (10, bp b8 0), (9, bp b7 0), (7, bp b5 0), (5, bp b4 0), (4, bp b3 0), (3, bp b2 0), (2, bp b1 0)] ∧ Le g18 g19 ∧ St g19 [[bx b8 #[nilS] 25], [bx b7 #[v18] 25], [bx b5 #[.i6 0, .i6 0] 29], [bx b4 #[nilS] 25], [bx b3 #[nilS] 25], [bx b2 #[vq_1] 25], [bx b1 #[vp_1] 25], c8] fr w ∧ OwnS g19 x16 v18 c8 ∧ changeforgeref1_Commute.j6 x13 x16 = some x15) ?_ ?_
     ·refine wp_block ?_
      refine wp_seq ?_
      refine wp_region_lit ?_
      refine wE (ev_assign rfl) F S rfl fun a F=>?_
      refine wpList_nil ?_
      refine then_n ?_
      refine wp_cut (fun a w => ∃ (x17 : Int) (g20 : Gh), Fr 160 a [(12, .i6 x17), (11, .i6 x13), (10, bp b8 0), (9, bp b7 0), (7, bp b5 0), (5, bp b4 0), (4, bp b3 0), (3, bp b2 0), (2, bp b1 0)] ∧ Le g18 g20 ∧ St g20 [[bx b8 #[nilS] 25], [bx b7 #[v17] 25], [bx b5 #[.i6 0, .i6 0] 29], [bx b4 #[nilS] 25], [bx b3 #[nilS] 25], [bx b2 #[vq_1] 25], [bx b1 #[vp_1] 25], c7] fr w ∧ changeforgeref1_Commute.j7 q_ x13 x14 x17 = some x15) ?_ ?_
      ·refine wp_seq ?_
       refine wp_region_lit ?_
       refine wE (ev_assign rfl) F S rfl fun a F=>?_
       refine wpList_nil ?_
       refine then_n ?_
       refine wp_block ?_
       obtain ⟨r4, hr11, hm⟩ := bind_some hm
       have hmo4 := hm; clear hm
       refine wp_iter (σ := Int × Int) (ρ := (Patch × Patch × Bool × Fault) ⊕ Int) (m := fun s => changeforgeref1_Commute.l4 p_ q_ x13 s.1 s.2) (I := fun s a w => match s with | (x18, x19) => ∃ (g22 : Gh), Fr 160 a [(13, .i6 x18), (12, .i6 x19), (11, .i6 x13), (10, bp b8 0), (9, bp b7 0), (7, bp b5 0), (5, bp b4 0), (4, bp b3 0), (3, bp b2 0), (2, bp b1 0)] ∧ Le g18 g22 ∧ St g22 [[bx b8 #[nilS] 25], [bx b7 #[v17] 25], [bx b5 #[.i6 0, .i6 0] 29], [bx b4 #[nilS] 25], [bx b3 #[nilS] 25], [bx b2 #[vq_1] 25], [bx b1 #[vp_1] 25], c7] fr w) hr11 ?_ ?_
       ·dsimp only
        exact ⟨g18, F.sub ⟨rfl, rfl, rfl, rfl, rfl, rfl, rfl, rfl, rfl, rfl, trivial⟩, (Le.refl _), S⟩
       ·clear F S; rintro ⟨x18, x19⟩ a w x20 ⟨g22, F, l22, S⟩ hx5 hfin4
        have hm : changeforgeref1_Commute.l4 p_ q_ x13 x18 x19 = some x20 := hx5; clear hx5
        unfold changeforgeref1_Commute.l4 at hm
        refine wp_seq ?_
        refine wp_seq ?_
        refine wp_region_lit ?_
        refine wE (ev_move rfl) F S rfl fun a F=>?_
        refine wE (ev_fieldAddr' tu25 tf25_0 (z := 0) ts23 rfl ⟨_, rfl⟩ rfl) F S rfl fun a F=>?_
        refine wE (ev_load1 tu23 rfl rfl (box_ptr (cells := [vp_1]) 6 rfl 0 rfl (lb rfl))) F S rfl fun a F=>?_
        refine wE (ev_lenSh hp_1 rfl tu23) F S rfl fun a F=>?_
        refine wE (ev_int rfl rfl (bo_lss _ _ _ _)) F S rfl fun a F=>?_
        refine wpList_nil ?_
        refine then_n ?_
        obtain ⟨hc8, hm⟩ | ⟨hc8, hm⟩ := ite_or hm
        ·refine wp_condT F rfl hc8 ?_
         refine wp_skip ?_
         refine then_n ?_
         refine wp_cut (fun a w => ∃ (x21 : Int) (g23 : Gh), Fr 160 a [(12, .i6 x21), (13, .i6 x18), (11, .i6 x13), (10, bp b8 0), (9, bp b7 0), (7, bp b5 0), (5, bp b4 0), (4, bp b3 0), (3, bp b2 0), (2, bp b1 0)] ∧ Le g22 g23 ∧ St g23 [[bx b8 #[nilS] 25], [bx b7 #[v17] 25], [bx b5 #[.i6 0, .i6 0] 29], [bx b4 #[nilS] 25], [bx b3 #[nilS] 25], [bx b2 #[vq_1] 25], [bx b1 #[vp_1] 25], c7] fr w ∧ changeforgeref1_Commute.j8 x18 x21 = some x20) ?_ ?_
         ·refine wp_block ?_
          refine wp_seq ?_
          refine wp_region_lit ?_
          refine wE (ev_loadA tu25 rfl (cs := [vp_1]) ts25 rfl (box_ptr (cells := [vp_1]) 6 rfl 0 rfl (lb rfl))) F S rfl fun a F=>?_
          refine wE (ev_move rfl) F S rfl fun a F=>?_
          obtain ⟨y16, hy16, hm⟩ := bind_some hm
          refine wl_call0 (wn rfl) rfl F rfl (changeforgeref1_news_ok (fr := (fl [[bx b8 #[nilS] 25], [bx b7 #[v17] 25], [bx b5 #[.i6 0, .i6 0] 29], [bx b4 #[nilS] 25], [bx b3 #[nilS] 25], [bx b2 #[vq_1] 25], [bx b1 #[vp_1] 25], c7] fr)) p_ vp_1 (hp_1.mono ((l1.trans l18).trans l22)) x18 S hy16) rfl tc79 rfl rfl ?_; clear F a S
          rintro _ a w ⟨g24, l24, S, rfl⟩ F; replace S : St g24 [[bx b8 #[nilS] 25], [bx b7 #[v17] 25], [bx b5 #[.i6 0, .i6 0] 29], [bx b4 #[nilS] 25], [bx b3 #[nilS] 25], [bx b2 #[vq_1] 25], [bx b1 #[vp_1] 25], c7] fr w := S
          refine wE (ev_move rfl) F S rfl fun a F=>?_
          refine wE (ev_extract rfl rfl) F S rfl fun a F=>?_
          refine wE (ev_extract rfl rfl) F S rfl fun a F=>?_
          refine wE (ev_assign rfl) F S rfl fun a F=>?_
          refine wE (ev_assign rfl) F S rfl fun a F=>?_
          refine wpList_nil ?_
          refine then_n ?_
          refine wp_seq ?_
          refine wp_seq ?_
          refine wp_region_lit ?_
          refine wE (ev_move rfl) F S rfl fun a F=>?_
          refine wE (ev_fieldAddr' tu25 tf25_0 (z := 0) ts23 rfl ⟨_, rfl⟩ rfl) F S rfl fun a F=>?_
          refine wE (ev_load1 tu23 rfl rfl (box_ptr (cells := [vq_1]) 5 rfl 0 rfl (lb rfl))) F S rfl fun a F=>?_
          refine wE (ev_move rfl) F S rfl fun a F=>?_
          obtain ⟨y17, hy17, hm⟩ := bind_some hm
          obtain ⟨cs8, hr12, hp5⟩ := elemS (hq_1.mono (((l1.trans l18).trans l22).trans l24)) hy17
          obtain ⟨v25, v26, rfl, h27, h28⟩ := rep_Hunk hr12
          refine wE (ev_idxS (hq_1.mono (((l1.trans l18).trans l22).trans l24)) hy17 tu23 ts69 rfl rfl) F S rfl fun a F=>?_
          have hp6 := PtrC.field hp5 0 1 (lb rfl)
          have hp6 : PtrC g24 (addP (elemP vq_1 x13 3) 0) [.i6 y17.At] := hp6
          refine wE (ev_fieldAddr' tu69 tf69_0 (z := 0) ts3 rfl hp5.ptr rfl) F S rfl fun a F=>?_
          refine wE (ev_load1 tu3 rfl rfl (ptr_mono (cks := [[bx b8 #[nilS] 25], [bx b7 #[v17] 25], [bx b5 #[.i6 0, .i6 0] 29], [bx b4 #[nilS] 25], [bx b3 #[nilS] 25], [bx b2 #[vq_1] 25], [bx b1 #[vp_1] 25], c7]) (fr := fr) hp6 (Le.refl _))) F S rfl fun a F=>?_
          refine wE (ev_int rfl rfl (bo_geq _ _ _ _)) F S rfl fun a F=>?_
          refine wE (ev_move rfl) F S rfl fun a F=>?_
          obtain ⟨x22, hx6, hm⟩ := bind_some hm
          refine wl_cut 9 (fun a w => ∃ g25, Fr 160 a [(65, .bool x22), (15, .i6 y16.2), (13, .i6 x18), (12, .i6 x19), (11, .i6 x13), (10, bp b8 0), (9, bp b7 0), (7, bp b5 0), (5, bp b4 0), (4, bp b3 0), (3, bp b2 0), (2, bp b1 0)] ∧ Le g24 g25 ∧ St g25 [[bx b8 #[nilS] 25], [bx b7 #[v17] 25], [bx b5 #[.i6 0, .i6 0] 29], [bx b4 #[nilS] 25], [bx b3 #[nilS] 25], [bx b2 #[vq_1] 25], [bx b1 #[vp_1] 25], c7] fr w) ?_ ?_
          ·clear hm; obtain ⟨hc9, hm⟩ | ⟨hc9, hm⟩ := ite_or hx6
           ·refine wl_ev (wg F rfl rfl rfl rfl hc9) (ev_fieldAddr' tu25 tf25_0 (z := 0) ts23 rfl ⟨_, rfl⟩ rfl) F S rfl rfl ?_; clear F a; intro a F
            refine wl_ev (wg F rfl rfl rfl rfl hc9) (ev_load1 tu23 rfl rfl (box_ptr (cells := [vq_1]) 5 rfl 0 rfl (lb rfl))) F S rfl rfl ?_; clear F a; intro a F
            refine wl_ev (wg F rfl rfl rfl rfl hc9) (ev_move rfl) F S rfl rfl ?_; clear F a; intro a F
            obtain ⟨y18, hy18, hm⟩ := bind_some hm
            obtain ⟨cs9, hr13, hp7⟩ := elemS (hq_1.mono (((l1.trans l18).trans l22).trans l24)) hy18
            obtain ⟨v27, v28, rfl, h29, h30⟩ := rep_Hunk hr13
            refine wl_ev (wg F rfl rfl rfl rfl hc9) (ev_idxS (hq_1.mono (((l1.trans l18).trans l22).trans l24)) hy18 tu23 ts69 rfl rfl) F S rfl rfl ?_; clear F a; intro a F
            refine wl_ev (wg F rfl rfl rfl rfl hc9) (ev_loadA tu69 rfl (cs := [.i6 y18.At, v27, v28]) ts69 rfl (ptr_mono (cks := [[bx b8 #[nilS] 25], [bx b7 #[v17] 25], [bx b5 #[.i6 0, .i6 0] 29], [bx b4 #[nilS] 25], [bx b3 #[nilS] 25], [bx b2 #[vq_1] 25], [bx b1 #[vp_1] 25], c7]) (fr := fr) hp7 (Le.refl _))) F S rfl rfl ?_; clear F a; intro a F
            obtain ⟨y19, hy19, hm⟩ := bind_some hm
            refine wl_call0 (wg F rfl rfl rfl rfl hc9) rfl F rfl (changeforgeref1_End_ok (fr := (fl [[bx b8 #[nilS] 25], [bx b7 #[v17] 25], [bx b5 #[.i6 0, .i6 0] 29], [bx b4 #[nilS] 25], [bx b3 #[nilS] 25], [bx b2 #[vq_1] 25], [bx b1 #[vp_1] 25], c7] fr)) y18 v27 h29 v28 h30 S hy19) rfl tc80 rfl rfl ?_; clear F a S
            rintro _ a w ⟨g26, l26, S, rfl⟩ F; replace S : St g26 [[bx b8 #[nilS] 25], [bx b7 #[v17] 25], [bx b5 #[.i6 0, .i6 0] 29], [bx b4 #[nilS] 25], [bx b3 #[nilS] 25], [bx b2 #[vq_1] 25], [bx b1 #[vp_1] 25], c7] fr w := S
            refine wl_ev (wg F rfl rfl rfl rfl hc9) (ev_move rfl) F S rfl rfl ?_; clear F a; intro a F
            refine wl_ev (wg F rfl rfl rfl rfl hc9) (ev_int rfl rfl (bo_geq _ _ _ _)) F S rfl rfl ?_; clear F a; intro a F
            refine wE (ev_pickT rfl hc9 rfl) F S rfl fun a F=>?_
            obtain rfl := sinj hm
            refine wpList_nil (then_n ?_); exact ⟨g26, F.sub ⟨rfl, rfl, rfl, rfl, rfl, rfl, rfl, rfl, rfl, rfl, rfl, rfl, trivial⟩, l26, S⟩
           ·refine wl_skip rfl rfl rfl rfl (ne_tf hc9) F rfl rfl ?_; clear F a; intro a F
            refine wl_skip rfl rfl rfl rfl (ne_tf hc9) F rfl rfl ?_; clear F a; intro a F
            refine wl_skip rfl rfl rfl rfl (ne_tf hc9) F rfl rfl ?_; clear F a; intro a F
            refine wl_skip rfl rfl rfl rfl (ne_tf hc9) F rfl rfl ?_; clear F a; intro a F
            refine wl_skip rfl rfl rfl rfl (ne_tf hc9) F rfl rfl ?_; clear F a; intro a F
            refine wl_skip rfl rfl rfl rfl (ne_tf hc9) F rfl rfl ?_; clear F a; intro a F
            refine wl_skip rfl rfl rfl rfl (ne_tf hc9) F rfl rfl ?_; clear F a; intro a F
            refine wl_skip rfl rfl rfl rfl (ne_tf hc9) F rfl rfl ?_; clear F a; intro a F
            refine wE (ev_pickF rfl hc9 rfl) F S rfl fun a F=>?_
            obtain rfl := sinj hm
            refine wpList_nil (then_n ?_); exact ⟨g24, F.sub ⟨rfl, rfl, rfl, rfl, rfl, rfl, rfl, rfl, rfl, rfl, rfl, rfl, trivial⟩, (Le.refl _), S⟩
          clear F S; rintro a w ⟨g25, F, l25, S⟩
          refine wpList_nil ?_
          refine then_n ?_
          obtain ⟨hc10, hm⟩ | ⟨hc10, hm⟩ := ite_or hm
          ·refine wp_condT F rfl hc10 ?_
           refine wp_seq ?_
           refine wp_region_lit ?_
           refine wE (ev_build (parts := []) (vs := []) rfl (fun w => tb25_  w)) F S rfl fun a F=>?_
           refine wE (ev_build (parts := []) (vs := []) rfl (fun w => tb25_  w)) F S rfl fun a F=>?_
           refine wE (ev_build (parts := []) (vs := []) rfl (fun w => tb29_  w)) F S rfl fun a F=>?_
           refine wl_storeC (wn rfl) rfl F S rfl rfl (vs := [nilS]) rfl ts25 (one_cons rfl one_nil) (k := 4) rfl (lb rfl) (c' := #[nilS]) rfl rfl ?_; clear S; intro w S
           refine wl_storeC (wn rfl) rfl F S rfl rfl (vs := [nilS]) rfl ts25 (one_cons rfl one_nil) (k := 3) rfl (lb rfl) (c' := #[nilS]) rfl rfl ?_; clear S; intro w S
           refine wE (ev_assign rfl) F S rfl fun a F=>?_
           refine wl_storeC (wn rfl) rfl F S rfl rfl (vs := [.i6 0, .i6 0]) rfl ts29 (one_cons rfl (one_cons rfl one_nil)) (k := 2) rfl (lb rfl) (c' := #[.i6 0, .i6 0]) rfl rfl ?_; clear S; intro w S
           refine wpList_nil ?_
           refine then_n ?_
           refine wp_ret ?_
           refine then_r ?_
           refine inb_r ?_
           refine then_r ?_
           refine then_r ?_
           refine inb_r ?_
           refine then_r ?_
           refine inb_r ?_
           refine then_r ?_
           refine then_r ?_
           refine inb_r ?_
           refine then_r ?_
           obtain rfl := sinj hm
           obtain rfl := hfin4 _ rfl
           clear hm
           have hm : (some (Step.done (Sum.inl (({ Hunks := [] } : Patch), ({ Hunks := [] } : Patch), false, ({ Code := 0, Index := 0 } : Fault)))) : Option (Step (Int × (List Hunk)) ((Patch × Patch × Bool × Fault) ⊕ (List Hunk)))) = some _ := hmo4
           obtain rfl := sinj hm
           obtain rfl := hfin3 _ rfl
           clear hm
           have hm : (some (({ Hunks := [] } : Patch), ({ Hunks := [] } : Patch), false, ({ Code := 0, Index := 0 } : Fault)) : Option (Patch × Patch × Bool × Fault)) = some _ := hmo3
           obtain rfl := sinj hm
           refine post_r _ F rfl (ar_cons (resA rfl tu25 rfl (box_ptr (cells := [nilS]) 4 rfl 0 rfl (lb rfl) w S) ts25) (ar_cons (resA rfl tu25 rfl (box_ptr (cells := [nilS]) 3 rfl 0 rfl (lb rfl) w S) ts25) (ar_cons (resT rfl) (ar_cons (resA rfl tu29 rfl (box_ptr (cells := [.i6 0, .i6 0]) 2 rfl 0 rfl (lb rfl) w S) ts29) ar_nil)))) ?_
           replace S : St g25 [] fr w := St.tail [] _ S
           exact ⟨_, rfl, g25, (nilS), (nilS), ((((l1.trans l18).trans l22).trans l24).trans l25), S, (RepSl.nil _), (RepSl.nil _), rfl⟩
          ·refine wp_condF F rfl hc10 ?_
           refine wp_skip ?_
           refine then_n ?_
           refine wp_seq ?_
           refine wp_region_lit ?_
           refine wE (ev_move rfl) F S rfl fun a F=>?_
           refine wE (ev_fieldAddr' tu25 tf25_0 (z := 0) ts23 rfl ⟨_, rfl⟩ rfl) F S rfl fun a F=>?_
           refine wE (ev_load1 tu23 rfl rfl (box_ptr (cells := [vq_1]) 5 rfl 0 rfl (lb rfl))) F S rfl fun a F=>?_
           refine wE (ev_move rfl) F S rfl fun a F=>?_
           obtain ⟨y20, hy20, hm⟩ := bind_some hm
           obtain ⟨cs10, hr14, hp8⟩ := elemS (hq_1.mono ((((l1.trans l18).trans l22).trans l24).trans l25)) hy20
           obtain ⟨v29, v30, rfl, h31, h32⟩ := rep_Hunk hr14
           refine wE (ev_idxS (hq_1.mono ((((l1.trans l18).trans l22).trans l24).trans l25)) hy20 tu23 ts69 rfl rfl) F S rfl fun a F=>?_
           have hp9 := PtrC.field hp8 0 1 (lb rfl)
           have hp9 : PtrC g25 (addP (elemP vq_1 x13 3) 0) [.i6 y20.At] := hp9
           refine wE (ev_fieldAddr' tu69 tf69_0 (z := 0) ts3 rfl hp8.ptr rfl) F S rfl fun a F=>?_
           refine wE (ev_load1 tu3 rfl rfl (ptr_mono (cks := [[bx b8 #[nilS] 25], [bx b7 #[v17] 25], [bx b5 #[.i6 0, .i6 0] 29], [bx b4 #[nilS] 25], [bx b3 #[nilS] 25], [bx b2 #[vq_1] 25], [bx b1 #[vp_1] 25], c7]) (fr := fr) hp9 (Le.refl _))) F S rfl fun a F=>?_
           refine wE (ev_int rfl rfl (bo_lss _ _ _ _)) F S rfl fun a F=>?_
           refine wpList_nil ?_
           refine then_n ?_
           obtain ⟨hc11, hm⟩ | ⟨hc11, hm⟩ := ite_or hm
           ·refine wp_condT F rfl hc11 ?_
            refine wp_region_lit ?_
            refine wE (ev_move rfl) F S rfl fun a F=>?_
            refine wE (ev_fieldAddr' tu25 tf25_0 (z := 0) ts23 rfl ⟨_, rfl⟩ rfl) F S rfl fun a F=>?_
            refine wE (ev_load1 tu23 rfl rfl (box_ptr (cells := [vp_1]) 6 rfl 0 rfl (lb rfl))) F S rfl fun a F=>?_
            refine wE (ev_move rfl) F S rfl fun a F=>?_
            obtain ⟨y21, hy21, hm⟩ := bind_some hm
            obtain ⟨cs11, hr15, hp10⟩ := elemS (hp_1.mono ((((l1.trans l18).trans l22).trans l24).trans l25)) hy21
            obtain ⟨v31, v32, rfl, h33, h34⟩ := rep_Hunk hr15
            refine wE (ev_idxS (hp_1.mono ((((l1.trans l18).trans l22).trans l24).trans l25)) hy21 tu23 ts69 rfl rfl) F S rfl fun a F=>?_
            refine wE (ev_loadA tu69 rfl (cs := [.i6 y21.At, v31, v32]) ts69 rfl (ptr_mono (cks := [[bx b8 #[nilS] 25], [bx b7 #[v17] 25], [bx b5 #[.i6 0, .i6 0] 29], [bx b4 #[nilS] 25], [bx b3 #[nilS] 25], [bx b2 #[vq_1] 25], [bx b1 #[vp_1] 25], c7]) (fr := fr) hp10 (Le.refl _))) F S rfl fun a F=>?_
            obtain ⟨y22, hy22, hm⟩ := bind_some hm
            refine wl_call0 (wn rfl) rfl F rfl (changeforgeref1_Growth_ok (fr := (fl [[bx b8 #[nilS] 25], [bx b7 #[v17] 25], [bx b5 #[.i6 0, .i6 0] 29], [bx b4 #[nilS] 25], [bx b3 #[nilS] 25], [bx b2 #[vq_1] 25], [bx b1 #[vp_1] 25], c7] fr)) y21 v31 h33 v32 h34 S hy22) rfl tc81 rfl rfl ?_; clear F a S
            rintro _ a w ⟨g27, l27, S, rfl⟩ F; replace S : St g27 [[bx b8 #[nilS] 25], [bx b7 #[v17] 25], [bx b5 #[.i6 0, .i6 0] 29], [bx b4 #[nilS] 25], [bx b3 #[nilS] 25], [bx b2 #[vq_1] 25], [bx b1 #[vp_1] 25], c7] fr w := S
            obtain ⟨z6, hz6, hm⟩ := bind_some hm
            refine wE (ev_int rfl rfl (bo_sub hz6)) F S rfl fun a F=>?_
            refine wE (ev_assign rfl) F S rfl fun a F=>?_
            refine wpList_nil ?_
            refine inb_n ?_
            refine then_n ?_
            exact ⟨z6, g27, F.sub ⟨rfl, rfl, rfl, rfl, rfl, rfl, rfl, rfl, rfl, rfl, trivial⟩, ((l24.trans l25).trans l27), S, hm⟩
           ·refine wp_condF F rfl hc11 ?_
            refine wp_skip ?_
            refine inb_n ?_
            refine then_n ?_
            exact ⟨x19, g25, F.sub ⟨rfl, rfl, rfl, rfl, rfl, rfl, rfl, rfl, rfl, rfl, trivial⟩, (l24.trans l25), S, hm⟩
         ·clear F S hm; rintro a w ⟨x21, g23, F, l23, S, hm⟩
          refine wp_region_lit ?_
          refine wE (ev_move rfl) F S rfl fun a F=>?_
          obtain ⟨z5, hz5, hm⟩ := bind_some hm
          refine wE (ev_int rfl rfl (bo_add hz5)) F S rfl fun a F=>?_
          refine wE (ev_assign rfl) F S rfl fun a F=>?_
          refine wpList_nil ?_
          refine then_n ?_
          obtain rfl := sinj hm
          refine ⟨_, rfl, ?_⟩
          dsimp only
          exact ⟨g23, F.sub ⟨rfl, rfl, rfl, rfl, rfl, rfl, rfl, rfl, rfl, rfl, trivial⟩, (l22.trans l23), S⟩
        ·refine wp_condF F rfl hc8 ?_
         refine wp_exit ?_
         refine then_e ?_
         refine then_e ?_
         refine inb_x ?_
         refine then_n ?_
         obtain rfl := sinj hm
         obtain rfl := hfin4 _ rfl
         clear hm
         have hm : (changeforgeref1_Commute.j7 q_ x13 x14 x19 : Option (Step (Int × (List Hunk)) ((Patch × Patch × Bool × Fault) ⊕ (List Hunk)))) = some _ := hmo4
         exact ⟨x19, g22, F.sub ⟨rfl, rfl, rfl, rfl, rfl, rfl, rfl, rfl, rfl, trivial⟩, l22, S, hm⟩
      ·clear F S hm; rintro a w ⟨x17, g20, F, l20, S, hm⟩
       refine wp_dv [] mo S ?_; clear S; intro ok4 w S
       refine dv_et ok4 0 rfl (ev_fieldAddr' tu25 tf25_0 (z := 0) ts23 rfl ⟨_, rfl⟩ rfl) F rfl fun a F=>?_
       refine dv_ev ok4 1 rfl (ev_load1 tu23 rfl rfl (box_ptr (cells := [v17]) 1 rfl 0 rfl (lb rfl))) F S rfl fun a F=>?_
       refine dv_et ok4 2 rfl (ev_fieldAddr' tu25 tf25_0 (z := 0) ts23 rfl ⟨_, rfl⟩ rfl) F rfl fun a F=>?_
       refine dv_ev ok4 3 rfl (ev_load1 tu23 rfl rfl (box_ptr (cells := [vq_1]) 5 rfl 0 rfl (lb rfl))) F S rfl fun a F=>?_
       refine dv_et ok4 4 rfl (ev_move rfl) F rfl fun a F=>?_
       obtain ⟨y13, hy13, hm⟩ := bind_some hm
       obtain ⟨cs6, hr9, hp4⟩ := elemS (hq_1.mono ((l1.trans l18).trans l20)) hy13
       obtain ⟨v19, v20, rfl, h21, h22⟩ := rep_Hunk hr9
       refine dv_et ok4 5 rfl (ev_idxS (hq_1.mono ((l1.trans l18).trans l20)) hy13 tu23 ts69 rfl rfl) F rfl fun a F=>?_
       refine dv_ev ok4 6 rfl (ev_loadA tu69 rfl (cs := [.i6 y13.At, v19, v20]) ts69 rfl (ptr_mono (cks := [[bx b8 #[nilS] 25], [bx b7 #[v17] 25], [bx b5 #[.i6 0, .i6 0] 29], [bx b4 #[nilS] 25], [bx b3 #[nilS] 25], [bx b2 #[vq_1] 25], [bx b1 #[vp_1] 25], c7]) (fr := fr) hp4 (Le.refl _))) F S rfl fun a F=>?_
       refine dv_et ok4 7 rfl (ev_move rfl) F rfl fun a F=>?_
       refine dv_op ok4 8 rfl [(1, v17)] ?_
       obtain ⟨y14, hy14, hm⟩ := bind_some hm
       refine wl_call0 (wn rfl) rfl F rfl (changeforgeref1_moved_ok (fr := (fl [[bx b8 #[nilS] 25], [bx b7 #[v17] 25], [bx b5 #[.i6 0, .i6 0] 29], [bx b4 #[nilS] 25], [bx b3 #[nilS] 25], [bx b2 #[vq_1] 25], [bx b1 #[vp_1] 25], c7] fr)) y13 v19 h21 v20 h22 x17 S hy14) rfl tc82 rfl rfl ?_; clear F a S
       rintro _ a w ⟨g21, v21, v22, l21, S, h23, h24, rfl⟩ F; replace S : St g21 [[bx b8 #[nilS] 25], [bx b7 #[v17] 25], [bx b5 #[.i6 0, .i6 0] 29], [bx b4 #[nilS] 25], [bx b3 #[nilS] 25], [bx b2 #[vq_1] 25], [bx b1 #[vp_1] 25], c7] fr w := S
       refine dv_nx ⟨yl_ev rfl rfl (ev_load1 tu23 rfl rfl (box_ptr (cells := [v17]) 1 rfl 0 rfl (lb rfl))) F S, trivial⟩ ?_
       refine dv_op ok4 9 rfl [(1, v17)] ?_
       refine wl_lit (l := ([y14] : List Hunk)) (vs := [.agg #[.i6 y14.At, v21, v22]]) (parts := [(0, .tmp 93)]) (wn rfl) rfl rfl rfl tu23 te69 (sz_cons rfl sz_nil) rfl (Cat.cons (rep_Hunk_mk (x := y14) h23 h24) (Cat.nil _)) (coa_cons rfl coa_nil) rfl F S rfl rfl ?_; clear F a S
       rintro v23 c9 a w h25 F S
       refine dv_nx ⟨yl_ev rfl rfl (ev_load1 tu23 rfl rfl (box_ptr (cells := [v17]) 2 rfl 0 rfl (lb rfl))) F S, trivial⟩ ?_
       refine dv_op ok4 10 rfl [] ?_
       obtain ⟨cs7, hk2, hr10⟩ := OwnS.reads h25
       obtain ⟨y15, hy15, hm⟩ := bind_some hm
       refine wl_append (wn rfl) rfl tu23 tu23 te69 (by decide) (by decide) F S rfl rfl (k := 8) rfl (h19.mono (l20.trans l21)) hk2 rfl (hr10 _ _ _ 0 rfl S) hy15 rfl rfl ?_; clear F a S
       rintro v24 c10 a w h26 S F; replace S : St g21 [c9, [bx b8 #[nilS] 25], [bx b7 #[v17] 25], [bx b5 #[.i6 0, .i6 0] 29], [bx b4 #[nilS] 25], [bx b3 #[nilS] 25], [bx b2 #[vq_1] 25], [bx b1 #[vp_1] 25], c10] fr w := S
       refine dv_nx trivial ?_
       refine dv_et ok4 11 rfl (ev_fieldAddr' tu25 tf25_0 (z := 0) ts23 rfl ⟨_, rfl⟩ rfl) F rfl fun a F=>?_
       refine dv_op ok4 12 rfl [] ?_
       refine wl_storeC (wn rfl) rfl F S rfl rfl (vs := [v24]) (OwnS.cl h26) ts23 (one_cons (OwnS.one h26) one_nil) (k := 2) rfl (lb rfl) (c' := #[v24]) rfl rfl ?_; clear S; intro w S
       refine dv_nx trivial ?_
       refine dv_fin ok4 ?_
       refine inb_n ?_
       refine then_n ?_
       replace S : St g21 [[bx b8 #[nilS] 25], [bx b7 #[v24] 25], [bx b5 #[.i6 0, .i6 0] 29], [bx b4 #[nilS] 25], [bx b3 #[nilS] 25], [bx b2 #[vq_1] 25], [bx b1 #[vp_1] 25], c10] fr w := St.tail [[bx b8 #[nilS] 25], [bx b7 #[v24] 25], [bx b5 #[.i6 0, .i6 0] 29], [bx b4 #[nilS] 25], [bx b3 #[nilS] 25], [bx b2 #[vq_1] 25], [bx b1 #[vp_1] 25], c10] _ ((((((((S.frontC 8 rfl).frontC 8 rfl).frontC 8 rfl).frontC 8 rfl).frontC 8 rfl).frontC 8 rfl).frontC 8 rfl).frontC 8 rfl)
       exact ⟨y15, v24, c10, g21, F.sub ⟨rfl, rfl, rfl, rfl, rfl, rfl, rfl, rfl, trivial⟩, (l20.trans l21), S, h26, hm⟩
     ·clear F S hm; rintro a w ⟨x16, v18, c8, g19, F, l19, S, h20, hm⟩
      refine wp_region_lit ?_
      refine wE (ev_move rfl) F S rfl fun a F=>?_
      obtain ⟨z4, hz4, hm⟩ := bind_some hm
      refine wE (ev_int rfl rfl (bo_add hz4)) F S rfl fun a F=>?_
      refine wE (ev_assign rfl) F S rfl fun a F=>?_
      refine wpList_nil ?_
      refine then_n ?_
      obtain rfl := sinj hm
      refine ⟨_, rfl, ?_⟩
      dsimp only
      exact ⟨v18, c8, g19, F.sub ⟨rfl, rfl, rfl, rfl, rfl, rfl, rfl, rfl, trivial⟩, (l18.trans l19), S, h20⟩
    ·refine wp_condF F rfl hc7 ?_
     refine wp_exit ?_
     refine then_e ?_
     refine then_e ?_
     refine inb_x ?_
     refine then_n ?_
     obtain rfl := sinj hm
     obtain rfl := hfin3 _ rfl
     clear hm
     have hm : (changeforgeref1_Commute.j1 p_ x14 : Option (Patch × Patch × Bool × Fault)) = some _ := hmo3
     replace S : St g18 [[bx b8 #[nilS] 25], [bx b7 #[v17] 25], [bx b5 #[.i6 0, .i6 0] 29], [bx b4 #[nilS] 25], [bx b3 #[nilS] 25], [bx b1 #[vp_1] 25], c7] fr w := St.tail [[bx b8 #[nilS] 25], [bx b7 #[v17] 25], [bx b5 #[.i6 0, .i6 0] 29], [bx b4 #[nilS] 25], [bx b3 #[nilS] 25], [bx b1 #[vp_1] 25], c7] _ (((((((S.frontC 7 rfl).frontC 7 rfl).frontC 6 rfl).frontC 6 rfl).frontC 6 rfl).frontC 6 rfl).frontC 6 rfl)
     exact ⟨x14, v17, c7, g18, F.sub ⟨rfl, rfl, rfl, rfl, rfl, rfl, trivial⟩, l18, S, h19, hm⟩
  ·clear F S hm; rintro a w ⟨x1, v1, c1, g2, F, l2, S, h1, hm⟩
   refine wp_cut (fun a w => ∃ (x2 : List Hunk) (v2 : Value) (c2 : Hl) (g3 : Gh), Fr 160 a [(10, bp b8 0), (9, bp b7 0), (7, bp b5 0), (5, bp b4 0), (4, bp b3 0)] ∧ Le g2 g3 ∧ St g3 [[bx b8 #[v2] 25], [bx b7 #[v1] 25], [bx b5 #[.i6 0, .i6 0] 29], [bx b4 #[nilS] 25], [bx b3 #[nilS] 25], c2, c1] fr w ∧ OwnS g3 x2 v2 c2 ∧ changeforgeref1_Commute.j2 x1 x2 = some r) ?_ ?_
   ·refine wp_seq ?_
    refine wp_region_lit ?_
    refine wE (ev_assign rfl) F S rfl fun a F=>?_
    refine wpList_nil ?_
    refine then_n ?_
    refine wp_block ?_
    obtain ⟨r1, hr1, hm⟩ := bind_some hm
    have hmo1 := hm; clear hm
    refine wp_iter (σ := Int × (List Hunk)) (ρ := (List Hunk)) (m := fun s => changeforgeref1_Commute.l1 p_ x1 s.1 s.2) (I := fun s a w => match s with | (x4, x5) => ∃ (v3 : Value) (c3 : Hl) (g10 : Gh), Fr 160 a [(16, .i6 x4), (10, bp b8 0), (9, bp b7 0), (7, bp b5 0), (5, bp b4 0), (4, bp b3 0), (2, bp b1 0)] ∧ Le g2 g10 ∧ St g10 [[bx b8 #[v3] 25], [bx b7 #[v1] 25], [bx b5 #[.i6 0, .i6 0] 29], [bx b4 #[nilS] 25], [bx b3 #[nilS] 25], [bx b1 #[vp_1] 25], c3, c1] fr w ∧ OwnS g10 x5 v3 c3) hr1 ?_ ?_
    ·dsimp only
     replace S : St g2 [[], [bx b8 #[nilS] 25], [bx b7 #[v1] 25], [bx b5 #[.i6 0, .i6 0] 29], [bx b4 #[nilS] 25], [bx b3 #[nilS] 25], [bx b1 #[vp_1] 25], c1] fr w := S
     replace S : St g2 [[bx b8 #[nilS] 25], [bx b7 #[v1] 25], [bx b5 #[.i6 0, .i6 0] 29], [bx b4 #[nilS] 25], [bx b3 #[nilS] 25], [bx b1 #[vp_1] 25], [], c1] fr w := St.tail [[bx b8 #[nilS] 25], [bx b7 #[v1] 25], [bx b5 #[.i6 0, .i6 0] 29], [bx b4 #[nilS] 25], [bx b3 #[nilS] 25], [bx b1 #[vp_1] 25], [], c1] _ ((((((((S.frontC 7 rfl).frontC 1 rfl).frontC 8 rfl).frontC 8 rfl).frontC 8 rfl).frontC 8 rfl).frontC 8 rfl).frontC 8 rfl)
     exact ⟨(nilS), [], g2, F.sub ⟨rfl, rfl, rfl, rfl, rfl, rfl, rfl, trivial⟩, (Le.refl _), S, (OwnS.nil _)⟩
    ·clear F S; rintro ⟨x4, x5⟩ a w x6 ⟨v3, c3, g10, F, l10, S, h5⟩ hx2 hfin1
     have hm : changeforgeref1_Commute.l1 p_ x1 x4 x5 = some x6 := hx2; clear hx2
     unfold changeforgeref1_Commute.l1 at hm
     refine wp_seq ?_
     refine wp_seq ?_
     refine wp_region_lit ?_
     refine wE (ev_move rfl) F S rfl fun a F=>?_
     refine wE (ev_fieldAddr' tu25 tf25_0 (z := 0) ts23 rfl ⟨_, rfl⟩ rfl) F S rfl fun a F=>?_
     refine wE (ev_load1 tu23 rfl rfl (box_ptr (cells := [vp_1]) 5 rfl 0 rfl (lb rfl))) F S rfl fun a F=>?_
     refine wE (ev_lenSh hp_1 rfl tu23) F S rfl fun a F=>?_
     refine wE (ev_int rfl rfl (bo_lss _ _ _ _)) F S rfl fun a F=>?_
     refine wpList_nil ?_
     refine then_n ?_
     obtain ⟨hc4, hm⟩ | ⟨hc4, hm⟩ := ite_or hm
     ·refine wp_condT F rfl hc4 ?_
      refine wp_skip ?_
      refine then_n ?_
      refine wp_cut (fun a w => ∃ (x7 : List Hunk) (v4 : Value) (c4 : Hl) (g11 : Gh), Fr 160 a [(16, .i6 x4), (10, bp b8 0), (9, bp b7 0), (7, bp b5 0), (5, bp b4 0), (4, bp b3 0), (2, bp b1 0)] ∧ Le g10 g11 ∧ St g11 [[bx b8 #[v4] 25], [bx b7 #[v1] 25], [bx b5 #[.i6 0, .i6 0] 29], [bx b4 #[nilS] 25], [bx b3 #[nilS] 25], [bx b1 #[vp_1] 25], c4, c1] fr w ∧ OwnS g11 x7 v4 c4 ∧ changeforgeref1_Commute.j3 x4 x7 = some x6) ?_ ?_
      ·refine wp_block ?_
       refine wp_seq ?_
       refine wp_region_lit ?_
       refine wE (ev_assign rfl) F S rfl fun a F=>?_
       refine wpList_nil ?_
       refine then_n ?_
       refine wp_cut (fun a w => ∃ (x8 : Int) (g12 : Gh), Fr 160 a [(17, .i6 x8), (16, .i6 x4), (10, bp b8 0), (9, bp b7 0), (7, bp b5 0), (5, bp b4 0), (4, bp b3 0), (2, bp b1 0)] ∧ Le g10 g12 ∧ St g12 [[bx b8 #[v3] 25], [bx b7 #[v1] 25], [bx b5 #[.i6 0, .i6 0] 29], [bx b4 #[nilS] 25], [bx b3 #[nilS] 25], [bx b1 #[vp_1] 25], c3, c1] fr w ∧ changeforgeref1_Commute.j4 p_ x4 x5 x8 = some x6) ?_ ?_
       ·refine wp_seq ?_
        refine wp_region_lit ?_
        refine wE (ev_assign rfl) F S rfl fun a F=>?_
        refine wpList_nil ?_
        refine then_n ?_
        refine wp_block ?_
        obtain ⟨r2, hr4, hm⟩ := bind_some hm
        have hmo2 := hm; clear hm
        refine wp_iter (σ := Int × Int) (ρ := Int) (m := fun s => changeforgeref1_Commute.l2 p_ x1 x4 s.1 s.2) (I := fun s a w => match s with | (x9, x10) => ∃ (g14 : Gh), Fr 160 a [(18, .i6 x9), (17, .i6 x10), (16, .i6 x4), (10, bp b8 0), (9, bp b7 0), (7, bp b5 0), (5, bp b4 0), (4, bp b3 0), (2, bp b1 0)] ∧ Le g10 g14 ∧ St g14 [[bx b8 #[v3] 25], [bx b7 #[v1] 25], [bx b5 #[.i6 0, .i6 0] 29], [bx b4 #[nilS] 25], [bx b3 #[nilS] 25], [bx b1 #[vp_1] 25], c3, c1] fr w) hr4 ?_ ?_
        ·dsimp only
         exact ⟨g10, F.sub ⟨rfl, rfl, rfl, rfl, rfl, rfl, rfl, rfl, rfl, trivial⟩, (Le.refl _), S⟩
        ·clear F S; rintro ⟨x9, x10⟩ a w x11 ⟨g14, F, l14, S⟩ hx3 hfin2
         have hm : changeforgeref1_Commute.l2 p_ x1 x4 x9 x10 = some x11 := hx3; clear hx3
         unfold changeforgeref1_Commute.l2 at hm
         refine wp_seq ?_
         refine wp_seq ?_
         refine wp_region_lit ?_
         refine wE (ev_move rfl) F S rfl fun a F=>?_
         refine wE (ev_fieldAddr' tu25 tf25_0 (z := 0) ts23 rfl ⟨_, rfl⟩ rfl) F S rfl fun a F=>?_
         refine wE (ev_load1 tu23 rfl rfl (box_ptr (cells := [v1]) 1 rfl 0 rfl (lb rfl))) F S rfl fun a F=>?_
         refine wE (ev_lenOw h1 rfl tu23) F S rfl fun a F=>?_
         refine wE (ev_int rfl rfl (bo_lss _ _ _ _)) F S rfl fun a F=>?_
         refine wpList_nil ?_
         refine then_n ?_
         obtain ⟨hc5, hm⟩ | ⟨hc5, hm⟩ := ite_or hm
         ·refine wp_condT F rfl hc5 ?_
          refine wp_skip ?_
          refine then_n ?_
          refine wp_cut (fun a w => ∃ (x12 : Int) (g15 : Gh), Fr 160 a [(17, .i6 x12), (18, .i6 x9), (16, .i6 x4), (10, bp b8 0), (9, bp b7 0), (7, bp b5 0), (5, bp b4 0), (4, bp b3 0), (2, bp b1 0)] ∧ Le g14 g15 ∧ St g15 [[bx b8 #[v3] 25], [bx b7 #[v1] 25], [bx b5 #[.i6 0, .i6 0] 29], [bx b4 #[nilS] 25], [bx b3 #[nilS] 25], [bx b1 #[vp_1] 25], c3, c1] fr w ∧ changeforgeref1_Commute.j5 x9 x12 = some x11) ?_ ?_
          ·refine wp_block ?_
           refine wp_seq ?_
           refine wp_quiet mo (by kernel_rfl) S ?_
           refine wq_ev (wn rfl) (ev_fieldAddr' tu25 tf25_0 (z := 0) ts23 rfl ⟨_, rfl⟩ rfl) F rfl rfl ?_; clear F a; intro a F
           refine wq_ev (wn rfl) (ev_load1 tu23 rfl rfl (box_ptr (cells := [v1]) 1 rfl 0 rfl (lb rfl))) F rfl rfl ?_; clear F a; intro a F
           refine wq_ev (wn rfl) (ev_move rfl) F rfl rfl ?_; clear F a; intro a F
           obtain ⟨y8, hy8, hm⟩ := bind_some hm
           refine wq_ev (wn rfl) (ev_idxO (h1.mono (l10.trans l14)) hy8 tu23 ts69 rfl rfl) F rfl rfl ?_; clear F a; intro a F
           obtain ⟨cs3, hr5, hq1⟩ := elemO (h1.mono (l10.trans l14)) hy8
           obtain ⟨v11, v12, rfl, h13, h14⟩ := rep_Hunk hr5
           refine wq_ev (wn rfl) (ev_loadA tu69 rfl (cs := [.i6 y8.At, v11, v12]) ts69 rfl (hq1 _ _ 7 rfl)) F rfl rfl ?_; clear F a; intro a F
           obtain ⟨y9, hy9, hm⟩ := bind_some hm
           refine wq_call (wn rfl) rfl (xs := [.tmp 115]) (vs := [.agg #[.i6 y8.At, v11, v12]]) (cap := []) F rfl rfl tc80 (v := .i6 y9) (fun w S => (changeforgeref1_End_ok (g := g14) (fr := (fl [[bx b8 #[v3] 25], [bx b7 #[v1] 25], [bx b5 #[.i6 0, .i6 0] 29], [bx b4 #[nilS] 25], [bx b3 #[nilS] 25], [bx b1 #[vp_1] 25], c3, c1] fr)) (w := w) y8 v11 h13 v12 h14 S hy9).mono (by rintro en w' ⟨_, rfl, g2, l2, S2, rfl⟩; exact ⟨rfl, S2.weak l2⟩)) rfl rfl ?_; clear F a; intro a F
           refine wq_ev (wn rfl) (ev_fieldAddr' tu25 tf25_0 (z := 0) ts23 rfl ⟨_, rfl⟩ rfl) F rfl rfl ?_; clear F a; intro a F
           refine wq_ev (wn rfl) (ev_load1 tu23 rfl rfl (box_ptr (cells := [vp_1]) 5 rfl 0 rfl (lb rfl))) F rfl rfl ?_; clear F a; intro a F
           refine wq_ev (wn rfl) (ev_move rfl) F rfl rfl ?_; clear F a; intro a F
           obtain ⟨y10, hy10, hm⟩ := bind_some hm
           obtain ⟨cs4, hr6, hp2⟩ := elemS (hp_1.mono (((l1.trans l2).trans l10).trans l14)) hy10
           obtain ⟨v13, v14, rfl, h15, h16⟩ := rep_Hunk hr6
           refine wq_ev (wn rfl) (ev_idxS (hp_1.mono (((l1.trans l2).trans l10).trans l14)) hy10 tu23 ts69 rfl rfl) F rfl rfl ?_; clear F a; intro a F
           have hp3 := PtrC.field hp2 0 1 (lb rfl)
           have hp3 : PtrC g14 (addP (elemP vp_1 x4 3) 0) [.i6 y10.At] := hp3
           refine wq_ev (wn rfl) (ev_fieldAddr' tu69 tf69_0 (z := 0) ts3 rfl hp2.ptr rfl) F rfl rfl ?_; clear F a; intro a F
           refine wq_ev (wn rfl) (ev_load1 tu3 rfl rfl (ptr_mono (cks := [[bx b8 #[v3] 25], [bx b7 #[v1] 25], [bx b5 #[.i6 0, .i6 0] 29], [bx b4 #[nilS] 25], [bx b3 #[nilS] 25], [bx b1 #[vp_1] 25], c3, c1]) (fr := fr) hp3 (Le.refl _))) F rfl rfl ?_; clear F a; intro a F
           refine wq_ev (wn rfl) (ev_int rfl rfl (bo_lss _ _ _ _)) F rfl rfl ?_; clear F a; intro a F
           refine wq_nil ?_; clear S; intro w S
           refine then_n ?_
           obtain ⟨hc6, hm⟩ | ⟨hc6, hm⟩ := ite_or hm
           ·refine wp_condT F rfl hc6 ?_
            refine wp_region_lit ?_
            refine wE (ev_move rfl) F S rfl fun a F=>?_
            refine wE (ev_fieldAddr' tu25 tf25_0 (z := 0) ts23 rfl ⟨_, rfl⟩ rfl) F S rfl fun a F=>?_
            refine wE (ev_load1 tu23 rfl rfl (box_ptr (cells := [v1]) 1 rfl 0 rfl (lb rfl))) F S rfl fun a F=>?_
            refine wE (ev_move rfl) F S rfl fun a F=>?_
            obtain ⟨y11, hy11, hm⟩ := bind_some hm
            refine wE (ev_idxO (h1.mono (l10.trans l14)) hy11 tu23 ts69 rfl rfl) F S rfl fun a F=>?_
            obtain ⟨cs5, hr7, hq2⟩ := elemO (h1.mono (l10.trans l14)) hy11
            obtain ⟨v15, v16, rfl, h17, h18⟩ := rep_Hunk hr7
            refine wE (ev_loadA tu69 rfl (cs := [.i6 y11.At, v15, v16]) ts69 rfl (hq2 _ _ 7 rfl)) F S rfl fun a F=>?_
            obtain ⟨y12, hy12, hm⟩ := bind_some hm
            refine wl_call0 (wn rfl) rfl F rfl (changeforgeref1_Growth_ok (fr := (fl [[bx b8 #[v3] 25], [bx b7 #[v1] 25], [bx b5 #[.i6 0, .i6 0] 29], [bx b4 #[nilS] 25], [bx b3 #[nilS] 25], [bx b1 #[vp_1] 25], c3, c1] fr)) y11 v15 h17 v16 h18 S hy12) rfl tc81 rfl rfl ?_; clear F a S
            rintro _ a w ⟨g17, l17, S, rfl⟩ F; replace S : St g17 [[bx b8 #[v3] 25], [bx b7 #[v1] 25], [bx b5 #[.i6 0, .i6 0] 29], [bx b4 #[nilS] 25], [bx b3 #[nilS] 25], [bx b1 #[vp_1] 25], c3, c1] fr w := S
            obtain ⟨z3, hz3, hm⟩ := bind_some hm
            refine wE (ev_int rfl rfl (bo_add hz3)) F S rfl fun a F=>?_
            refine wE (ev_assign rfl) F S rfl fun a F=>?_
            refine wpList_nil ?_
            refine inb_n ?_
            refine then_n ?_
            exact ⟨z3, g17, F.sub ⟨rfl, rfl, rfl, rfl, rfl, rfl, rfl, rfl, rfl, trivial⟩, l17, S, hm⟩
           ·refine wp_condF F rfl hc6 ?_
            refine wp_skip ?_
            refine inb_n ?_
            refine then_n ?_
            exact ⟨x10, g14, F.sub ⟨rfl, rfl, rfl, rfl, rfl, rfl, rfl, rfl, rfl, trivial⟩, (Le.refl _), S, hm⟩
          ·clear F S hm; rintro a w ⟨x12, g15, F, l15, S, hm⟩
           refine wp_region_lit ?_
           refine wE (ev_move rfl) F S rfl fun a F=>?_
           obtain ⟨z2, hz2, hm⟩ := bind_some hm
           refine wE (ev_int rfl rfl (bo_add hz2)) F S rfl fun a F=>?_
           refine wE (ev_assign rfl) F S rfl fun a F=>?_
           refine wpList_nil ?_
           refine then_n ?_
           obtain rfl := sinj hm
           refine ⟨_, rfl, ?_⟩
           dsimp only
           exact ⟨g15, F.sub ⟨rfl, rfl, rfl, rfl, rfl, rfl, rfl, rfl, rfl, trivial⟩, (l14.trans l15), S⟩
         ·refine wp_condF F rfl hc5 ?_
          refine wp_exit ?_
          refine then_e ?_
          refine then_e ?_
          refine inb_x ?_
          refine then_n ?_
          obtain rfl := sinj hm
          obtain rfl := hfin2 _ rfl
          clear hm
          have hm : (changeforgeref1_Commute.j4 p_ x4 x5 x10 : Option (Step (Int × (List Hunk)) (List Hunk))) = some _ := hmo2
          exact ⟨x10, g14, F.sub ⟨rfl, rfl, rfl, rfl, rfl, rfl, rfl, rfl, trivial⟩, l14, S, hm⟩
       ·clear F S hm; rintro a w ⟨x8, g12, F, l12, S, hm⟩
        refine wp_dv [] mo S ?_; clear S; intro ok3 w S
        refine dv_et ok3 0 rfl (ev_fieldAddr' tu25 tf25_0 (z := 0) ts23 rfl ⟨_, rfl⟩ rfl) F rfl fun a F=>?_
        refine dv_ev ok3 1 rfl (ev_load1 tu23 rfl rfl (box_ptr (cells := [v3]) 0 rfl 0 rfl (lb rfl))) F S rfl fun a F=>?_
        refine dv_et ok3 2 rfl (ev_fieldAddr' tu25 tf25_0 (z := 0) ts23 rfl ⟨_, rfl⟩ rfl) F rfl fun a F=>?_
        refine dv_ev ok3 3 rfl (ev_load1 tu23 rfl rfl (box_ptr (cells := [vp_1]) 5 rfl 0 rfl (lb rfl))) F S rfl fun a F=>?_
        refine dv_et ok3 4 rfl (ev_move rfl) F rfl fun a F=>?_
        obtain ⟨y5, hy5, hm⟩ := bind_some hm
        obtain ⟨cs1, hr2, hp1⟩ := elemS (hp_1.mono (((l1.trans l2).trans l10).trans l12)) hy5
        obtain ⟨v5, v6, rfl, h7, h8⟩ := rep_Hunk hr2
        refine dv_et ok3 5 rfl (ev_idxS (hp_1.mono (((l1.trans l2).trans l10).trans l12)) hy5 tu23 ts69 rfl rfl) F rfl fun a F=>?_
        refine dv_ev ok3 6 rfl (ev_loadA tu69 rfl (cs := [.i6 y5.At, v5, v6]) ts69 rfl (ptr_mono (cks := [[bx b8 #[v3] 25], [bx b7 #[v1] 25], [bx b5 #[.i6 0, .i6 0] 29], [bx b4 #[nilS] 25], [bx b3 #[nilS] 25], [bx b1 #[vp_1] 25], c3, c1]) (fr := fr) hp1 (Le.refl _))) F S rfl fun a F=>?_
        refine dv_et ok3 7 rfl (ev_move rfl) F rfl fun a F=>?_
        refine dv_op ok3 8 rfl [(1, v3)] ?_
        obtain ⟨y6, hy6, hm⟩ := bind_some hm
        refine wl_call0 (wn rfl) rfl F rfl (changeforgeref1_moved_ok (fr := (fl [[bx b8 #[v3] 25], [bx b7 #[v1] 25], [bx b5 #[.i6 0, .i6 0] 29], [bx b4 #[nilS] 25], [bx b3 #[nilS] 25], [bx b1 #[vp_1] 25], c3, c1] fr)) y5 v5 h7 v6 h8 x8 S hy6) rfl tc82 rfl rfl ?_; clear F a S
        rintro _ a w ⟨g13, v7, v8, l13, S, h9, h10, rfl⟩ F; replace S : St g13 [[bx b8 #[v3] 25], [bx b7 #[v1] 25], [bx b5 #[.i6 0, .i6 0] 29], [bx b4 #[nilS] 25], [bx b3 #[nilS] 25], [bx b1 #[vp_1] 25], c3, c1] fr w := S
        refine dv_nx ⟨yl_ev rfl rfl (ev_load1 tu23 rfl rfl (box_ptr (cells := [v3]) 0 rfl 0 rfl (lb rfl))) F S, trivial⟩ ?_
        refine dv_op ok3 9 rfl [(1, v3)] ?_
        refine wl_lit (l := ([y6] : List Hunk)) (vs := [.agg #[.i6 y6.At, v7, v8]]) (parts := [(0, .tmp 140)]) (wn rfl) rfl rfl rfl tu23 te69 (sz_cons rfl sz_nil) rfl (Cat.cons (rep_Hunk_mk (x := y6) h9 h10) (Cat.nil _)) (coa_cons rfl coa_nil) rfl F S rfl rfl ?_; clear F a S
        rintro v9 c5 a w h11 F S
        refine dv_nx ⟨yl_ev rfl rfl (ev_load1 tu23 rfl rfl (box_ptr (cells := [v3]) 1 rfl 0 rfl (lb rfl))) F S, trivial⟩ ?_
        refine dv_op ok3 10 rfl [] ?_
        obtain ⟨cs2, hk1, hr3⟩ := OwnS.reads h11
        obtain ⟨y7, hy7, hm⟩ := bind_some hm
        refine wl_append (wn rfl) rfl tu23 tu23 te69 (by decide) (by decide) F S rfl rfl (k := 7) rfl (h5.mono (l12.trans l13)) hk1 rfl (hr3 _ _ _ 0 rfl S) hy7 rfl rfl ?_; clear F a S
        rintro v10 c6 a w h12 S F; replace S : St g13 [c5, [bx b8 #[v3] 25], [bx b7 #[v1] 25], [bx b5 #[.i6 0, .i6 0] 29], [bx b4 #[nilS] 25], [bx b3 #[nilS] 25], [bx b1 #[vp_1] 25], c6, c1] fr w := S
        refine dv_nx trivial ?_
        refine dv_et ok3 11 rfl (ev_fieldAddr' tu25 tf25_0 (z := 0) ts23 rfl ⟨_, rfl⟩ rfl) F rfl fun a F=>?_
        refine dv_op ok3 12 rfl [] ?_
        refine wl_storeC (wn rfl) rfl F S rfl rfl (vs := [v10]) (OwnS.cl h12) ts23 (one_cons (OwnS.one h12) one_nil) (k := 1) rfl (lb rfl) (c' := #[v10]) rfl rfl ?_; clear S; intro w S
        refine dv_nx trivial ?_
        refine dv_fin ok3 ?_
        refine inb_n ?_
        refine then_n ?_
        replace S : St g13 [[bx b8 #[v10] 25], [bx b7 #[v1] 25], [bx b5 #[.i6 0, .i6 0] 29], [bx b4 #[nilS] 25], [bx b3 #[nilS] 25], [bx b1 #[vp_1] 25], c6, c1] fr w := St.tail [[bx b8 #[v10] 25], [bx b7 #[v1] 25], [bx b5 #[.i6 0, .i6 0] 29], [bx b4 #[nilS] 25], [bx b3 #[nilS] 25], [bx b1 #[vp_1] 25], c6, c1] _ ((((((((S.frontC 8 rfl).frontC 8 rfl).frontC 8 rfl).frontC 8 rfl).frontC 8 rfl).frontC 8 rfl).frontC 8 rfl).frontC 8 rfl)
        exact ⟨y7, v10, c6, g13, F.sub ⟨rfl, rfl, rfl, rfl, rfl, rfl, rfl, trivial⟩, (l12.trans l13), S, h12, hm⟩
      ·clear F S hm; rintro a w ⟨x7, v4, c4, g11, F, l11, S, h6, hm⟩
       refine wp_region_lit ?_
       refine wE (ev_move rfl) F S rfl fun a F=>?_
       obtain ⟨z1, hz1, hm⟩ := bind_some hm
       refine wE (ev_int rfl rfl (bo_add hz1)) F S rfl fun a F=>?_
       refine wE (ev_assign rfl) F S rfl fun a F=>?_
       refine wpList_nil ?_
       refine then_n ?_
       obtain rfl := sinj hm
       refine ⟨_, rfl, ?_⟩
       dsimp only
       exact ⟨v4, c4, g11, F.sub ⟨rfl, rfl, rfl, rfl, rfl, rfl, rfl, trivial⟩, (l10.trans l11), S, h6⟩
     ·refine wp_condF F rfl hc4 ?_
      refine wp_exit ?_
      refine then_e ?_
      refine then_e ?_
      refine inb_x ?_
      refine then_n ?_
      obtain rfl := sinj hm
      obtain rfl := hfin1 _ rfl
      clear hm
      have hm : (changeforgeref1_Commute.j2 x1 x5 : Option (Patch × Patch × Bool × Fault)) = some _ := hmo1
      replace S : St g10 [[bx b8 #[v3] 25], [bx b7 #[v1] 25], [bx b5 #[.i6 0, .i6 0] 29], [bx b4 #[nilS] 25], [bx b3 #[nilS] 25], c3, c1] fr w := St.tail [[bx b8 #[v3] 25], [bx b7 #[v1] 25], [bx b5 #[.i6 0, .i6 0] 29], [bx b4 #[nilS] 25], [bx b3 #[nilS] 25], c3, c1] _ (((((((S.frontC 7 rfl).frontC 7 rfl).frontC 6 rfl).frontC 6 rfl).frontC 6 rfl).frontC 6 rfl).frontC 6 rfl)
      exact ⟨x5, v3, c3, g10, F.sub ⟨rfl, rfl, rfl, rfl, rfl, trivial⟩, l10, S, h5, hm⟩
   ·clear F S hm; rintro a w ⟨x2, v2, c2, g3, F, l3, S, h2, hm⟩
    refine wp_seq ?_
    refine wp_seq ?_
    refine wp_region_lit ?_
    refine wE (ev_loadA tu25 rfl (cs := [v1]) ts25 rfl (box_ptr (cells := [v1]) 1 rfl 0 rfl (lb rfl))) F S rfl fun a F=>?_
    obtain ⟨g4, l4, S, h3⟩ : ∃ gz, Le g3 gz ∧ St gz [[bx b8 #[v2] 25], [bx b7 #[v1] 25], [bx b5 #[.i6 0, .i6 0] 29], [bx b4 #[nilS] 25], [bx b3 #[nilS] 25], c2] fr w ∧ RepSl gz x1 v1 := ⟨_, Le.add _ _, S.freeze 6 rfl, OwnS.freeze (S.front 6 rfl) (h1.mono l3)⟩
    obtain ⟨y2, hy2, hm⟩ := bind_some hm
    refine wl_call0 (wn rfl) rfl F rfl (changeforgeref1_PatchFault_ok (fr := (fl [[bx b8 #[v2] 25], [bx b7 #[v1] 25], [bx b5 #[.i6 0, .i6 0] 29], [bx b4 #[nilS] 25], [bx b3 #[nilS] 25], c2] fr)) ({ Hunks := x1 } : Patch) v1 h3 S hy2) rfl tc77 rfl rfl ?_; clear F a S
    rintro _ a w ⟨g5, l5, S, rfl⟩ F; replace S : St g5 [[bx b8 #[v2] 25], [bx b7 #[v1] 25], [bx b5 #[.i6 0, .i6 0] 29], [bx b4 #[nilS] 25], [bx b3 #[nilS] 25], c2] fr w := S
    refine wE (ev_field1 tu29 tf29_0 tu3 rfl (cs := [.i6 y2.Code, .i6 y2.Index]) rfl rfl) F S rfl fun a F=>?_
    refine wE (ev_int rfl rfl (bo_neq _ _ _ _)) F S rfl fun a F=>?_
    refine wE (ev_move rfl) F S rfl fun a F=>?_
    obtain ⟨g6, l6, S, h4⟩ : ∃ gz, Le g5 gz ∧ St gz [[bx b8 #[v2] 25], [bx b7 #[v1] 25], [bx b5 #[.i6 0, .i6 0] 29], [bx b4 #[nilS] 25], [bx b3 #[nilS] 25]] fr w ∧ RepSl gz x2 v2 := ⟨_, Le.add _ _, S.freeze 5 rfl, OwnS.freeze (S.front 5 rfl) (h2.mono (l4.trans l5))⟩
    obtain ⟨x3, hx1, hm⟩ := bind_some hm
    refine wl_cut 5 (fun a w => ∃ g7, Fr 160 a [(153, .bool x3), (10, bp b8 0), (9, bp b7 0), (7, bp b5 0), (5, bp b4 0), (4, bp b3 0)] ∧ Le g6 g7 ∧ St g7 [[bx b8 #[v2] 25], [bx b7 #[v1] 25], [bx b5 #[.i6 0, .i6 0] 29], [bx b4 #[nilS] 25], [bx b3 #[nilS] 25]] fr w) ?_ ?_
    ·clear hm; obtain ⟨hc2, hm⟩ | ⟨hc2, hm⟩ := ite_or hx1
     ·refine wl_skip rfl rfl rfl rfl (ne_ft hc2) F rfl rfl ?_; clear F a; intro a F
      refine wl_skip rfl rfl rfl rfl (ne_ft hc2) F rfl rfl ?_; clear F a; intro a F
      refine wl_skip rfl rfl rfl rfl (ne_ft hc2) F rfl rfl ?_; clear F a; intro a F
      refine wl_skip rfl rfl rfl rfl (ne_ft hc2) F rfl rfl ?_; clear F a; intro a F
      refine wE (ev_pickT rfl hc2 rfl) F S rfl fun a F=>?_
      obtain rfl := sinj hm
      refine wpList_nil (then_n ?_); exact ⟨g6, F.sub ⟨rfl, rfl, rfl, rfl, rfl, rfl, trivial⟩, (Le.refl _), S⟩
     ·refine wl_ev (wg F rfl rfl rfl rfl hc2) (ev_loadA tu25 rfl (cs := [v2]) ts25 rfl (box_ptr (cells := [v2]) 0 rfl 0 rfl (lb rfl))) F S rfl rfl ?_; clear F a; intro a F
      obtain ⟨y3, hy3, hm⟩ := bind_some hm
      refine wl_call0 (wg F rfl rfl rfl rfl hc2) rfl F rfl (changeforgeref1_PatchFault_ok (fr := (fl [[bx b8 #[v2] 25], [bx b7 #[v1] 25], [bx b5 #[.i6 0, .i6 0] 29], [bx b4 #[nilS] 25], [bx b3 #[nilS] 25]] fr)) ({ Hunks := x2 } : Patch) v2 h4 S hy3) rfl tc77 rfl rfl ?_; clear F a S
      rintro _ a w ⟨g8, l8, S, rfl⟩ F; replace S : St g8 [[bx b8 #[v2] 25], [bx b7 #[v1] 25], [bx b5 #[.i6 0, .i6 0] 29], [bx b4 #[nilS] 25], [bx b3 #[nilS] 25]] fr w := S
      refine wl_ev (wg F rfl rfl rfl rfl hc2) (ev_field1 tu29 tf29_0 tu3 rfl (cs := [.i6 y3.Code, .i6 y3.Index]) rfl rfl) F S rfl rfl ?_; clear F a; intro a F
      refine wl_ev (wg F rfl rfl rfl rfl hc2) (ev_int rfl rfl (bo_neq _ _ _ _)) F S rfl rfl ?_; clear F a; intro a F
      refine wE (ev_pickF rfl hc2 rfl) F S rfl fun a F=>?_
      obtain rfl := sinj hm
      refine wpList_nil (then_n ?_); exact ⟨g8, F.sub ⟨rfl, rfl, rfl, rfl, rfl, rfl, trivial⟩, l8, S⟩
    clear F S; rintro a w ⟨g7, F, l7, S⟩
    refine wpList_nil ?_
    refine then_n ?_
    obtain ⟨hc3, hm⟩ | ⟨hc3, hm⟩ := ite_or hm
    ·refine wp_condT F rfl hc3 ?_
     refine wp_seq ?_
     refine wp_region_lit ?_
     refine wE (ev_build (parts := []) (vs := []) rfl (fun w => tb25_  w)) F S rfl fun a F=>?_
     refine wE (ev_build (parts := []) (vs := []) rfl (fun w => tb25_  w)) F S rfl fun a F=>?_
     obtain ⟨y4, hy4, hm⟩ := bind_some hm
     refine wl_call0 (wn rfl) rfl F rfl (changeforgeref1_At_ok (fr := (fl [[bx b8 #[v2] 25], [bx b7 #[v1] 25], [bx b5 #[.i6 0, .i6 0] 29], [bx b4 #[nilS] 25], [bx b3 #[nilS] 25]] fr)) 10 (-1) S hy4) rfl tc36 rfl rfl ?_; clear F a S
     rintro _ a w ⟨g9, l9, S, rfl⟩ F; replace S : St g9 [[bx b8 #[v2] 25], [bx b7 #[v1] 25], [bx b5 #[.i6 0, .i6 0] 29], [bx b4 #[nilS] 25], [bx b3 #[nilS] 25]] fr w := S
     refine wl_storeC (wn rfl) rfl F S rfl rfl (vs := [nilS]) rfl ts25 (one_cons rfl one_nil) (k := 4) rfl (lb rfl) (c' := #[nilS]) rfl rfl ?_; clear S; intro w S
     refine wl_storeC (wn rfl) rfl F S rfl rfl (vs := [nilS]) rfl ts25 (one_cons rfl one_nil) (k := 3) rfl (lb rfl) (c' := #[nilS]) rfl rfl ?_; clear S; intro w S
     refine wE (ev_assign rfl) F S rfl fun a F=>?_
     refine wl_storeC (wn rfl) rfl F S rfl rfl (vs := [.i6 y4.Code, .i6 y4.Index]) rfl ts29 (one_cons rfl (one_cons rfl one_nil)) (k := 2) rfl (lb rfl) (c' := #[.i6 y4.Code, .i6 y4.Index]) rfl rfl ?_; clear S; intro w S
     refine wpList_nil ?_
     refine then_n ?_
     refine wp_ret ?_
     refine then_r ?_
     obtain rfl := sinj hm
     refine post_r _ F rfl (ar_cons (resA rfl tu25 rfl (box_ptr (cells := [nilS]) 4 rfl 0 rfl (lb rfl) w S) ts25) (ar_cons (resA rfl tu25 rfl (box_ptr (cells := [nilS]) 3 rfl 0 rfl (lb rfl) w S) ts25) (ar_cons (resT rfl) (ar_cons (resA rfl tu29 rfl (box_ptr (cells := [.i6 y4.Code, .i6 y4.Index]) 2 rfl 0 rfl (lb rfl) w S) ts29) ar_nil)))) ?_
     replace S : St g9 [] fr w := St.tail [] _ S
     exact ⟨_, rfl, g9, (nilS), (nilS), (((((((l1.trans l2).trans l3).trans l4).trans l5).trans l6).trans l7).trans l9), S, (RepSl.nil _), (RepSl.nil _), rfl⟩
    ·refine wp_condF F rfl hc3 ?_
     refine wp_skip ?_
     refine then_n ?_
     refine wp_seq ?_
     refine wp_dv [] mo S ?_; clear S; intro ok2 w S
     refine dv_ev ok2 0 rfl (ev_loadA tu25 rfl (cs := [v1]) ts25 rfl (box_ptr (cells := [v1]) 1 rfl 0 rfl (lb rfl))) F S rfl fun a F=>?_
     refine dv_ev ok2 1 rfl (ev_loadA tu25 rfl (cs := [v2]) ts25 rfl (box_ptr (cells := [v2]) 0 rfl 0 rfl (lb rfl))) F S rfl fun a F=>?_
     refine dv_et ok2 2 rfl (ev_build (parts := []) (vs := []) rfl (fun w => tb29_  w)) F rfl fun a F=>?_
     refine dv_op ok2 3 rfl [(1, .agg #[v2])] ?_
     refine wl_storeC (wn rfl) rfl F S rfl rfl (vs := [v1]) rfl ts25 (one_cons h3.one one_nil) (k := 4) rfl (lb rfl) (c' := #[v1]) rfl rfl ?_; clear S; intro w S
     refine dv_nx ⟨yl_ev rfl rfl (ev_loadA tu25 rfl (cs := [v2]) ts25 rfl (box_ptr (cells := [v2]) 0 rfl 0 rfl (lb rfl))) F S, trivial⟩ ?_
     refine dv_op ok2 4 rfl [] ?_
     refine wl_storeC (wn rfl) rfl F S rfl rfl (vs := [v2]) rfl ts25 (one_cons h4.one one_nil) (k := 3) rfl (lb rfl) (c' := #[v2]) rfl rfl ?_; clear S; intro w S
     refine dv_nx trivial ?_
     refine dv_et ok2 5 rfl (ev_assign rfl) F rfl fun a F=>?_
     refine dv_op ok2 6 rfl [] ?_
     refine wl_storeC (wn rfl) rfl F S rfl rfl (vs := [.i6 0, .i6 0]) rfl ts29 (one_cons rfl (one_cons rfl one_nil)) (k := 2) rfl (lb rfl) (c' := #[.i6 0, .i6 0]) rfl rfl ?_; clear S; intro w S
     refine dv_nx trivial ?_
     refine dv_fin ok2 ?_
     refine then_n ?_
     refine wp_ret ?_
     obtain rfl := sinj hm
     refine post_r _ F rfl (ar_cons (resA rfl tu25 rfl (box_ptr (cells := [v1]) 4 rfl 0 rfl (lb rfl) w S) ts25) (ar_cons (resA rfl tu25 rfl (box_ptr (cells := [v2]) 3 rfl 0 rfl (lb rfl) w S) ts25) (ar_cons (resT rfl) (ar_cons (resA rfl tu29 rfl (box_ptr (cells := [.i6 0, .i6 0]) 2 rfl 0 rfl (lb rfl) w S) ts29) ar_nil)))) ?_
     replace S : St g7 [] fr w := St.tail [] _ S
     exact ⟨_, rfl, g7, v1, v2, ((((((l1.trans l2).trans l3).trans l4).trans l5).trans l6).trans l7), S, (h3.mono ((l5.trans l6).trans l7)), (h4.mono l7), rfl⟩
end Go.Dc
