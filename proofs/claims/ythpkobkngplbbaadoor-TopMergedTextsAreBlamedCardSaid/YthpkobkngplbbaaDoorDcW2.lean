/- Walks: each function comes to what its model says. -/
import Derived.Test.YthpkobkngplbbaaDoorDcTab
import Derived.Test.YthpkobkngplbbaaDoorDcM
import Derived.Test.YthpkobkngplbbaaDoorDcW1
namespace Go.Dc
open Go Go.Proofs
set_option maxRecDepth 100000
set_option maxHeartbeats 4000000
set_option linter.unusedVariables false
theorem diff_Collector__Keep_ok {g : Gh} {fr : Hl} {w : World} {r : Collector_diff} (bc_ : Nat) (c_ : Collector_diff) (vc_1 : Value) (cc_1 : Hl) (hc_1 : OwnN g c_.hunks vc_1 cc_1) (n_ : Int) (S : St g [[bx bc_ #[vc_1, .i6 c_.at_, .bool c_.open_] 101], cc_1] fr w) (hm : diff_Collector__Keep c_ n_ = some r) :
  Calls Tryd.prog 45 [bp bc_ 0, .i6 n_].toArray w (fun en w' => ∃ v, en = .returned v ∧ ∃ (g' : Gh) (v1 : Value) (c1 : Hl), Le g g' ∧ St g' [[bx bc_ #[v1, .i6 r.at_, .bool r.open_] 101], c1] fr w' ∧ OwnN g' r.hunks v1 c1 ∧ .tuple #[] = v) := by
 unfold diff_Collector__Keep at hm
 refine calls_enter (fn := Tryd.f45) Tryd.func45 rfl Tryd.ntmps45 (lb rfl) ?_
 intro a F
 replace F : Fr 18 a [(0, bp bc_ 0), (1, .i6 n_)] := F
 refine wp_seq ?_
 refine wp_region_lit ?_
 refine wE (ev_move rfl) F S rfl fun a F=>?_
 refine wE (ev_int rfl rfl (bo_gtr _ _ _ _)) F S rfl fun a F=>?_
 refine wpList_nil ?_
 refine then_n ?_
 obtain ⟨hc1, hm⟩ | ⟨hc1, hm⟩ := ite_or hm
 ·refine wp_condT F rfl hc1 ?_
  refine wp_region_lit ?_
  refine wE (ev_move rfl) F S rfl fun a F=>?_
  refine wE (ev_move rfl) F S rfl fun a F=>?_
  refine wE (ev_move rfl) F S rfl fun a F=>?_
  refine wE (ev_nil rfl) F S rfl fun a F=>?_
  refine wE (ev_fieldAddr' tu101 tf101_1 (z := 0) ts3 rfl ⟨_, rfl⟩ rfl) F S rfl fun a F=>?_
  refine wE (ev_load1 tu3 rfl rfl (box_ptr (cells := [.i6 c_.at_]) 0 rfl 1 rfl (lb rfl))) F S rfl fun a F=>?_
  refine wE (ev_move rfl) F S rfl fun a F=>?_
  obtain ⟨z1, hz1, hm⟩ := bind_some hm
  refine wE (ev_int rfl rfl (bo_add hz1)) F S rfl fun a F=>?_
  refine wE (ev_nil rfl) F S rfl fun a F=>?_
  refine wE (ev_fieldAddr' tu101 tf101_1 (z := 0) ts3 rfl ⟨_, rfl⟩ rfl) F S rfl fun a F=>?_
  refine wl_storeC (wn rfl) rfl F S rfl rfl (vs := [.i6 z1]) rfl ts3 (one_cons rfl one_nil) (k := 0) rfl (lb rfl) (c' := #[vc_1, .i6 z1, .bool c_.open_]) rfl rfl ?_; clear S; intro w S
  refine wE (ev_nil rfl) F S rfl fun a F=>?_
  refine wE (ev_fieldAddr' tu101 tf101_2 (z := 0) ts4 rfl ⟨_, rfl⟩ rfl) F S rfl fun a F=>?_
  refine wl_storeC (wn rfl) rfl F S rfl rfl (vs := [.bool false]) rfl ts4 (one_cons rfl one_nil) (k := 0) rfl (lb rfl) (c' := #[vc_1, .i6 z1, .bool false]) rfl rfl ?_; clear S; intro w S
  refine wpList_nil ?_
  obtain rfl := sinj hm
  refine post_n _ F rfl ar_nil ?_
  exact ⟨_, rfl, g, vc_1, cc_1, (Le.refl _), S, hc_1, rfl⟩
 ·refine wp_condF F rfl hc1 ?_
  refine wp_skip ?_
  obtain rfl := sinj hm
  refine post_n _ F rfl ar_nil ?_
  exact ⟨_, rfl, g, vc_1, cc_1, (Le.refl _), S, hc_1, rfl⟩

theorem diff_Collector__Delete_ok {g : Gh} {fr : Hl} {w : World} {r : Collector_diff} (bc_ : Nat) (c_ : Collector_diff) (vc_1 : Value) (cc_1 : Hl) (hc_1 : OwnN g c_.hunks vc_1 cc_1) (line : ByteArray) (S : St g [[bx bc_ #[vc_1, .i6 c_.at_, .bool c_.open_] 101], cc_1] fr w) (hm : diff_Collector__Delete c_ line = some r) :
  Calls Tryd.prog 46 [bp bc_ 0, .string line].toArray w (fun en w' => ∃ v, en = .returned v ∧ ∃ (g' : Gh) (v1 : Value) (c1 : Hl), Le g g' ∧ St g' [[bx bc_ #[v1, .i6 r.at_, .bool r.open_] 101], c1] fr w' ∧ OwnN g' r.hunks v1 c1 ∧ .tuple #[] = v) := by
 unfold diff_Collector__Delete at hm
 refine calls_enter (fn := Tryd.f46) Tryd.func46 rfl Tryd.ntmps46 (lb rfl) ?_
 intro a F
 replace F : Fr 24 a [(0, bp bc_ 0), (1, .string line)] := F
 refine wp_seq ?_
 refine wp_region_lit ?_
 refine wE (ev_move rfl) F S rfl fun a F=>?_
 replace F := F.sub (e' := [(5, bp bc_ 0), (0, bp bc_ 0), (1, .string line)]) ⟨rfl, rfl, rfl, trivial⟩
 refine wl_callK (wn rfl) rfl (xs := [.tmp 5]) (vs := [bp bc_ 0]) (cap := []) (e' := [(0, bp bc_ 0), (1, .string line)]) ⟨rfl, rfl, trivial⟩ F rfl rfl tc72 rfl rfl (calls_enter (fn := Tryd.f72) Tryd.func72 rfl Tryd.ntmps72 (lb rfl) ?_); clear F a; intro a F
 replace F : Fr 36 a [(0, bp bc_ 0)] := F
 refine wp_seq ?_
 refine wp_region_lit ?_
 refine wE (ev_assign rfl) F S rfl fun a F=>?_
 refine wpList_nil ?_
 refine then_n ?_
 refine wp_cut (fun a w => ∃ (x1 : List Hunk) (x2 : Bool) (v1 : Value) (c1 : Hl) (g1 : Gh), Fr 36 a [(0, bp bc_ 0)] ∧ Le g g1 ∧ St g1 [[bx bc_ #[v1, .i6 c_.at_, .bool x2] 101], c1] fr w ∧ OwnN g1 x1 v1 c1 ∧ diff_Collector__Delete.j1 c_ line x1 x2 = some r) ?_ ?_
 ·refine wp_seq ?_
  refine wp_region_lit ?_
  refine wE (ev_move rfl) F S rfl fun a F=>?_
  refine wE (ev_nil rfl) F S rfl fun a F=>?_
  refine wE (ev_fieldAddr' tu101 tf101_2 (z := 0) ts4 rfl ⟨_, rfl⟩ rfl) F S rfl fun a F=>?_
  refine wE (ev_load1 tu4 rfl rfl (box_ptr (cells := [.bool c_.open_]) 0 rfl 2 rfl (lb rfl))) F S rfl fun a F=>?_
  refine wE (ev_not rfl) F S rfl fun a F=>?_
  refine wpList_nil ?_
  refine then_n ?_
  obtain ⟨hc1, hm⟩ | ⟨hc1, hm⟩ := ite_or hm
  ·refine wp_condT F rfl hc1 ?_
   refine wp_dv [] mo S ?_; clear S; intro ok1 w S
   refine dv_et ok1 0 rfl (ev_move rfl) F rfl fun a F=>?_
   refine dv_et ok1 1 rfl (ev_move rfl) F rfl fun a F=>?_
   refine dv_et ok1 2 rfl (ev_move rfl) F rfl fun a F=>?_
   refine dv_et ok1 3 rfl (ev_nil rfl) F rfl fun a F=>?_
   refine dv_et ok1 4 rfl (ev_fieldAddr' tu101 tf101_0 (z := 0) ts53 rfl ⟨_, rfl⟩ rfl) F rfl fun a F=>?_
   refine dv_ev ok1 5 rfl (ev_load1 tu53 rfl rfl (box_ptr (cells := [vc_1]) 0 rfl 0 rfl (lb rfl))) F S rfl fun a F=>?_
   refine dv_et ok1 6 rfl (ev_move rfl) F rfl fun a F=>?_
   refine dv_et ok1 7 rfl (ev_nil rfl) F rfl fun a F=>?_
   refine dv_et ok1 8 rfl (ev_fieldAddr' tu101 tf101_1 (z := 0) ts3 rfl ⟨_, rfl⟩ rfl) F rfl fun a F=>?_
   refine dv_ev ok1 9 rfl (ev_load1 tu3 rfl rfl (box_ptr (cells := [.i6 c_.at_]) 0 rfl 1 rfl (lb rfl))) F S rfl fun a F=>?_
   refine dv_et ok1 10 rfl (ev_build (parts := [(0, .tmp 17)]) (vs := [(0, .i6 c_.at_)]) rfl (fun w => tb75_0 c_.at_ w)) F rfl fun a F=>?_
   refine dv_op ok1 11 rfl [(5, vc_1)] ?_
   replace S : St g [[], [bx bc_ #[vc_1, .i6 c_.at_, .bool c_.open_] 101], cc_1] fr w := S
   replace S : St g [[], [], [bx bc_ #[vc_1, .i6 c_.at_, .bool c_.open_] 101], cc_1] fr w := S
   replace S : St g [[], [], [bx bc_ #[vc_1, .i6 c_.at_, .bool c_.open_] 101], cc_1] fr w := ((((S.frontC 3 rfl).frontC 3 rfl).frontC 2 rfl).frontC 4 rfl)
   replace S : St g [([] ++ ([] ++ [])), [bx bc_ #[vc_1, .i6 c_.at_, .bool c_.open_] 101], cc_1] fr w := S.of_eq (by simp only [fl, List.append_assoc, List.append_nil, List.nil_append])
   refine wl_lit1N (p := ({ At := c_.at_, Old := [], New := [] } : Hunk)) (wn rfl) rfl rfl tu53 te75 rfl rfl rfl (orep_Hunk_mk (x := ({ At := c_.at_, Old := [], New := [] } : Hunk)) (OwnS.nil _) (OwnS.nil _)) F S rfl rfl ?_; clear F a S
   rintro v6 c7 a w h7 F S
   refine dv_nx ⟨yl_ev rfl rfl (ev_load1 tu53 rfl rfl (box_ptr (cells := [vc_1]) 1 rfl 0 rfl (lb rfl))) F S, trivial⟩ ?_
   refine dv_op ok1 12 rfl [] ?_
   replace S : St g [cc_1, c7, [bx bc_ #[vc_1, .i6 c_.at_, .bool c_.open_] 101]] fr w := (((S.frontC 1 rfl).frontC 1 rfl).frontC 4 rfl)
   obtain ⟨y4, hy4, hm⟩ := bind_some hm
   refine wl_appendN (wn rfl) rfl tu53 tu53 te75 (by decide) (by decide) F S rfl rfl hc_1 h7 hy4 rfl rfl ?_; clear F a S
   rintro v7 c8 a w h8 S F; replace S : St g [c8, [bx bc_ #[vc_1, .i6 c_.at_, .bool c_.open_] 101]] fr w := S
   refine dv_nx trivial ?_
   refine dv_et ok1 13 rfl (ev_nil rfl) F rfl fun a F=>?_
   refine dv_et ok1 14 rfl (ev_fieldAddr' tu101 tf101_0 (z := 0) ts53 rfl ⟨_, rfl⟩ rfl) F rfl fun a F=>?_
   refine dv_op ok1 15 rfl [] ?_
   refine wl_storeC (wn rfl) rfl F S rfl rfl (vs := [v7]) (OwnN.cl h8) ts53 (one_cons (OwnN.one h8) one_nil) (k := 1) rfl (lb rfl) (c' := #[v7, .i6 c_.at_, .bool c_.open_]) rfl rfl ?_; clear S; intro w S
   refine dv_nx trivial ?_
   refine dv_et ok1 16 rfl (ev_nil rfl) F rfl fun a F=>?_
   refine dv_et ok1 17 rfl (ev_fieldAddr' tu101 tf101_2 (z := 0) ts4 rfl ⟨_, rfl⟩ rfl) F rfl fun a F=>?_
   refine dv_op ok1 18 rfl [] ?_
   refine wl_storeC (wn rfl) rfl F S rfl rfl (vs := [.bool true]) rfl ts4 (one_cons rfl one_nil) (k := 1) rfl (lb rfl) (c' := #[v7, .i6 c_.at_, .bool true]) rfl rfl ?_; clear S; intro w S
   refine dv_nx trivial ?_
   refine dv_fin ok1 ?_
   refine then_n ?_
   replace S : St g [[bx bc_ #[v7, .i6 c_.at_, .bool true] 101], c8] fr w := St.tail [[bx bc_ #[v7, .i6 c_.at_, .bool true] 101], c8] _ ((S.frontC 0 rfl).frontC 2 rfl)
   exact ⟨y4, true, v7, c8, g, F.sub ⟨rfl, trivial⟩, (Le.refl _), S, h8, hm⟩
  ·refine wp_condF F rfl hc1 ?_
   refine wp_skip ?_
   refine then_n ?_
   exact ⟨c_.hunks, c_.open_, vc_1, cc_1, g, F.sub ⟨rfl, trivial⟩, (Le.refl _), S, hc_1, hm⟩
 ·clear F S hm; rintro a w ⟨x1, x2, v1, c1, g1, F, l1, S, h1, hm⟩
  refine wp_seq ?_
  refine wp_quiet mo (by kernel_rfl) S ?_
  refine wq_ev (wn rfl) (ev_move rfl) F rfl rfl ?_; clear F a; intro a F
  refine wq_ev (wn rfl) (ev_nil rfl) F rfl rfl ?_; clear F a; intro a F
  refine wq_ev (wn rfl) (ev_fieldAddr' tu101 tf101_0 (z := 0) ts53 rfl ⟨_, rfl⟩ rfl) F rfl rfl ?_; clear F a; intro a F
  refine wq_ev (wn rfl) (ev_load1 tu53 rfl rfl (box_ptr (cells := [v1]) 0 rfl 0 rfl (lb rfl))) F rfl rfl ?_; clear F a; intro a F
  refine wq_ev (wn rfl) (ev_move rfl) F rfl rfl ?_; clear F a; intro a F
  refine wq_ev (wn rfl) (ev_nil rfl) F rfl rfl ?_; clear F a; intro a F
  refine wq_ev (wn rfl) (ev_fieldAddr' tu101 tf101_0 (z := 0) ts53 rfl ⟨_, rfl⟩ rfl) F rfl rfl ?_; clear F a; intro a F
  refine wq_ev (wn rfl) (ev_load1 tu53 rfl rfl (box_ptr (cells := [v1]) 0 rfl 0 rfl (lb rfl))) F rfl rfl ?_; clear F a; intro a F
  refine wq_ev (wn rfl) (ev_lenOwN h1 rfl tu53) F rfl rfl ?_; clear F a; intro a F
  obtain ⟨z1, hz1, hm⟩ := bind_some hm
  refine wq_ev (wn rfl) (ev_int rfl rfl (bo_sub hz1)) F rfl rfl ?_; clear F a; intro a F
  obtain ⟨y1, hy1, hm⟩ := bind_some hm
  refine wq_ev (wn rfl) (ev_idxN h1 hy1 tu53 ts75 rfl rfl) F rfl rfl ?_; clear F a; intro a F
  refine wq_ev (wn rfl) (ev_assign rfl) F rfl rfl ?_; clear F a; intro a F
  refine wq_nil ?_; clear S; intro w S
  refine then_n ?_
  refine wp_ret ?_
  refine post_r _ F rfl (ar_cons (resT rfl) ar_nil) ?_
  refine ⟨_, rfl, ?_⟩; clear F a; intro a F
  replace F : Fr 24 a [(6, elemP v1 z1 3), (0, bp bc_ 0), (1, .string line)] := F
  refine wE (ev_assign rfl) F S rfl fun a F=>?_
  refine wpList_nil ?_
  refine then_n ?_
  refine wp_seq ?_
  refine wp_region_lit ?_
  refine wE (ev_move rfl) F S rfl fun a F=>?_
  refine wE (ev_move rfl) F S rfl fun a F=>?_
  refine wE (ev_nilP (elemN_ptr h1 hy1) rfl) F S rfl fun a F=>?_
  refine wE (ev_fieldAddr' tu75 tf75_1 (z := 0) ts22 rfl (elemN_ptr h1 hy1) rfl) F S rfl fun a F=>?_
  replace S : St g1 [c1, [bx bc_ #[v1, .i6 c_.at_, .bool x2] 101]] fr w := ((S.frontC 0 rfl).frontC 2 rfl)
  obtain ⟨cs1, ca1, cr1, ci1, hH1, hR1, hP1⟩ := OwnN.hole h1 hy1
  replace S : St g1 [ca1, cr1, ci1, [bx bc_ #[v1, .i6 c_.at_, .bool x2] 101]] fr w := St.split3 hP1 S
  obtain ⟨v2, c2, v3, c3, rfl, rfl, h2, h3⟩ := orep_Hunk hR1
  replace S : St g1 [ca1, cr1, c2, c3, [bx bc_ #[v1, .i6 c_.at_, .bool x2] 101]] fr w := S.of_eq (by simp only [fl, List.append_assoc, List.append_nil, List.nil_append])
  refine wE (ev_load1 tu22 rfl rfl (fun w s => fieldP (cells := [v2]) 1 ((HoleN.ptr hH1 _ _ 0 rfl) w s) rfl (lb rfl))) F S rfl fun a F=>?_
  refine wE (ev_move rfl) F S rfl fun a F=>?_
  refine wl_lit (l := ([line] : List ByteArray)) (vs := [.string line]) (parts := [(0, .tmp 12)]) (wn rfl) rfl rfl rfl tu22 te9 (sz_cons rfl sz_nil) rfl (Cat.cons (show Rep.rep _ line _ from rfl) (Cat.nil _)) (coa_cons rfl coa_nil) rfl F S rfl rfl ?_; clear F a S
  rintro v4 c4 a w h4 F S
  obtain ⟨cs2, hk1, hr1⟩ := OwnS.reads h4
  obtain ⟨y2, hy2, hm⟩ := bind_some hm
  refine wl_append (wn rfl) rfl tu22 tu22 te9 (by decide) (by decide) F S rfl rfl (k := 3) rfl h2 hk1 rfl (hr1 _ _ _ 0 rfl S) hy2 rfl rfl ?_; clear F a S
  rintro v5 c5 a w h5 S F; replace S : St g1 [c4, ca1, cr1, c5, c3, [bx bc_ #[v1, .i6 c_.at_, .bool x2] 101]] fr w := S
  refine wE (ev_nilP (elemH_ptr hH1) rfl) F S rfl fun a F=>?_
  refine wE (ev_fieldAddr' tu75 tf75_1 (z := 0) ts22 rfl (elemH_ptr hH1) rfl) F S rfl fun a F=>?_
  refine wl_storeH 1 (wn rfl) rfl F S hH1 rfl rfl rfl (us := [v5]) (OwnS.cl h5) ts22 (one_cons (OwnS.one h5) one_nil) (k := 1) rfl (lb rfl) (cs' := [.i6 y1.At, v5, v3]) rfl rfl ?_; clear S
  rintro ca2 w hH2 S; replace S : St g1 [c4, ca2, cr1, c5, c3, [bx bc_ #[v1, .i6 c_.at_, .bool x2] 101]] fr w := S
  refine wpList_nil ?_
  refine then_n ?_
  refine wp_region_lit ?_
  refine wE (ev_move rfl) F S rfl fun a F=>?_
  refine wE (ev_nil rfl) F S rfl fun a F=>?_
  refine wE (ev_fieldAddr' tu101 tf101_1 (z := 0) ts3 rfl ⟨_, rfl⟩ rfl) F S rfl fun a F=>?_
  refine wE (ev_load1 tu3 rfl rfl (box_ptr (cells := [.i6 c_.at_]) 5 rfl 1 rfl (lb rfl))) F S rfl fun a F=>?_
  obtain ⟨z2, hz2, hm⟩ := bind_some hm
  refine wE (ev_int rfl rfl (bo_add hz2)) F S rfl fun a F=>?_
  refine wE (ev_nil rfl) F S rfl fun a F=>?_
  refine wE (ev_fieldAddr' tu101 tf101_1 (z := 0) ts3 rfl ⟨_, rfl⟩ rfl) F S rfl fun a F=>?_
  refine wl_storeC (wn rfl) rfl F S rfl rfl (vs := [.i6 z2]) rfl ts3 (one_cons rfl one_nil) (k := 5) rfl (lb rfl) (c' := #[v1, .i6 z2, .bool x2]) rfl rfl ?_; clear S; intro w S
  refine wpList_nil ?_
  replace S : St g1 [ca2, cr1, c5, c3, c4, [bx bc_ #[v1, .i6 z2, .bool x2] 101]] fr w := ((((((S.frontC 5 rfl).frontC 1 rfl).frontC 6 rfl).frontC 6 rfl).frontC 6 rfl).frontC 6 rfl)
  obtain ⟨y3, hy3, hm⟩ := bind_some hm
  have h6 := HoleN.shut hH2 (orep_Hunk_mk (x := ({ At := y1.At, Old := y2, New := y1.New } : Hunk)) h5 h3); replace h6 : OwnN g1 y3 v1 (ca2 ++ (cr1 ++ (c5 ++ (c3 ++ [])))) := sinj hy3 ▸ h6
  replace S : St g1 [(ca2 ++ (cr1 ++ (c5 ++ (c3 ++ [])))), c4, [bx bc_ #[v1, .i6 z2, .bool x2] 101]] fr w := S.of_eq (by simp only [fl, List.append_assoc, List.append_nil, List.nil_append])
  generalize (ca2 ++ (cr1 ++ (c5 ++ (c3 ++ [])))) = c6 at S h6
  replace F := F.sub (e' := [(23, bp bc_ 1), (22, bp bc_ 0), (21, .i6 z2), (20, .i6 c_.at_), (19, bp bc_ 1), (18, bp bc_ 0), (17, bp bc_ 0), (16, addP (elemP v1 z1 3) 1), (15, elemP v1 z1 3), (13, v4), (12, .string line), (11, v2), (10, addP (elemP v1 z1 3) 1), (9, elemP v1 z1 3), (8, elemP v1 z1 3), (7, elemP v1 z1 3), (4, elemP v1 z1 3), (6, elemP v1 z1 3), (0, bp bc_ 0), (1, .string line)]) ⟨rfl, rfl, rfl, rfl, rfl, rfl, rfl, rfl, rfl, rfl, rfl, rfl, rfl, rfl, rfl, rfl, rfl, rfl, rfl, rfl, trivial⟩
  obtain rfl := sinj hm
  refine post_n _ F rfl ar_nil ?_
  replace S : St g1 [[bx bc_ #[v1, .i6 z2, .bool x2] 101], c6] fr w := St.tail [[bx bc_ #[v1, .i6 z2, .bool x2] 101], c6] _ ((S.frontC 0 rfl).frontC 3 rfl)
  exact ⟨_, rfl, g1, v1, c6, l1, S, h6, rfl⟩

theorem diff_Collector__Insert_ok {g : Gh} {fr : Hl} {w : World} {r : Collector_diff} (bc_ : Nat) (c_ : Collector_diff) (vc_1 : Value) (cc_1 : Hl) (hc_1 : OwnN g c_.hunks vc_1 cc_1) (line : ByteArray) (S : St g [[bx bc_ #[vc_1, .i6 c_.at_, .bool c_.open_] 101], cc_1] fr w) (hm : diff_Collector__Insert c_ line = some r) :
  Calls Tryd.prog 47 [bp bc_ 0, .string line].toArray w (fun en w' => ∃ v, en = .returned v ∧ ∃ (g' : Gh) (v1 : Value) (c1 : Hl), Le g g' ∧ St g' [[bx bc_ #[v1, .i6 r.at_, .bool r.open_] 101], c1] fr w' ∧ OwnN g' r.hunks v1 c1 ∧ .tuple #[] = v) := by
 unfold diff_Collector__Insert at hm
 refine calls_enter (fn := Tryd.f47) Tryd.func47 rfl Tryd.ntmps47 (lb rfl) ?_
 intro a F
 replace F : Fr 17 a [(0, bp bc_ 0), (1, .string line)] := F
 refine wp_seq ?_
 refine wp_region_lit ?_
 refine wE (ev_move rfl) F S rfl fun a F=>?_
 replace F := F.sub (e' := [(5, bp bc_ 0), (0, bp bc_ 0), (1, .string line)]) ⟨rfl, rfl, rfl, trivial⟩
 refine wl_callK (wn rfl) rfl (xs := [.tmp 5]) (vs := [bp bc_ 0]) (cap := []) (e' := [(0, bp bc_ 0), (1, .string line)]) ⟨rfl, rfl, trivial⟩ F rfl rfl tc72 rfl rfl (calls_enter (fn := Tryd.f72) Tryd.func72 rfl Tryd.ntmps72 (lb rfl) ?_); clear F a; intro a F
 replace F : Fr 36 a [(0, bp bc_ 0)] := F
 refine wp_seq ?_
 refine wp_region_lit ?_
 refine wE (ev_assign rfl) F S rfl fun a F=>?_
 refine wpList_nil ?_
 refine then_n ?_
 refine wp_cut (fun a w => ∃ (x1 : List Hunk) (x2 : Bool) (v1 : Value) (c1 : Hl) (g1 : Gh), Fr 36 a [(0, bp bc_ 0)] ∧ Le g g1 ∧ St g1 [[bx bc_ #[v1, .i6 c_.at_, .bool x2] 101], c1] fr w ∧ OwnN g1 x1 v1 c1 ∧ diff_Collector__Insert.j1 c_ line x1 x2 = some r) ?_ ?_
 ·refine wp_seq ?_
  refine wp_region_lit ?_
  refine wE (ev_move rfl) F S rfl fun a F=>?_
  refine wE (ev_nil rfl) F S rfl fun a F=>?_
  refine wE (ev_fieldAddr' tu101 tf101_2 (z := 0) ts4 rfl ⟨_, rfl⟩ rfl) F S rfl fun a F=>?_
  refine wE (ev_load1 tu4 rfl rfl (box_ptr (cells := [.bool c_.open_]) 0 rfl 2 rfl (lb rfl))) F S rfl fun a F=>?_
  refine wE (ev_not rfl) F S rfl fun a F=>?_
  refine wpList_nil ?_
  refine then_n ?_
  obtain ⟨hc1, hm⟩ | ⟨hc1, hm⟩ := ite_or hm
  ·refine wp_condT F rfl hc1 ?_
   refine wp_dv [] mo S ?_; clear S; intro ok1 w S
   refine dv_et ok1 0 rfl (ev_move rfl) F rfl fun a F=>?_
   refine dv_et ok1 1 rfl (ev_move rfl) F rfl fun a F=>?_
   refine dv_et ok1 2 rfl (ev_move rfl) F rfl fun a F=>?_
   refine dv_et ok1 3 rfl (ev_nil rfl) F rfl fun a F=>?_
   refine dv_et ok1 4 rfl (ev_fieldAddr' tu101 tf101_0 (z := 0) ts53 rfl ⟨_, rfl⟩ rfl) F rfl fun a F=>?_
   refine dv_ev ok1 5 rfl (ev_load1 tu53 rfl rfl (box_ptr (cells := [vc_1]) 0 rfl 0 rfl (lb rfl))) F S rfl fun a F=>?_
   refine dv_et ok1 6 rfl (ev_move rfl) F rfl fun a F=>?_
   refine dv_et ok1 7 rfl (ev_nil rfl) F rfl fun a F=>?_
   refine dv_et ok1 8 rfl (ev_fieldAddr' tu101 tf101_1 (z := 0) ts3 rfl ⟨_, rfl⟩ rfl) F rfl fun a F=>?_
   refine dv_ev ok1 9 rfl (ev_load1 tu3 rfl rfl (box_ptr (cells := [.i6 c_.at_]) 0 rfl 1 rfl (lb rfl))) F S rfl fun a F=>?_
   refine dv_et ok1 10 rfl (ev_build (parts := [(0, .tmp 17)]) (vs := [(0, .i6 c_.at_)]) rfl (fun w => tb75_0 c_.at_ w)) F rfl fun a F=>?_
   refine dv_op ok1 11 rfl [(5, vc_1)] ?_
   replace S : St g [[], [bx bc_ #[vc_1, .i6 c_.at_, .bool c_.open_] 101], cc_1] fr w := S
   replace S : St g [[], [], [bx bc_ #[vc_1, .i6 c_.at_, .bool c_.open_] 101], cc_1] fr w := S
   replace S : St g [[], [], [bx bc_ #[vc_1, .i6 c_.at_, .bool c_.open_] 101], cc_1] fr w := ((((S.frontC 3 rfl).frontC 3 rfl).frontC 2 rfl).frontC 4 rfl)
   replace S : St g [([] ++ ([] ++ [])), [bx bc_ #[vc_1, .i6 c_.at_, .bool c_.open_] 101], cc_1] fr w := S.of_eq (by simp only [fl, List.append_assoc, List.append_nil, List.nil_append])
   refine wl_lit1N (p := ({ At := c_.at_, Old := [], New := [] } : Hunk)) (wn rfl) rfl rfl tu53 te75 rfl rfl rfl (orep_Hunk_mk (x := ({ At := c_.at_, Old := [], New := [] } : Hunk)) (OwnS.nil _) (OwnS.nil _)) F S rfl rfl ?_; clear F a S
   rintro v6 c7 a w h7 F S
   refine dv_nx ⟨yl_ev rfl rfl (ev_load1 tu53 rfl rfl (box_ptr (cells := [vc_1]) 1 rfl 0 rfl (lb rfl))) F S, trivial⟩ ?_
   refine dv_op ok1 12 rfl [] ?_
   replace S : St g [cc_1, c7, [bx bc_ #[vc_1, .i6 c_.at_, .bool c_.open_] 101]] fr w := (((S.frontC 1 rfl).frontC 1 rfl).frontC 4 rfl)
   obtain ⟨y4, hy4, hm⟩ := bind_some hm
   refine wl_appendN (wn rfl) rfl tu53 tu53 te75 (by decide) (by decide) F S rfl rfl hc_1 h7 hy4 rfl rfl ?_; clear F a S
   rintro v7 c8 a w h8 S F; replace S : St g [c8, [bx bc_ #[vc_1, .i6 c_.at_, .bool c_.open_] 101]] fr w := S
   refine dv_nx trivial ?_
   refine dv_et ok1 13 rfl (ev_nil rfl) F rfl fun a F=>?_
   refine dv_et ok1 14 rfl (ev_fieldAddr' tu101 tf101_0 (z := 0) ts53 rfl ⟨_, rfl⟩ rfl) F rfl fun a F=>?_
   refine dv_op ok1 15 rfl [] ?_
   refine wl_storeC (wn rfl) rfl F S rfl rfl (vs := [v7]) (OwnN.cl h8) ts53 (one_cons (OwnN.one h8) one_nil) (k := 1) rfl (lb rfl) (c' := #[v7, .i6 c_.at_, .bool c_.open_]) rfl rfl ?_; clear S; intro w S
   refine dv_nx trivial ?_
   refine dv_et ok1 16 rfl (ev_nil rfl) F rfl fun a F=>?_
   refine dv_et ok1 17 rfl (ev_fieldAddr' tu101 tf101_2 (z := 0) ts4 rfl ⟨_, rfl⟩ rfl) F rfl fun a F=>?_
   refine dv_op ok1 18 rfl [] ?_
   refine wl_storeC (wn rfl) rfl F S rfl rfl (vs := [.bool true]) rfl ts4 (one_cons rfl one_nil) (k := 1) rfl (lb rfl) (c' := #[v7, .i6 c_.at_, .bool true]) rfl rfl ?_; clear S; intro w S
   refine dv_nx trivial ?_
   refine dv_fin ok1 ?_
   refine then_n ?_
   replace S : St g [[bx bc_ #[v7, .i6 c_.at_, .bool true] 101], c8] fr w := St.tail [[bx bc_ #[v7, .i6 c_.at_, .bool true] 101], c8] _ ((S.frontC 0 rfl).frontC 2 rfl)
   exact ⟨y4, true, v7, c8, g, F.sub ⟨rfl, trivial⟩, (Le.refl _), S, h8, hm⟩
  ·refine wp_condF F rfl hc1 ?_
   refine wp_skip ?_
   refine then_n ?_
   exact ⟨c_.hunks, c_.open_, vc_1, cc_1, g, F.sub ⟨rfl, trivial⟩, (Le.refl _), S, hc_1, hm⟩
 ·clear F S hm; rintro a w ⟨x1, x2, v1, c1, g1, F, l1, S, h1, hm⟩
  refine wp_seq ?_
  refine wp_quiet mo (by kernel_rfl) S ?_
  refine wq_ev (wn rfl) (ev_move rfl) F rfl rfl ?_; clear F a; intro a F
  refine wq_ev (wn rfl) (ev_nil rfl) F rfl rfl ?_; clear F a; intro a F
  refine wq_ev (wn rfl) (ev_fieldAddr' tu101 tf101_0 (z := 0) ts53 rfl ⟨_, rfl⟩ rfl) F rfl rfl ?_; clear F a; intro a F
  refine wq_ev (wn rfl) (ev_load1 tu53 rfl rfl (box_ptr (cells := [v1]) 0 rfl 0 rfl (lb rfl))) F rfl rfl ?_; clear F a; intro a F
  refine wq_ev (wn rfl) (ev_move rfl) F rfl rfl ?_; clear F a; intro a F
  refine wq_ev (wn rfl) (ev_nil rfl) F rfl rfl ?_; clear F a; intro a F
  refine wq_ev (wn rfl) (ev_fieldAddr' tu101 tf101_0 (z := 0) ts53 rfl ⟨_, rfl⟩ rfl) F rfl rfl ?_; clear F a; intro a F
  refine wq_ev (wn rfl) (ev_load1 tu53 rfl rfl (box_ptr (cells := [v1]) 0 rfl 0 rfl (lb rfl))) F rfl rfl ?_; clear F a; intro a F
  refine wq_ev (wn rfl) (ev_lenOwN h1 rfl tu53) F rfl rfl ?_; clear F a; intro a F
  obtain ⟨z1, hz1, hm⟩ := bind_some hm
  refine wq_ev (wn rfl) (ev_int rfl rfl (bo_sub hz1)) F rfl rfl ?_; clear F a; intro a F
  obtain ⟨y1, hy1, hm⟩ := bind_some hm
  refine wq_ev (wn rfl) (ev_idxN h1 hy1 tu53 ts75 rfl rfl) F rfl rfl ?_; clear F a; intro a F
  refine wq_ev (wn rfl) (ev_assign rfl) F rfl rfl ?_; clear F a; intro a F
  refine wq_nil ?_; clear S; intro w S
  refine then_n ?_
  refine wp_ret ?_
  refine post_r _ F rfl (ar_cons (resT rfl) ar_nil) ?_
  refine ⟨_, rfl, ?_⟩; clear F a; intro a F
  replace F : Fr 17 a [(6, elemP v1 z1 3), (0, bp bc_ 0), (1, .string line)] := F
  refine wE (ev_assign rfl) F S rfl fun a F=>?_
  refine wpList_nil ?_
  refine then_n ?_
  refine wp_region_lit ?_
  refine wE (ev_move rfl) F S rfl fun a F=>?_
  refine wE (ev_move rfl) F S rfl fun a F=>?_
  refine wE (ev_nilP (elemN_ptr h1 hy1) rfl) F S rfl fun a F=>?_
  refine wE (ev_fieldAddr' tu75 tf75_2 (z := 0) ts22 rfl (elemN_ptr h1 hy1) rfl) F S rfl fun a F=>?_
  replace S : St g1 [c1, [bx bc_ #[v1, .i6 c_.at_, .bool x2] 101]] fr w := ((S.frontC 0 rfl).frontC 2 rfl)
  obtain ⟨cs1, ca1, cr1, ci1, hH1, hR1, hP1⟩ := OwnN.hole h1 hy1
  replace S : St g1 [ca1, cr1, ci1, [bx bc_ #[v1, .i6 c_.at_, .bool x2] 101]] fr w := St.split3 hP1 S
  obtain ⟨v2, c2, v3, c3, rfl, rfl, h2, h3⟩ := orep_Hunk hR1
  replace S : St g1 [ca1, cr1, c2, c3, [bx bc_ #[v1, .i6 c_.at_, .bool x2] 101]] fr w := S.of_eq (by simp only [fl, List.append_assoc, List.append_nil, List.nil_append])
  refine wE (ev_load1 tu22 rfl rfl (fun w s => fieldP (cells := [v3]) 2 ((HoleN.ptr hH1 _ _ 0 rfl) w s) rfl (lb rfl))) F S rfl fun a F=>?_
  refine wE (ev_move rfl) F S rfl fun a F=>?_
  refine wl_lit (l := ([line] : List ByteArray)) (vs := [.string line]) (parts := [(0, .tmp 12)]) (wn rfl) rfl rfl rfl tu22 te9 (sz_cons rfl sz_nil) rfl (Cat.cons (show Rep.rep _ line _ from rfl) (Cat.nil _)) (coa_cons rfl coa_nil) rfl F S rfl rfl ?_; clear F a S
  rintro v4 c4 a w h4 F S
  obtain ⟨cs2, hk1, hr1⟩ := OwnS.reads h4
  obtain ⟨y2, hy2, hm⟩ := bind_some hm
  refine wl_append (wn rfl) rfl tu22 tu22 te9 (by decide) (by decide) F S rfl rfl (k := 4) rfl h3 hk1 rfl (hr1 _ _ _ 0 rfl S) hy2 rfl rfl ?_; clear F a S
  rintro v5 c5 a w h5 S F; replace S : St g1 [c4, ca1, cr1, c2, c5, [bx bc_ #[v1, .i6 c_.at_, .bool x2] 101]] fr w := S
  refine wE (ev_nilP (elemH_ptr hH1) rfl) F S rfl fun a F=>?_
  refine wE (ev_fieldAddr' tu75 tf75_2 (z := 0) ts22 rfl (elemH_ptr hH1) rfl) F S rfl fun a F=>?_
  refine wl_storeH 2 (wn rfl) rfl F S hH1 rfl rfl rfl (us := [v5]) (OwnS.cl h5) ts22 (one_cons (OwnS.one h5) one_nil) (k := 1) rfl (lb rfl) (cs' := [.i6 y1.At, v2, v5]) rfl rfl ?_; clear S
  rintro ca2 w hH2 S; replace S : St g1 [c4, ca2, cr1, c2, c5, [bx bc_ #[v1, .i6 c_.at_, .bool x2] 101]] fr w := S
  refine wpList_nil ?_
  replace S : St g1 [ca2, cr1, c2, c5, c4, [bx bc_ #[v1, .i6 c_.at_, .bool x2] 101]] fr w := ((((((S.frontC 5 rfl).frontC 1 rfl).frontC 6 rfl).frontC 6 rfl).frontC 6 rfl).frontC 6 rfl)
  obtain ⟨y3, hy3, hm⟩ := bind_some hm
  have h6 := HoleN.shut hH2 (orep_Hunk_mk (x := ({ At := y1.At, Old := y1.Old, New := y2 } : Hunk)) h2 h5); replace h6 : OwnN g1 y3 v1 (ca2 ++ (cr1 ++ (c2 ++ (c5 ++ [])))) := sinj hy3 ▸ h6
  replace S : St g1 [(ca2 ++ (cr1 ++ (c2 ++ (c5 ++ [])))), c4, [bx bc_ #[v1, .i6 c_.at_, .bool x2] 101]] fr w := S.of_eq (by simp only [fl, List.append_assoc, List.append_nil, List.nil_append])
  generalize (ca2 ++ (cr1 ++ (c2 ++ (c5 ++ [])))) = c6 at S h6
  replace F := F.sub (e' := [(16, addP (elemP v1 z1 3) 2), (15, elemP v1 z1 3), (13, v4), (12, .string line), (11, v3), (10, addP (elemP v1 z1 3) 2), (9, elemP v1 z1 3), (8, elemP v1 z1 3), (7, elemP v1 z1 3), (4, elemP v1 z1 3), (6, elemP v1 z1 3), (0, bp bc_ 0), (1, .string line)]) ⟨rfl, rfl, rfl, rfl, rfl, rfl, rfl, rfl, rfl, rfl, rfl, rfl, rfl, trivial⟩
  obtain rfl := sinj hm
  refine post_n _ F rfl ar_nil ?_
  replace S : St g1 [[bx bc_ #[v1, .i6 c_.at_, .bool x2] 101], c6] fr w := St.tail [[bx bc_ #[v1, .i6 c_.at_, .bool x2] 101], c6] _ ((S.frontC 0 rfl).frontC 3 rfl)
  exact ⟨_, rfl, g1, v1, c6, l1, S, h6, rfl⟩

theorem diff_Script_ok {g : Gh} {fr : Hl} {w : World} {r : Patch × Fault} (a_ : (List ByteArray)) (va_1 : Value) (ha_1 : RepSl g a_ va_1) (b_ : (List ByteArray)) (vb_1 : Value) (hb_1 : RepSl g b_ vb_1) (S : St g [] fr w) (hm : diff_Script a_ b_ = some r) :
  Calls Tryd.prog 18 [va_1, vb_1].toArray w (fun en w' => ∃ v, en = .returned v ∧ ∃ (g' : Gh) (v1 : Value), Le g g' ∧ St g' [] fr w' ∧ RepSl g' r.1.Hunks v1 ∧ .tuple #[.agg #[v1], .agg #[.i6 r.2.Code, .i6 r.2.Index]] = v) := by
 unfold diff_Script at hm
 refine calls_enter (fn := Tryd.f18) Tryd.func18 rfl Tryd.ntmps18 (lb rfl) ?_
 intro a F
 replace F : Fr 55 a [(0, va_1), (1, vb_1)] := F
 refine wp_seq ?_
 refine wp_region_lit ?_
 refine wl_alloc (wn rfl) rfl tz55 (cs := [nilS]) rfl F S rfl rfl ?_; clear F a S; rintro b1 a w F S
 refine wl_alloc (wn rfl) rfl tz25 (cs := [.i6 0, .i6 0]) rfl F S rfl rfl ?_; clear F a S; rintro b2 a w F S
 refine wpList_nil ?_
 refine then_n ?_
 refine wp_seq ?_
 refine wp_seq ?_
 refine wp_region_lit ?_
 refine wE (ev_move rfl) F S rfl fun a F=>?_
 refine wE (ev_move rfl) F S rfl fun a F=>?_
 obtain ⟨y1, hy1, hm⟩ := bind_some hm
 refine wl_call0 (wn rfl) rfl F rfl (lines_Both_ok (fr := (fl [[bx b2 #[.i6 0, .i6 0] 25], [bx b1 #[nilS] 55]] fr)) a_ va_1 ha_1 b_ vb_1 hb_1 S hy1) rfl tc16 rfl rfl ?_; clear F a S
 rintro _ a w ⟨g1, l1, S, rfl⟩ F; replace S : St g1 [[bx b2 #[.i6 0, .i6 0] 25], [bx b1 #[nilS] 55]] fr w := S
 refine wl_alloc (wn rfl) rfl tz25 (cs := [.i6 0, .i6 0]) rfl F S rfl rfl ?_; clear F a S; rintro b3 a w F S
 refine wl_storeC (wn rfl) rfl F S rfl rfl (vs := [.i6 y1.Code, .i6 y1.Index]) rfl ts25 (one_cons rfl (one_cons rfl one_nil)) (k := 0) rfl (lb rfl) (c' := #[.i6 y1.Code, .i6 y1.Index]) rfl rfl ?_; clear S; intro w S
 refine wpList_nil ?_
 refine then_n ?_
 refine wp_seq ?_
 refine wp_region_lit ?_
 refine wE (ev_loadA tu25 rfl (cs := [.i6 y1.Code, .i6 y1.Index]) ts25 rfl (box_ptr (cells := [.i6 y1.Code, .i6 y1.Index]) 0 rfl 0 rfl (lb rfl))) F S rfl fun a F=>?_
 refine wE (ev_build (parts := []) (vs := []) rfl (fun w => tb25_  w)) F S rfl fun a F=>?_
 refine wE (ev_neS tu25 tqa25 tqb25 tqc25 (xs := [.i6 y1.Code, .i6 y1.Index]) (ys := [.i6 0, .i6 0]) rfl rfl ⟨_, _, rfl, by decide, ⟨_, _, rfl, rfl, leaf_int tu3⟩, ⟨_, _, rfl, by decide, ⟨_, _, rfl, rfl, leaf_int tu3⟩, rfl⟩⟩) F S rfl fun a F=>?_
 refine wpList_nil ?_
 refine then_n ?_
 obtain ⟨hc1, hm⟩ | ⟨hc1, hm⟩ := ite_or hm
 ·refine wp_condT F rfl hc1 ?_
  refine wp_seq ?_
  refine wp_dv [] mo S ?_; clear S; intro ok1 w S
  refine dv_et ok1 0 rfl (ev_build (parts := []) (vs := []) rfl (fun w => tb55_  w)) F rfl fun a F=>?_
  refine dv_ev ok1 1 rfl (ev_loadA tu25 rfl (cs := [.i6 y1.Code, .i6 y1.Index]) ts25 rfl (box_ptr (cells := [.i6 y1.Code, .i6 y1.Index]) 0 rfl 0 rfl (lb rfl))) F S rfl fun a F=>?_
  refine dv_op ok1 2 rfl [(1, .agg #[.i6 y1.Code, .i6 y1.Index])] ?_
  refine wl_storeC (wn rfl) rfl F S rfl rfl (vs := [nilS]) rfl ts55 (one_cons rfl one_nil) (k := 2) rfl (lb rfl) (c' := #[nilS]) rfl rfl ?_; clear S; intro w S
  refine dv_nx ⟨yl_ev rfl rfl (ev_loadA tu25 rfl (cs := [.i6 y1.Code, .i6 y1.Index]) ts25 rfl (box_ptr (cells := [.i6 y1.Code, .i6 y1.Index]) 0 rfl 0 rfl (lb rfl))) F S, trivial⟩ ?_
  refine dv_op ok1 3 rfl [] ?_
  refine wl_storeC (wn rfl) rfl F S rfl rfl (vs := [.i6 y1.Code, .i6 y1.Index]) rfl ts25 (one_cons rfl (one_cons rfl one_nil)) (k := 1) rfl (lb rfl) (c' := #[.i6 y1.Code, .i6 y1.Index]) rfl rfl ?_; clear S; intro w S
  refine dv_nx trivial ?_
  refine dv_fin ok1 ?_
  refine then_n ?_
  refine wp_ret ?_
  refine then_r ?_
  obtain rfl := sinj hm
  refine post_r _ F rfl (ar_cons (resA rfl tu55 rfl (box_ptr (cells := [nilS]) 2 rfl 0 rfl (lb rfl) w S) ts55) (ar_cons (resA rfl tu25 rfl (box_ptr (cells := [.i6 y1.Code, .i6 y1.Index]) 1 rfl 0 rfl (lb rfl) w S) ts25) ar_nil)) ?_
  replace S : St g1 [] fr w := St.tail [] _ S
  exact ⟨_, rfl, g1, (nilS), l1, S, (RepSl.nil _), rfl⟩
 ·refine wp_condF F rfl hc1 ?_
  refine wp_skip ?_
  refine then_n ?_
  refine wp_seq ?_
  refine wp_region_lit ?_
  refine wl_alloc (wn rfl) rfl tz101 (cs := [nilS, .i6 0, .bool false]) rfl F S rfl rfl ?_; clear F a S; rintro b4 a w F S
  refine wpList_nil ?_
  refine then_n ?_
  refine wp_seq ?_
  refine wp_region_lit ?_
  refine wE (ev_assign rfl) F S rfl fun a F=>?_
  refine wE (ev_assign rfl) F S rfl fun a F=>?_
  refine wpList_nil ?_
  refine then_n ?_
  refine wp_cut (fun a w => ∃ (x1 : List Hunk) (x2 : Int) (x3 : Bool) (v1 : Value) (c1 : Hl) (g2 : Gh), Fr 55 a [(7, bp b4 0), (5, bp b2 0), (4, bp b1 0)] ∧ Le g1 g2 ∧ St g2 [[bx b4 #[v1, .i6 x2, .bool x3] 101], [bx b2 #[.i6 0, .i6 0] 25], [bx b1 #[nilS] 55], c1] fr w ∧ OwnN g2 x1 v1 c1 ∧ diff_Script.j1 x1 x2 x3 = some r) ?_ ?_
  ·refine wp_seq ?_
   refine wp_region_lit ?_
   refine wE (ev_move rfl) F S rfl fun a F=>?_
   refine wE (ev_move rfl) F S rfl fun a F=>?_
   obtain ⟨y2, hy2, hm⟩ := bind_some hm
   refine wl_call0 (wn rfl) rfl F rfl (diff_Align_ok (fr := (fl [[bx b4 #[nilS, .i6 0, .bool false] 101], [bx b3 #[.i6 y1.Code, .i6 y1.Index] 25], [bx b2 #[.i6 0, .i6 0] 25], [bx b1 #[nilS] 55]] fr)) a_ va_1 (ha_1.mono l1) b_ vb_1 (hb_1.mono l1) S hy2) rfl tc32 rfl rfl ?_; clear F a S
   rintro _ a w ⟨g4, v2, c2, l4, S, h3, rfl⟩ F; replace S : St g4 [c2, [bx b4 #[nilS, .i6 0, .bool false] 101], [bx b3 #[.i6 y1.Code, .i6 y1.Index] 25], [bx b2 #[.i6 0, .i6 0] 25], [bx b1 #[nilS] 55]] fr w := S
   refine wE (ev_lenOw h3 rfl tu31) F S rfl fun a F=>?_
   refine wE (ev_move rfl) F S rfl fun a F=>?_
   refine wpList_nil ?_
   refine then_n ?_
   refine wp_block ?_
   obtain ⟨r1, hr1, hm⟩ := bind_some hm
   have hmo1 := hm; clear hm
   refine wp_iter (σ := Int × Int × Int × (List Hunk) × Int × Bool) (ρ := (List Hunk) × Int × Bool) (m := fun s => diff_Script.l1 a_ b_ y2 s.1 s.2.1 s.2.2.1 s.2.2.2.1 s.2.2.2.2.1 s.2.2.2.2.2) (I := fun s a w => match s with | (x4, x5, x6, x7, x8, x9) => ∃ (v3 : Value) (c3 : Hl) (g5 : Gh), Fr 55 a [(24, .i6 x4), (23, .i6 (y2.length : Int)), (22, v2), (9, .i6 x5), (8, .i6 x6), (7, bp b4 0), (5, bp b2 0), (4, bp b1 0), (0, va_1), (1, vb_1)] ∧ Le g4 g5 ∧ St g5 [c2, [bx b4 #[v3, .i6 x8, .bool x9] 101], [bx b2 #[.i6 0, .i6 0] 25], [bx b1 #[nilS] 55], c3] fr w ∧ OwnN g5 x7 v3 c3) hr1 ?_ ?_
   ·dsimp only
    replace S : St g4 [[], c2, [bx b4 #[nilS, .i6 0, .bool false] 101], [bx b3 #[.i6 y1.Code, .i6 y1.Index] 25], [bx b2 #[.i6 0, .i6 0] 25], [bx b1 #[nilS] 55]] fr w := S
    replace S : St g4 [c2, [bx b4 #[nilS, .i6 0, .bool false] 101], [bx b2 #[.i6 0, .i6 0] 25], [bx b1 #[nilS] 55], []] fr w := St.tail [c2, [bx b4 #[nilS, .i6 0, .bool false] 101], [bx b2 #[.i6 0, .i6 0] 25], [bx b1 #[nilS] 55], []] _ (((((S.frontC 0 rfl).frontC 6 rfl).frontC 6 rfl).frontC 5 rfl).frontC 5 rfl)
    exact ⟨(nilS), [], g4, F.sub ⟨rfl, rfl, rfl, rfl, rfl, rfl, rfl, rfl, rfl, rfl, trivial⟩, (Le.refl _), S, (OwnN.nil _)⟩
   ·clear F S; rintro ⟨x4, x5, x6, x7, x8, x9⟩ a w x10 ⟨v3, c3, g5, F, l5, S, h4⟩ hx1 hfin1
    have hm : diff_Script.l1 a_ b_ y2 x4 x5 x6 x7 x8 x9 = some x10 := hx1; clear hx1
    unfold diff_Script.l1 at hm
    refine wp_seq ?_
    refine wp_region_lit ?_
    refine wE (ev_int rfl rfl (bo_lss _ _ _ _)) F S rfl fun a F=>?_
    refine wpList_nil ?_
    refine then_n ?_
    refine wp_seq ?_
    obtain ⟨hc2, hm⟩ | ⟨hc2, hm⟩ := ite_or hm
    ·refine wp_condT F rfl hc2 ?_
     refine wp_skip ?_
     refine then_n ?_
     refine wp_cut (fun a w => ∃ (x11 : Int) (x12 : Int) (x13 : List Hunk) (x14 : Int) (x15 : Bool) (v4 : Value) (c4 : Hl) (g6 : Gh), Fr 55 a [(9, .i6 x11), (8, .i6 x12), (24, .i6 x4), (23, .i6 (y2.length : Int)), (22, v2), (7, bp b4 0), (5, bp b2 0), (4, bp b1 0), (0, va_1), (1, vb_1)] ∧ Le g5 g6 ∧ St g6 [c2, [bx b4 #[v4, .i6 x14, .bool x15] 101], [bx b2 #[.i6 0, .i6 0] 25], [bx b1 #[nilS] 55], c4] fr w ∧ OwnN g6 x13 v4 c4 ∧ diff_Script.j2 x4 x11 x12 x13 x14 x15 = some x10) ?_ ?_
     ·refine wp_block ?_
      refine wp_seq ?_
      refine wp_region_lit ?_
      obtain ⟨y3, hy3, hm⟩ := bind_some hm
      refine wE (ev_idxO (h3.mono l5) hy3 tu31 ts3 rfl rfl) F S rfl fun a F=>?_
      obtain ⟨cs1, hr2, hq1⟩ := elemO (h3.mono l5) hy3
      obtain rfl := rep_int hr2
      refine wE (ev_load1 tu3 rfl rfl (hq1 _ _ 0 rfl)) F S rfl fun a F=>?_
      refine wE (ev_assign rfl) F S rfl fun a F=>?_
      refine wpList_nil ?_
      refine then_n ?_
      refine wp_seq ?_
      refine wp_region_lit ?_
      refine wE (ev_move rfl) F S rfl fun a F=>?_
      refine wpList_nil ?_
      refine then_n ?_
      refine wp_block ?_
      refine wp_seq ?_
      refine wp_region_lit ?_
      refine wE (ev_int rfl rfl (bo_eql _ _ _ _)) F S rfl fun a F=>?_
      refine wE (ev_assign rfl) F S rfl fun a F=>?_
      refine wpList_nil ?_
      refine then_n ?_
      obtain ⟨hc3, hm⟩ | ⟨hc3, hm⟩ := ite_or hm
      ·refine wp_condT F rfl hc3 ?_
       refine wp_seq ?_
       refine wp_region_lit ?_
       replace S : St g5 [[bx b4 #[v3, .i6 x8, .bool x9] 101], c3, c2, [bx b2 #[.i6 0, .i6 0] 25], [bx b1 #[nilS] 55]] fr w := (((((S.frontC 3 rfl).frontC 3 rfl).frontC 2 rfl).frontC 7 rfl).frontC 5 rfl)
       obtain ⟨y4, hy4, hm⟩ := bind_some hm
       refine wl_call0 (wn rfl) rfl F rfl (diff_Collector__Keep_ok (fr := (fl [c2, [bx b2 #[.i6 0, .i6 0] 25], [bx b1 #[nilS] 55]] fr)) b4 ({ hunks := x7, at_ := x8, open_ := x9 } : Collector_diff) v3 c3 h4 1 S hy4) rfl tc45 rfl rfl ?_; clear F a S
       rintro _ a w ⟨g7, v5, c5, l7, S, h6, rfl⟩ F; replace S : St g7 [[bx b4 #[v5, .i6 y4.at_, .bool y4.open_] 101], c5, c2, [bx b2 #[.i6 0, .i6 0] 25], [bx b1 #[nilS] 55]] fr w := S
       refine wpList_nil ?_
       refine then_n ?_
       refine wp_region_lit ?_
       refine wE (ev_move rfl) F S rfl fun a F=>?_
       obtain ⟨z2, hz2, hm⟩ := bind_some hm
       refine wE (ev_int rfl rfl (bo_add hz2)) F S rfl fun a F=>?_
       refine wE (ev_move rfl) F S rfl fun a F=>?_
       obtain ⟨z3, hz3, hm⟩ := bind_some hm
       refine wE (ev_int rfl rfl (bo_add hz3)) F S rfl fun a F=>?_
       refine wE (ev_assign rfl) F S rfl fun a F=>?_
       refine wE (ev_assign rfl) F S rfl fun a F=>?_
       refine wpList_nil ?_
       refine inb_n ?_
       refine inb_n ?_
       refine then_n ?_
       replace S : St g7 [c2, [bx b4 #[v5, .i6 y4.at_, .bool y4.open_] 101], [bx b2 #[.i6 0, .i6 0] 25], [bx b1 #[nilS] 55], c5] fr w := St.tail [c2, [bx b4 #[v5, .i6 y4.at_, .bool y4.open_] 101], [bx b2 #[.i6 0, .i6 0] 25], [bx b1 #[nilS] 55], c5] _ (((((S.frontC 1 rfl).frontC 5 rfl).frontC 5 rfl).frontC 3 rfl).frontC 6 rfl)
       exact ⟨z3, z2, y4.hunks, y4.at_, y4.open_, v5, c5, g7, F.sub ⟨rfl, rfl, rfl, rfl, rfl, rfl, rfl, rfl, rfl, rfl, trivial⟩, l7, S, h6, hm⟩
      ·refine wp_condF F rfl hc3 ?_
       refine wp_seq ?_
       refine wp_region_lit ?_
       refine wE (ev_int rfl rfl (bo_eql _ _ _ _)) F S rfl fun a F=>?_
       refine wE (ev_assign rfl) F S rfl fun a F=>?_
       refine wpList_nil ?_
       refine then_n ?_
       obtain ⟨hc4, hm⟩ | ⟨hc4, hm⟩ := ite_or hm
       ·refine wp_condT F rfl hc4 ?_
        refine wp_seq ?_
        refine wp_region_lit ?_
        refine wE (ev_move rfl) F S rfl fun a F=>?_
        refine wE (ev_move rfl) F S rfl fun a F=>?_
        obtain ⟨y5, hy5, hm⟩ := bind_some hm
        obtain ⟨cs2, hr3, hp1⟩ := elemS (ha_1.mono ((l1.trans l4).trans l5)) hy5
        obtain rfl := rep_str hr3
        refine wE (ev_idxS (ha_1.mono ((l1.trans l4).trans l5)) hy5 tu22 ts9 rfl rfl) F S rfl fun a F=>?_
        refine wE (ev_load1 tu9 rfl rfl (ptr_mono (cks := [c2, [bx b4 #[v3, .i6 x8, .bool x9] 101], [bx b2 #[.i6 0, .i6 0] 25], [bx b1 #[nilS] 55], c3]) (fr := fr) hp1 (Le.refl _))) F S rfl fun a F=>?_
        replace S : St g5 [[bx b4 #[v3, .i6 x8, .bool x9] 101], c3, c2, [bx b2 #[.i6 0, .i6 0] 25], [bx b1 #[nilS] 55]] fr w := (((((S.frontC 3 rfl).frontC 3 rfl).frontC 2 rfl).frontC 7 rfl).frontC 5 rfl)
        obtain ⟨y6, hy6, hm⟩ := bind_some hm
        refine wl_call0 (wn rfl) rfl F rfl (diff_Collector__Delete_ok (fr := (fl [c2, [bx b2 #[.i6 0, .i6 0] 25], [bx b1 #[nilS] 55]] fr)) b4 ({ hunks := x7, at_ := x8, open_ := x9 } : Collector_diff) v3 c3 h4 y5 S hy6) rfl tc46 rfl rfl ?_; clear F a S
        rintro _ a w ⟨g8, v6, c6, l8, S, h7, rfl⟩ F; replace S : St g8 [[bx b4 #[v6, .i6 y6.at_, .bool y6.open_] 101], c6, c2, [bx b2 #[.i6 0, .i6 0] 25], [bx b1 #[nilS] 55]] fr w := S
        refine wpList_nil ?_
        refine then_n ?_
        refine wp_region_lit ?_
        refine wE (ev_move rfl) F S rfl fun a F=>?_
        obtain ⟨z4, hz4, hm⟩ := bind_some hm
        refine wE (ev_int rfl rfl (bo_add hz4)) F S rfl fun a F=>?_
        refine wE (ev_assign rfl) F S rfl fun a F=>?_
        refine wpList_nil ?_
        refine inb_n ?_
        refine inb_n ?_
        refine then_n ?_
        replace S : St g8 [c2, [bx b4 #[v6, .i6 y6.at_, .bool y6.open_] 101], [bx b2 #[.i6 0, .i6 0] 25], [bx b1 #[nilS] 55], c6] fr w := St.tail [c2, [bx b4 #[v6, .i6 y6.at_, .bool y6.open_] 101], [bx b2 #[.i6 0, .i6 0] 25], [bx b1 #[nilS] 55], c6] _ (((((S.frontC 1 rfl).frontC 5 rfl).frontC 5 rfl).frontC 3 rfl).frontC 6 rfl)
        exact ⟨x5, z4, y6.hunks, y6.at_, y6.open_, v6, c6, g8, F.sub ⟨rfl, rfl, rfl, rfl, rfl, rfl, rfl, rfl, rfl, rfl, trivial⟩, l8, S, h7, hm⟩
       ·refine wp_condF F rfl hc4 ?_
        refine wp_seq ?_
        refine wp_region_lit ?_
        refine wE (ev_move rfl) F S rfl fun a F=>?_
        refine wE (ev_move rfl) F S rfl fun a F=>?_
        obtain ⟨y7, hy7, hm⟩ := bind_some hm
        obtain ⟨cs3, hr4, hp2⟩ := elemS (hb_1.mono ((l1.trans l4).trans l5)) hy7
        obtain rfl := rep_str hr4
        refine wE (ev_idxS (hb_1.mono ((l1.trans l4).trans l5)) hy7 tu22 ts9 rfl rfl) F S rfl fun a F=>?_
        refine wE (ev_load1 tu9 rfl rfl (ptr_mono (cks := [c2, [bx b4 #[v3, .i6 x8, .bool x9] 101], [bx b2 #[.i6 0, .i6 0] 25], [bx b1 #[nilS] 55], c3]) (fr := fr) hp2 (Le.refl _))) F S rfl fun a F=>?_
        replace S : St g5 [[bx b4 #[v3, .i6 x8, .bool x9] 101], c3, c2, [bx b2 #[.i6 0, .i6 0] 25], [bx b1 #[nilS] 55]] fr w := (((((S.frontC 3 rfl).frontC 3 rfl).frontC 2 rfl).frontC 7 rfl).frontC 5 rfl)
        obtain ⟨y8, hy8, hm⟩ := bind_some hm
        refine wl_call0 (wn rfl) rfl F rfl (diff_Collector__Insert_ok (fr := (fl [c2, [bx b2 #[.i6 0, .i6 0] 25], [bx b1 #[nilS] 55]] fr)) b4 ({ hunks := x7, at_ := x8, open_ := x9 } : Collector_diff) v3 c3 h4 y7 S hy8) rfl tc47 rfl rfl ?_; clear F a S
        rintro _ a w ⟨g9, v7, c7, l9, S, h8, rfl⟩ F; replace S : St g9 [[bx b4 #[v7, .i6 y8.at_, .bool y8.open_] 101], c7, c2, [bx b2 #[.i6 0, .i6 0] 25], [bx b1 #[nilS] 55]] fr w := S
        refine wpList_nil ?_
        refine then_n ?_
        refine wp_region_lit ?_
        refine wE (ev_move rfl) F S rfl fun a F=>?_
        obtain ⟨z5, hz5, hm⟩ := bind_some hm
        refine wE (ev_int rfl rfl (bo_add hz5)) F S rfl fun a F=>?_
        refine wE (ev_assign rfl) F S rfl fun a F=>?_
        refine wpList_nil ?_
        refine inb_n ?_
        refine inb_n ?_
        refine then_n ?_
        replace S : St g9 [c2, [bx b4 #[v7, .i6 y8.at_, .bool y8.open_] 101], [bx b2 #[.i6 0, .i6 0] 25], [bx b1 #[nilS] 55], c7] fr w := St.tail [c2, [bx b4 #[v7, .i6 y8.at_, .bool y8.open_] 101], [bx b2 #[.i6 0, .i6 0] 25], [bx b1 #[nilS] 55], c7] _ (((((S.frontC 1 rfl).frontC 5 rfl).frontC 5 rfl).frontC 3 rfl).frontC 6 rfl)
        exact ⟨z5, x6, y8.hunks, y8.at_, y8.open_, v7, c7, g9, F.sub ⟨rfl, rfl, rfl, rfl, rfl, rfl, rfl, rfl, rfl, rfl, trivial⟩, l9, S, h8, hm⟩
     ·clear F S hm; rintro a w ⟨x11, x12, x13, x14, x15, v4, c4, g6, F, l6, S, h5, hm⟩
      refine wp_region_lit ?_
      obtain ⟨z1, hz1, hm⟩ := bind_some hm
      refine wE (ev_int rfl rfl (bo_add hz1)) F S rfl fun a F=>?_
      refine wE (ev_move rfl) F S rfl fun a F=>?_
      refine wpList_nil ?_
      refine then_n ?_
      obtain rfl := sinj hm
      refine ⟨_, rfl, ?_⟩
      dsimp only
      exact ⟨v4, c4, g6, F.sub ⟨rfl, rfl, rfl, rfl, rfl, rfl, rfl, rfl, rfl, rfl, trivial⟩, (l5.trans l6), S, h5⟩
    ·refine wp_condF F rfl hc2 ?_
     refine wp_exit ?_
     refine then_e ?_
     refine then_e ?_
     refine inb_x ?_
     refine then_n ?_
     obtain rfl := sinj hm
     obtain rfl := hfin1 _ rfl
     clear hm
     have hm : (diff_Script.j1 x7 x8 x9 : Option (Patch × Fault)) = some _ := hmo1
     replace S : St g5 [[bx b4 #[v3, .i6 x8, .bool x9] 101], [bx b2 #[.i6 0, .i6 0] 25], [bx b1 #[nilS] 55], c3] fr w := St.tail [[bx b4 #[v3, .i6 x8, .bool x9] 101], [bx b2 #[.i6 0, .i6 0] 25], [bx b1 #[nilS] 55], c3] _ ((((S.frontC 4 rfl).frontC 4 rfl).frontC 4 rfl).frontC 4 rfl)
     exact ⟨x7, x8, x9, v3, c3, g5, F.sub ⟨rfl, rfl, rfl, trivial⟩, (l4.trans l5), S, h4, hm⟩
  ·clear F S hm; rintro a w ⟨x1, x2, x3, v1, c1, g2, F, l2, S, h1, hm⟩
   refine wp_seq ?_
   refine wp_region_lit ?_
   replace F := F.sub (e' := [(7, bp b4 0), (5, bp b2 0), (4, bp b1 0)]) ⟨rfl, rfl, rfl, trivial⟩
   refine wl_callK (wn rfl) rfl (xs := [.tmp 7]) (vs := [bp b4 0]) (cap := []) (e' := [(5, bp b2 0), (4, bp b1 0)]) ⟨rfl, rfl, trivial⟩ F rfl rfl tc48 rfl rfl (calls_enter (fn := Tryd.f48) Tryd.func48 rfl Tryd.ntmps48 (lb rfl) ?_); clear F a; intro a F
   replace F : Fr 8 a [(0, bp b4 0)] := F
   refine wp_seq ?_
   refine wp_region_lit ?_
   refine wl_alloc (wn rfl) rfl tz55 (cs := [nilS]) rfl F S rfl rfl ?_; clear F a S; rintro b5 a w F S
   refine wpList_nil ?_
   refine then_n ?_
   refine wp_seq ?_
   refine wp_region_lit ?_
   refine wE (ev_move rfl) F S rfl fun a F=>?_
   refine wE (ev_nil rfl) F S rfl fun a F=>?_
   refine wE (ev_fieldAddr' tu101 tf101_0 (z := 0) ts53 rfl ⟨_, rfl⟩ rfl) F S rfl fun a F=>?_
   refine wE (ev_load1 tu53 rfl rfl (box_ptr (cells := [v1]) 1 rfl 0 rfl (lb rfl))) F S rfl fun a F=>?_
   refine wE (ev_build (parts := [(0, .tmp 6)]) (vs := [(0, v1)]) rfl (fun w => tb55_0 v1 (OwnN.isSl h1) w)) F S rfl fun a F=>?_
   refine wl_storeC (wn rfl) rfl F S rfl rfl (vs := [v1]) rfl ts55 (one_cons (OwnN.one h1) one_nil) (k := 0) rfl (lb rfl) (c' := #[v1]) rfl rfl ?_; clear S; intro w S
   refine wpList_nil ?_
   refine then_n ?_
   refine wp_ret ?_
   refine post_r _ F rfl (ar_cons (resA rfl tu55 rfl (box_ptr (cells := [v1]) 0 rfl 0 rfl (lb rfl) w S) ts55) ar_nil) ?_
   refine ⟨_, rfl, ?_⟩; clear F a; intro a F
   replace F : Fr 55 a [(53, .agg #[v1]), (5, bp b2 0), (4, bp b1 0)] := F
   refine wE (ev_build (parts := []) (vs := []) rfl (fun w => tb25_  w)) F S rfl fun a F=>?_
   refine wl_storeC (wn rfl) rfl F S rfl rfl (vs := [v1]) rfl ts55 (one_cons (OwnN.one h1) one_nil) (k := 3) rfl (lb rfl) (c' := #[v1]) rfl rfl ?_; clear S; intro w S
   refine wl_storeC (wn rfl) rfl F S rfl rfl (vs := [.i6 0, .i6 0]) rfl ts25 (one_cons rfl (one_cons rfl one_nil)) (k := 2) rfl (lb rfl) (c' := #[.i6 0, .i6 0]) rfl rfl ?_; clear S; intro w S
   refine wpList_nil ?_
   refine then_n ?_
   refine wp_ret ?_
   obtain rfl := sinj hm
   obtain ⟨g3, l3, S, h2⟩ : ∃ gz, Le g2 gz ∧ St gz [[bx b5 #[v1] 55], [bx b4 #[v1, .i6 x2, .bool x3] 101], [bx b2 #[.i6 0, .i6 0] 25], [bx b1 #[v1] 55]] fr w ∧ RepSl gz x1 v1 := ⟨_, Le.add _ _, S.freeze 4 rfl, OwnN.freeze (S.front 4 rfl) h1⟩
   refine post_r _ F rfl (ar_cons (resA rfl tu55 rfl (box_ptr (cells := [v1]) 3 rfl 0 rfl (lb rfl) w S) ts55) (ar_cons (resA rfl tu25 rfl (box_ptr (cells := [.i6 0, .i6 0]) 2 rfl 0 rfl (lb rfl) w S) ts25) ar_nil)) ?_
   replace S : St g3 [] fr w := St.tail [] _ S
   exact ⟨_, rfl, g3, v1, ((l1.trans l2).trans l3), S, h2, rfl⟩

theorem textpatch_End_ok {g : Gh} {fr : Hl} {w : World} {r : Int} (h_ : Hunk) (vh_1 : Value) (hh_1 : RepSl g h_.Old vh_1) (vh_2 : Value) (hh_2 : RepSl g h_.New vh_2) (S : St g [] fr w) (hm : textpatch_End h_ = some r) :
  Calls Tryd.prog 53 [.agg #[.i6 h_.At, vh_1, vh_2]].toArray w (fun en w' => ∃ v, en = .returned v ∧ ∃ (g' : Gh), Le g g' ∧ St g' [] fr w' ∧ .i6 r = v) := by
 unfold textpatch_End at hm
 refine calls_enter (fn := Tryd.f53) Tryd.func53 rfl Tryd.ntmps53 (lb rfl) ?_
 intro a F
 replace F : Fr 9 a [(0, .agg #[.i6 h_.At, vh_1, vh_2])] := F
 refine wp_seq ?_
 refine wp_region_lit ?_
 refine wl_boxC (wn rfl) rfl rfl rfl F S rfl rfl ?_; clear F a S; rintro b1 a w F S
 refine wE (ev_assign rfl) F S rfl fun a F=>?_
 refine wpList_nil ?_
 refine then_n ?_
 refine wp_seq ?_
 refine wp_region_lit ?_
 refine wE (ev_fieldAddr' tu75 tf75_0 (z := 0) ts3 rfl ⟨_, rfl⟩ rfl) F S rfl fun a F=>?_
 refine wE (ev_load1 tu3 rfl rfl (box_ptr (cells := [.i6 h_.At]) 0 rfl 0 rfl (lb rfl))) F S rfl fun a F=>?_
 refine wE (ev_fieldAddr' tu75 tf75_1 (z := 0) ts22 rfl ⟨_, rfl⟩ rfl) F S rfl fun a F=>?_
 refine wE (ev_load1 tu22 rfl rfl (box_ptr (cells := [vh_1]) 0 rfl 1 rfl (lb rfl))) F S rfl fun a F=>?_
 refine wE (ev_lenSh hh_1 rfl tu22) F S rfl fun a F=>?_
 obtain ⟨z1, hz1, hm⟩ := bind_some hm
 refine wE (ev_int rfl rfl (bo_add hz1)) F S rfl fun a F=>?_
 refine wE (ev_assign rfl) F S rfl fun a F=>?_
 refine wpList_nil ?_
 refine then_n ?_
 refine wp_ret ?_
 obtain rfl := sinj hm
 refine post_r _ F rfl (ar_cons (resT rfl) ar_nil) ?_
 replace S : St g [] fr w := St.tail [] _ S
 exact ⟨_, rfl, g, (Le.refl _), S, rfl⟩

theorem textpatch_Growth_ok {g : Gh} {fr : Hl} {w : World} {r : Int} (h_ : Hunk) (vh_1 : Value) (hh_1 : RepSl g h_.Old vh_1) (vh_2 : Value) (hh_2 : RepSl g h_.New vh_2) (S : St g [] fr w) (hm : textpatch_Growth h_ = some r) :
  Calls Tryd.prog 73 [.agg #[.i6 h_.At, vh_1, vh_2]].toArray w (fun en w' => ∃ v, en = .returned v ∧ ∃ (g' : Gh), Le g g' ∧ St g' [] fr w' ∧ .i6 r = v) := by
 unfold textpatch_Growth at hm
 refine calls_enter (fn := Tryd.f73) Tryd.func73 rfl Tryd.ntmps73 (lb rfl) ?_
 intro a F
 replace F : Fr 10 a [(0, .agg #[.i6 h_.At, vh_1, vh_2])] := F
 refine wp_seq ?_
 refine wp_region_lit ?_
 refine wl_boxC (wn rfl) rfl rfl rfl F S rfl rfl ?_; clear F a S; rintro b1 a w F S
 refine wE (ev_assign rfl) F S rfl fun a F=>?_
 refine wpList_nil ?_
 refine then_n ?_
 refine wp_seq ?_
 refine wp_region_lit ?_
 refine wE (ev_fieldAddr' tu75 tf75_2 (z := 0) ts22 rfl ⟨_, rfl⟩ rfl) F S rfl fun a F=>?_
 refine wE (ev_load1 tu22 rfl rfl (box_ptr (cells := [vh_2]) 0 rfl 2 rfl (lb rfl))) F S rfl fun a F=>?_
 refine wE (ev_lenSh hh_2 rfl tu22) F S rfl fun a F=>?_
 refine wE (ev_fieldAddr' tu75 tf75_1 (z := 0) ts22 rfl ⟨_, rfl⟩ rfl) F S rfl fun a F=>?_
 refine wE (ev_load1 tu22 rfl rfl (box_ptr (cells := [vh_1]) 0 rfl 1 rfl (lb rfl))) F S rfl fun a F=>?_
 refine wE (ev_lenSh hh_1 rfl tu22) F S rfl fun a F=>?_
 obtain ⟨z1, hz1, hm⟩ := bind_some hm
 refine wE (ev_int rfl rfl (bo_sub hz1)) F S rfl fun a F=>?_
 refine wE (ev_assign rfl) F S rfl fun a F=>?_
 refine wpList_nil ?_
 refine then_n ?_
 refine wp_ret ?_
 obtain rfl := sinj hm
 refine post_r _ F rfl (ar_cons (resT rfl) ar_nil) ?_
 replace S : St g [] fr w := St.tail [] _ S
 exact ⟨_, rfl, g, (Le.refl _), S, rfl⟩

theorem commute_OldRanges_ok {g : Gh} {fr : Hl} {w : World} {r : (List Range_commute)} (p_ : Patch) (vp_1 : Value) (hp_1 : RepSl g p_.Hunks vp_1) (S : St g [] fr w) (hm : commute_OldRanges p_ = some r) :
  Calls Tryd.prog 49 [.agg #[vp_1]].toArray w (fun en w' => ∃ v, en = .returned v ∧ ∃ (g' : Gh) (v1 : Value) (c1 : Hl), Le g g' ∧ St g' [c1] fr w' ∧ OwnS g' r v1 c1 ∧ v1 = v) := by
 unfold commute_OldRanges at hm
 refine calls_enter (fn := Tryd.f49) Tryd.func49 rfl Tryd.ntmps49 (lb rfl) ?_
 intro a F
 replace F : Fr 25 a [(0, .agg #[vp_1])] := F
 refine wp_seq ?_
 refine wp_region_lit ?_
 refine wl_boxC (wn rfl) rfl rfl rfl F S rfl rfl ?_; clear F a S; rintro b1 a w F S
 refine wE (ev_assign rfl) F S rfl fun a F=>?_
 refine wpList_nil ?_
 refine then_n ?_
 refine wp_seq ?_
 refine wp_region_lit ?_
 refine wE (ev_assign rfl) F S rfl fun a F=>?_
 refine wpList_nil ?_
 refine then_n ?_
 refine wp_cut (fun a w => ∃ (x1 : List Range_commute) (v1 : Value) (c1 : Hl) (g1 : Gh), Fr 25 a [(3, v1)] ∧ Le g g1 ∧ St g1 [c1] fr w ∧ OwnS g1 x1 v1 c1 ∧ commute_OldRanges.j1 x1 = some r) ?_ ?_
 ·refine wp_seq ?_
  refine wp_region_lit ?_
  refine wE (ev_fieldAddr' tu55 tf55_0 (z := 0) ts53 rfl ⟨_, rfl⟩ rfl) F S rfl fun a F=>?_
  refine wE (ev_load1 tu53 rfl rfl (box_ptr (cells := [vp_1]) 0 rfl 0 rfl (lb rfl))) F S rfl fun a F=>?_
  refine wE (ev_lenSh hp_1 rfl tu53) F S rfl fun a F=>?_
  refine wE (ev_move rfl) F S rfl fun a F=>?_
  refine wpList_nil ?_
  refine then_n ?_
  refine wp_block ?_
  obtain ⟨r1, hr1, hm⟩ := bind_some hm
  have hmo1 := hm; clear hm
  refine wp_iter (σ := Int × (List Range_commute)) (ρ := (List Range_commute)) (m := fun s => commute_OldRanges.l1 p_ s.1 s.2) (I := fun s a w => match s with | (x2, x3) => ∃ (v2 : Value) (c2 : Hl) (g2 : Gh), Fr 25 a [(9, .i6 x2), (8, .i6 (p_.Hunks.length : Int)), (7, vp_1), (3, v2)] ∧ Le g g2 ∧ St g2 [c2] fr w ∧ OwnS g2 x3 v2 c2) hr1 ?_ ?_
  ·dsimp only
   replace S : St g [[], [bx b1 #[vp_1] 55]] fr w := S
   replace S : St g [[]] fr w := St.tail [[]] _ (S.frontC 0 rfl)
   exact ⟨(nilS), [], g, F.sub ⟨rfl, rfl, rfl, rfl, trivial⟩, (Le.refl _), S, (OwnS.nil _)⟩
  ·clear F S; rintro ⟨x2, x3⟩ a w x4 ⟨v2, c2, g2, F, l2, S, h2⟩ hx1 hfin1
   have hm : commute_OldRanges.l1 p_ x2 x3 = some x4 := hx1; clear hx1
   unfold commute_OldRanges.l1 at hm
   refine wp_seq ?_
   refine wp_region_lit ?_
   refine wE (ev_int rfl rfl (bo_lss _ _ _ _)) F S rfl fun a F=>?_
   refine wpList_nil ?_
   refine then_n ?_
   refine wp_seq ?_
   obtain ⟨hc1, hm⟩ | ⟨hc1, hm⟩ := ite_or hm
   ·refine wp_condT F rfl hc1 ?_
    refine wp_skip ?_
    refine then_n ?_
    refine wp_seq ?_
    refine wp_block ?_
    refine wp_seq ?_
    refine wp_region_lit ?_
    obtain ⟨y1, hy1, hm⟩ := bind_some hm
    obtain ⟨cs1, hr2, hp1⟩ := elemS (hp_1.mono l2) hy1
    obtain ⟨v3, v4, rfl, h3, h4⟩ := rep_Hunk hr2
    refine wE (ev_idxS (hp_1.mono l2) hy1 tu53 ts75 rfl rfl) F S rfl fun a F=>?_
    refine wE (ev_loadA tu75 rfl (cs := [.i6 y1.At, v3, v4]) ts75 rfl (ptr_mono (cks := [c2]) (fr := fr) hp1 (Le.refl _))) F S rfl fun a F=>?_
    refine wl_alloc (wn rfl) rfl tz75 (cs := [.i6 0, nilS, nilS]) rfl F S rfl rfl ?_; clear F a S; rintro b2 a w F S
    refine wl_storeC (wn rfl) rfl F S rfl rfl (vs := [.i6 y1.At, v3, v4]) rfl ts75 (one_cons rfl (one_cons h3.one (one_cons h4.one one_nil))) (k := 0) rfl (lb rfl) (c' := #[.i6 y1.At, v3, v4]) rfl rfl ?_; clear S; intro w S
    refine wpList_nil ?_
    refine then_n ?_
    refine wp_dv [10] mo S ?_; clear S; intro ok1 w S
    refine dv_et ok1 0 rfl (ev_move rfl) F rfl fun a F=>?_
    refine dv_et ok1 1 rfl (ev_fieldAddr' tu75 tf75_0 (z := 0) ts3 rfl ⟨_, rfl⟩ rfl) F rfl fun a F=>?_
    refine dv_ev ok1 2 rfl (ev_load1 tu3 rfl rfl (box_ptr (cells := [.i6 y1.At]) 0 rfl 0 rfl (lb rfl))) F S rfl fun a F=>?_
    refine dv_ev ok1 3 rfl (ev_loadA tu75 rfl (cs := [.i6 y1.At, v3, v4]) ts75 rfl (box_ptr (cells := [.i6 y1.At, v3, v4]) 0 rfl 0 rfl (lb rfl))) F S rfl fun a F=>?_
    refine dv_ev ok1 5 rfl (ev_loadA tu75 rfl (cs := [.i6 y1.At, v3, v4]) ts75 rfl (box_ptr (cells := [.i6 y1.At, v3, v4]) 0 rfl 0 rfl (lb rfl))) F S rfl fun a F=>?_
    refine dv_op ok1 4 rfl [(5, .agg #[.i6 y1.At, v3, v4]), (2, .i6 y1.At)] ?_
    obtain ⟨y2, hy2, hm⟩ := bind_some hm
    refine wl_call0 (wn rfl) rfl F rfl (textpatch_End_ok (fr := (fl [[bx b2 #[.i6 y1.At, v3, v4] 75], c2] fr)) y1 v3 h3 v4 h4 S hy2) rfl tc53 rfl rfl ?_; clear F a S
    rintro _ a w ⟨g3, l3, S, rfl⟩ F; replace S : St g3 [[bx b2 #[.i6 y1.At, v3, v4] 75], c2] fr w := S
    refine dv_nx ⟨yl_ev rfl rfl (ev_loadA tu75 rfl (cs := [.i6 y1.At, v3, v4]) ts75 rfl (box_ptr (cells := [.i6 y1.At, v3, v4]) 0 rfl 0 rfl (lb rfl))) F S, yl_ev rfl rfl (ev_load1 tu3 rfl rfl (box_ptr (cells := [.i6 y1.At]) 0 rfl 0 rfl (lb rfl))) F S, trivial⟩ ?_
    refine dv_op ok1 6 rfl [(2, .i6 y1.At)] ?_
    obtain ⟨y3, hy3, hm⟩ := bind_some hm
    refine wl_call0 (wn rfl) rfl F rfl (textpatch_Growth_ok (fr := (fl [[bx b2 #[.i6 y1.At, v3, v4] 75], c2] fr)) y1 v3 (h3.mono l3) v4 (h4.mono l3) S hy3) rfl tc73 rfl rfl ?_; clear F a S
    rintro _ a w ⟨g4, l4, S, rfl⟩ F; replace S : St g4 [[bx b2 #[.i6 y1.At, v3, v4] 75], c2] fr w := S
    refine dv_nx ⟨yl_ev rfl rfl (ev_load1 tu3 rfl rfl (box_ptr (cells := [.i6 y1.At]) 0 rfl 0 rfl (lb rfl))) F S, trivial⟩ ?_
    refine dv_et ok1 7 rfl (ev_build (parts := [(0, .tmp 15), (1, .tmp 17), (2, .tmp 19)]) (vs := [(0, .i6 y1.At), (1, .i6 y2), (2, .i6 y3)]) rfl (fun w => tb63_0_1_2 y1.At y2 y3 w)) F rfl fun a F=>?_
    refine dv_op ok1 8 rfl [] ?_
    refine wl_lit (l := ([({ Low := y1.At, High := y2, Growth := y3 } : Range_commute)] : List Range_commute)) (vs := [.agg #[.i6 y1.At, .i6 y2, .i6 y3]]) (parts := [(0, .tmp 20)]) (wn rfl) rfl rfl rfl tu60 te63 (sz_cons rfl sz_nil) rfl (Cat.cons (rep_Range_commute_mk (x := ({ Low := y1.At, High := y2, Growth := y3 } : Range_commute)) ) (Cat.nil _)) (coa_cons rfl coa_nil) rfl F S rfl rfl ?_; clear F a S
    rintro v5 c3 a w h5 F S
    refine dv_nx trivial ?_
    refine dv_op ok1 9 rfl [] ?_
    obtain ⟨cs2, hk1, hr3⟩ := OwnS.reads h5
    obtain ⟨y4, hy4, hm⟩ := bind_some hm
    refine wl_append (wn rfl) rfl tu60 tu60 te63 (by decide) (by decide) F S rfl rfl (k := 2) rfl (h2.mono (l3.trans l4)) hk1 rfl (hr3 _ _ _ 0 rfl S) hy4 rfl rfl ?_; clear F a S
    rintro v6 c4 a w h6 S F; replace S : St g4 [c3, [bx b2 #[.i6 y1.At, v3, v4] 75], c4] fr w := S
    refine dv_nx trivial ?_
    refine dv_op ok1 10 rfl [] ?_
    refine wE (ev_assign rfl) F S rfl fun a F=>?_
    refine dv_nx trivial ?_
    refine dv_fin ok1 ?_
    refine inb_n ?_
    refine then_n ?_
    refine wp_region_lit ?_
    obtain ⟨z1, hz1, hm⟩ := bind_some hm
    refine wE (ev_int rfl rfl (bo_add hz1)) F S rfl fun a F=>?_
    refine wE (ev_move rfl) F S rfl fun a F=>?_
    refine wpList_nil ?_
    refine then_n ?_
    obtain rfl := sinj hm
    refine ⟨_, rfl, ?_⟩
    dsimp only
    replace S : St g4 [c4] fr w := St.tail [c4] _ (S.frontC 2 rfl)
    exact ⟨v6, c4, g4, F.sub ⟨rfl, rfl, rfl, rfl, trivial⟩, ((l2.trans l3).trans l4), S, h6⟩
   ·refine wp_condF F rfl hc1 ?_
    refine wp_exit ?_
    refine then_e ?_
    refine then_e ?_
    refine inb_x ?_
    refine then_n ?_
    obtain rfl := sinj hm
    obtain rfl := hfin1 _ rfl
    clear hm
    have hm : (commute_OldRanges.j1 x3 : Option (List Range_commute)) = some _ := hmo1
    exact ⟨x3, v2, c2, g2, F.sub ⟨rfl, trivial⟩, l2, S, h2, hm⟩
 ·clear F S hm; rintro a w ⟨x1, v1, c1, g1, F, l1, S, h1, hm⟩
  refine wp_seq ?_
  refine wp_region_lit ?_
  refine wE (ev_move rfl) F S rfl fun a F=>?_
  refine wE (ev_assign rfl) F S rfl fun a F=>?_
  refine wpList_nil ?_
  refine then_n ?_
  refine wp_ret ?_
  obtain rfl := sinj hm
  refine post_r _ F rfl (ar_cons (resT rfl) ar_nil) ?_
  exact ⟨_, rfl, g1, v1, c1, l1, S, h1, rfl⟩

theorem merge3_regions_s1_ok {g : Gh} {fr : Hl} {w : World} {r : Int} (a_ : RangeX_commute) (va_1 : Value) (ha_1 : RepH g a_.Growth va_1) (b_ : RangeX_commute) (vb_1 : Value) (hb_1 : RepH g b_.Growth vb_1) (S : St g [] fr w) (hm : merge3_regions_s1 a_ b_ = some r) :
  Calls Tryd.prog 51 [.agg #[.i6 a_.Low, .i6 a_.High, va_1], .agg #[.i6 b_.Low, .i6 b_.High, vb_1]].toArray w (fun en w' => ∃ v, en = .returned v ∧ ∃ (g' : Gh), Le g g' ∧ St g' [] fr w' ∧ .i6 r = v) := by
 unfold merge3_regions_s1 at hm
 refine calls_enter (fn := Tryd.f51) Tryd.func51 rfl Tryd.ntmps51 (lb rfl) ?_
 intro a F
 replace F : Fr 20 a [(0, .agg #[.i6 a_.Low, .i6 a_.High, va_1]), (1, .agg #[.i6 b_.Low, .i6 b_.High, vb_1])] := F
 refine wp_seq ?_
 refine wp_region_lit ?_
 refine wl_boxC (wn rfl) rfl rfl rfl F S rfl rfl ?_; clear F a S; rintro b1 a w F S
 refine wl_boxC (wn rfl) rfl rfl rfl F S rfl rfl ?_; clear F a S; rintro b2 a w F S
 refine wE (ev_assign rfl) F S rfl fun a F=>?_
 refine wpList_nil ?_
 refine then_n ?_
 refine wp_seq ?_
 refine wp_seq ?_
 refine wp_region_lit ?_
 refine wE (ev_fieldAddr' tu63 tf63_0 (z := 0) ts3 rfl ⟨_, rfl⟩ rfl) F S rfl fun a F=>?_
 refine wE (ev_load1 tu3 rfl rfl (box_ptr (cells := [.i6 a_.Low]) 1 rfl 0 rfl (lb rfl))) F S rfl fun a F=>?_
 refine wE (ev_fieldAddr' tu63 tf63_0 (z := 0) ts3 rfl ⟨_, rfl⟩ rfl) F S rfl fun a F=>?_
 refine wE (ev_load1 tu3 rfl rfl (box_ptr (cells := [.i6 b_.Low]) 0 rfl 0 rfl (lb rfl))) F S rfl fun a F=>?_
 refine wE (ev_int rfl rfl (bo_neq _ _ _ _)) F S rfl fun a F=>?_
 refine wpList_nil ?_
 refine then_n ?_
 obtain ⟨hc1, hm⟩ | ⟨hc1, hm⟩ := ite_or hm
 ·refine wp_condT F rfl hc1 ?_
  refine wp_seq ?_
  refine wp_region_lit ?_
  refine wE (ev_fieldAddr' tu63 tf63_0 (z := 0) ts3 rfl ⟨_, rfl⟩ rfl) F S rfl fun a F=>?_
  refine wE (ev_load1 tu3 rfl rfl (box_ptr (cells := [.i6 a_.Low]) 1 rfl 0 rfl (lb rfl))) F S rfl fun a F=>?_
  refine wE (ev_fieldAddr' tu63 tf63_0 (z := 0) ts3 rfl ⟨_, rfl⟩ rfl) F S rfl fun a F=>?_
  refine wE (ev_load1 tu3 rfl rfl (box_ptr (cells := [.i6 b_.Low]) 0 rfl 0 rfl (lb rfl))) F S rfl fun a F=>?_
  obtain ⟨z1, hz1, hm⟩ := bind_some hm
  refine wE (ev_int rfl rfl (bo_sub hz1)) F S rfl fun a F=>?_
  refine wE (ev_assign rfl) F S rfl fun a F=>?_
  refine wpList_nil ?_
  refine then_n ?_
  refine wp_ret ?_
  refine then_r ?_
  obtain rfl := sinj hm
  refine post_r _ F rfl (ar_cons (resT rfl) ar_nil) ?_
  replace S : St g [] fr w := St.tail [] _ S
  exact ⟨_, rfl, g, (Le.refl _), S, rfl⟩
 ·refine wp_condF F rfl hc1 ?_
  refine wp_skip ?_
  refine then_n ?_
  refine wp_seq ?_
  refine wp_region_lit ?_
  refine wE (ev_fieldAddr' tu63 tf63_1 (z := 0) ts3 rfl ⟨_, rfl⟩ rfl) F S rfl fun a F=>?_
  refine wE (ev_load1 tu3 rfl rfl (box_ptr (cells := [.i6 a_.High]) 1 rfl 1 rfl (lb rfl))) F S rfl fun a F=>?_
  refine wE (ev_fieldAddr' tu63 tf63_1 (z := 0) ts3 rfl ⟨_, rfl⟩ rfl) F S rfl fun a F=>?_
  refine wE (ev_load1 tu3 rfl rfl (box_ptr (cells := [.i6 b_.High]) 0 rfl 1 rfl (lb rfl))) F S rfl fun a F=>?_
  obtain ⟨z2, hz2, hm⟩ := bind_some hm
  refine wE (ev_int rfl rfl (bo_sub hz2)) F S rfl fun a F=>?_
  refine wE (ev_assign rfl) F S rfl fun a F=>?_
  refine wpList_nil ?_
  refine then_n ?_
  refine wp_ret ?_
  obtain rfl := sinj hm
  refine post_r _ F rfl (ar_cons (resT rfl) ar_nil) ?_
  replace S : St g [] fr w := St.tail [] _ S
  exact ⟨_, rfl, g, (Le.refl _), S, rfl⟩

theorem commute_Touch_x_ok {g : Gh} {fr : Hl} {w : World} {r : Bool} (a_ : RangeX_commute) (va_1 : Value) (ha_1 : RepH g a_.Growth va_1) (b_ : RangeX_commute) (vb_1 : Value) (hb_1 : RepH g b_.Growth vb_1) (S : St g [] fr w) (hm : commute_Touch_x a_ b_ = some r) :
  Calls Tryd.prog 52 [.agg #[.i6 a_.Low, .i6 a_.High, va_1], .agg #[.i6 b_.Low, .i6 b_.High, vb_1]].toArray w (fun en w' => ∃ v, en = .returned v ∧ ∃ (g' : Gh), Le g g' ∧ St g' [] fr w' ∧ .bool r = v) := by
 unfold commute_Touch_x at hm
 refine calls_enter (fn := Tryd.f52) Tryd.func52 rfl Tryd.ntmps52 (lb rfl) ?_
 intro a F
 replace F : Fr 17 a [(0, .agg #[.i6 a_.Low, .i6 a_.High, va_1]), (1, .agg #[.i6 b_.Low, .i6 b_.High, vb_1])] := F
 refine wp_seq ?_
 refine wp_region_lit ?_
 refine wl_boxC (wn rfl) rfl rfl rfl F S rfl rfl ?_; clear F a S; rintro b1 a w F S
 refine wl_boxC (wn rfl) rfl rfl rfl F S rfl rfl ?_; clear F a S; rintro b2 a w F S
 refine wE (ev_assign rfl) F S rfl fun a F=>?_
 refine wpList_nil ?_
 refine then_n ?_
 refine wp_seq ?_
 refine wp_region_lit ?_
 refine wE (ev_fieldAddr' tu63 tf63_1 (z := 0) ts3 rfl ⟨_, rfl⟩ rfl) F S rfl fun a F=>?_
 refine wE (ev_load1 tu3 rfl rfl (box_ptr (cells := [.i6 a_.High]) 1 rfl 1 rfl (lb rfl))) F S rfl fun a F=>?_
 refine wE (ev_fieldAddr' tu63 tf63_0 (z := 0) ts3 rfl ⟨_, rfl⟩ rfl) F S rfl fun a F=>?_
 refine wE (ev_load1 tu3 rfl rfl (box_ptr (cells := [.i6 b_.Low]) 0 rfl 0 rfl (lb rfl))) F S rfl fun a F=>?_
 refine wE (ev_int rfl rfl (bo_geq _ _ _ _)) F S rfl fun a F=>?_
 refine wE (ev_move rfl) F S rfl fun a F=>?_
 obtain ⟨x1, hx1, hm⟩ := bind_some hm
 refine wl_cut 6 (fun a w' => w = w' ∧ Fr 17 a [(16, .bool x1), (4, .bool false)]) ?_ ?_
 ·clear hm; obtain ⟨hc1, hm⟩ | ⟨hc1, hm⟩ := ite_or hx1
  ·refine wl_ev (wg F rfl rfl rfl rfl hc1) (ev_fieldAddr' tu63 tf63_1 (z := 0) ts3 rfl ⟨_, rfl⟩ rfl) F S rfl rfl ?_; clear F a; intro a F
   refine wl_ev (wg F rfl rfl rfl rfl hc1) (ev_load1 tu3 rfl rfl (box_ptr (cells := [.i6 b_.High]) 0 rfl 1 rfl (lb rfl))) F S rfl rfl ?_; clear F a; intro a F
   refine wl_ev (wg F rfl rfl rfl rfl hc1) (ev_fieldAddr' tu63 tf63_0 (z := 0) ts3 rfl ⟨_, rfl⟩ rfl) F S rfl rfl ?_; clear F a; intro a F
   refine wl_ev (wg F rfl rfl rfl rfl hc1) (ev_load1 tu3 rfl rfl (box_ptr (cells := [.i6 a_.Low]) 1 rfl 0 rfl (lb rfl))) F S rfl rfl ?_; clear F a; intro a F
   refine wl_ev (wg F rfl rfl rfl rfl hc1) (ev_int rfl rfl (bo_geq _ _ _ _)) F S rfl rfl ?_; clear F a; intro a F
   refine wE (ev_pickT rfl hc1 rfl) F S rfl fun a F=>?_
   obtain rfl := sinj hm
   refine wpList_nil (then_n ?_); exact ⟨rfl, F.sub ⟨rfl, rfl, trivial⟩⟩
  ·refine wl_skip rfl rfl rfl rfl (ne_tf hc1) F rfl rfl ?_; clear F a; intro a F
   refine wl_skip rfl rfl rfl rfl (ne_tf hc1) F rfl rfl ?_; clear F a; intro a F
   refine wl_skip rfl rfl rfl rfl (ne_tf hc1) F rfl rfl ?_; clear F a; intro a F
   refine wl_skip rfl rfl rfl rfl (ne_tf hc1) F rfl rfl ?_; clear F a; intro a F
   refine wl_skip rfl rfl rfl rfl (ne_tf hc1) F rfl rfl ?_; clear F a; intro a F
   refine wE (ev_pickF rfl hc1 rfl) F S rfl fun a F=>?_
   obtain rfl := sinj hm
   refine wpList_nil (then_n ?_); exact ⟨rfl, F.sub ⟨rfl, rfl, trivial⟩⟩
 clear F; rintro a w' ⟨rfl, F⟩
 refine wE (ev_assign rfl) F S rfl fun a F=>?_
 refine wpList_nil ?_
 refine then_n ?_
 refine wp_ret ?_
 obtain rfl := sinj hm
 refine post_r _ F rfl (ar_cons (resT rfl) ar_nil) ?_
 replace S : St g [] fr w := St.tail [] _ S
 exact ⟨_, rfl, g, (Le.refl _), S, rfl⟩

theorem merge3_regions_ok {g : Gh} {fr : Hl} {w : World} {r : (List RangeX_commute)} (p_ : Patch) (vp_1 : Value) (hp_1 : RepSl g p_.Hunks vp_1) (q_ : Patch) (vq_1 : Value) (hq_1 : RepSl g q_.Hunks vq_1) (S : St g [] fr w) (hm : merge3_regions p_ q_ = some r) :
  Calls Tryd.prog 19 [.agg #[vp_1], .agg #[vq_1]].toArray w (fun en w' => ∃ v, en = .returned v ∧ ∃ (g' : Gh) (v1 : Value) (c1 : Hl), Le g g' ∧ St g' [c1] fr w' ∧ OwnS g' r v1 c1 ∧ v1 = v) := by
 unfold merge3_regions at hm
 refine calls_enter (fn := Tryd.f19) Tryd.func19 rfl Tryd.ntmps19 (lb rfl) ?_
 intro a F
 replace F : Fr 56 a [(0, .agg #[vp_1]), (1, .agg #[vq_1])] := F
 refine wp_seq ?_
 refine wp_region_lit ?_
 refine wl_boxC (wn rfl) rfl rfl rfl F S rfl rfl ?_; clear F a S; rintro b1 a w F S
 refine wl_boxC (wn rfl) rfl rfl rfl F S rfl rfl ?_; clear F a S; rintro b2 a w F S
 refine wE (ev_assign rfl) F S rfl fun a F=>?_
 refine wpList_nil ?_
 refine then_n ?_
 refine wp_seq ?_
 refine wp_dv [] mo S ?_; clear S; intro ok1 w S
 refine dv_ev ok1 0 rfl (ev_loadA tu55 rfl (cs := [vp_1]) ts55 rfl (box_ptr (cells := [vp_1]) 1 rfl 0 rfl (lb rfl))) F S rfl fun a F=>?_
 refine dv_ev ok1 2 rfl (ev_loadA tu55 rfl (cs := [vq_1]) ts55 rfl (box_ptr (cells := [vq_1]) 0 rfl 0 rfl (lb rfl))) F S rfl fun a F=>?_
 refine dv_op ok1 1 rfl [(2, .agg #[vq_1])] ?_
 obtain ⟨y1, hy1, hm⟩ := bind_some hm
 refine wl_call0 (wn rfl) rfl F rfl (commute_OldRanges_ok (fr := (fl [[bx b2 #[vq_1] 55], [bx b1 #[vp_1] 55]] fr)) p_ vp_1 hp_1 S hy1) rfl tc49 rfl rfl ?_; clear F a S
 rintro _ a w ⟨g1, v1, c1, l1, S, h1, rfl⟩ F; replace S : St g1 [c1, [bx b2 #[vq_1] 55], [bx b1 #[vp_1] 55]] fr w := S
 refine dv_nx ⟨yl_ev rfl rfl (ev_loadA tu55 rfl (cs := [vq_1]) ts55 rfl (box_ptr (cells := [vq_1]) 1 rfl 0 rfl (lb rfl))) F S, trivial⟩ ?_
 refine dv_op ok1 3 rfl [] ?_
 obtain ⟨y2, hy2, hm⟩ := bind_some hm
 refine wl_call0 (wn rfl) rfl F rfl (commute_OldRanges_ok (fr := (fl [c1, [bx b2 #[vq_1] 55], [bx b1 #[vp_1] 55]] fr)) q_ vq_1 (hq_1.mono l1) S hy2) rfl tc49 rfl rfl ?_; clear F a S
 rintro _ a w ⟨g2, v2, c2, l2, S, h2, rfl⟩ F; replace S : St g2 [c2, c1, [bx b2 #[vq_1] 55], [bx b1 #[vp_1] 55]] fr w := S
 refine dv_nx trivial ?_
 refine dv_op ok1 4 rfl [] ?_
 obtain ⟨cs1, hk1, hr1⟩ := OwnS.reads (OwnS.mapR (f := toXRangeX_commute) (fun h => toXRangeX_commute_rep h) rfl h2)
 obtain ⟨y3, hy3, hm⟩ := bind_some hm
 refine wl_append (wn rfl) rfl tu60 tu60 te63 (by decide) (by decide) F S rfl rfl (k := 1) rfl ((OwnS.mapR (f := toXRangeX_commute) (fun h => toXRangeX_commute_rep h) rfl h1).mono l2) hk1 rfl (hr1 _ _ _ 0 rfl S) hy3 rfl rfl ?_; clear F a S
 rintro v3 c3 a w h3 S F; replace S : St g2 [c2, c3, [bx b2 #[vq_1] 55], [bx b1 #[vp_1] 55]] fr w := S
 refine dv_nx trivial ?_
 refine dv_et ok1 5 rfl (ev_assign rfl) F rfl fun a F=>?_
 refine dv_fin ok1 ?_
 refine then_n ?_
 refine wp_seq ?_
 refine wp_region_lit ?_
 refine wE (ev_move rfl) F S rfl fun a F=>?_
 obtain ⟨y4, hy4, hm⟩ := bind_some hm
 replace S : St g2 [c3, c2, [bx b2 #[vq_1] 55], [bx b1 #[vp_1] 55]] fr w := ((((S.frontC 3 rfl).frontC 3 rfl).frontC 2 rfl).frontC 4 rfl)
 refine wl_call0 (wn rfl) rfl F rfl (sort_ok (δ := RangeX_commute) Tryd.lay50 sA63 sZ63 tc51 (fun g w x y cx cy r hx hy S hm => by obtain ⟨xv0, rfl, xh0⟩ := rep_RangeX_commute hx; obtain ⟨yv0, rfl, yh0⟩ := rep_RangeX_commute hy; exact merge3_regions_s1_ok x xv0 xh0 y yv0 yh0 S hm) S h3 hy4) rfl tc50 rfl rfl ?_; clear F a S
 rintro _ a w ⟨c4, S, h4, rfl⟩ F; replace S : St g2 [c4, c2, [bx b2 #[vq_1] 55], [bx b1 #[vp_1] 55]] fr w := S
 refine wpList_nil ?_
 refine then_n ?_
 refine wp_seq ?_
 refine wp_region_lit ?_
 refine wE (ev_assign rfl) F S rfl fun a F=>?_
 refine wpList_nil ?_
 refine then_n ?_
 refine wp_cut (fun a w => ∃ (x1 : List RangeX_commute) (v4 : Value) (c5 : Hl) (g3 : Gh), Fr 56 a [(6, v4)] ∧ Le g2 g3 ∧ St g3 [c5] fr w ∧ OwnS g3 x1 v4 c5 ∧ merge3_regions.j1 x1 = some r) ?_ ?_
 ·refine wp_seq ?_
  refine wp_region_lit ?_
  refine wE (ev_move rfl) F S rfl fun a F=>?_
  refine wE (ev_lenOw h4 rfl tu60) F S rfl fun a F=>?_
  refine wE (ev_move rfl) F S rfl fun a F=>?_
  refine wpList_nil ?_
  refine then_n ?_
  refine wp_block ?_
  obtain ⟨r1, hr2, hm⟩ := bind_some hm
  have hmo1 := hm; clear hm
  refine wp_iter (σ := Int × (List RangeX_commute)) (ρ := (List RangeX_commute)) (m := fun s => merge3_regions.l1 y4 s.1 s.2) (I := fun s a w => match s with | (x2, x3) => ∃ (v5 : Value) (c6 : Hl) (g4 : Gh), Fr 56 a [(19, .i6 x2), (18, .i6 (y4.length : Int)), (17, v3), (6, v5)] ∧ Le g2 g4 ∧ St g4 [c4, c6] fr w ∧ OwnS g4 x3 v5 c6) hr2 ?_ ?_
  ·dsimp only
   replace S : St g2 [[], c4, c2, [bx b2 #[vq_1] 55], [bx b1 #[vp_1] 55]] fr w := S
   replace S : St g2 [c4, []] fr w := St.tail [c4, []] _ ((S.frontC 0 rfl).frontC 2 rfl)
   exact ⟨(nilS), [], g2, F.sub ⟨rfl, rfl, rfl, rfl, trivial⟩, (Le.refl _), S, (OwnS.nil _)⟩
  ·clear F S; rintro ⟨x2, x3⟩ a w x4 ⟨v5, c6, g4, F, l4, S, h6⟩ hx1 hfin1
   have hm : merge3_regions.l1 y4 x2 x3 = some x4 := hx1; clear hx1
   unfold merge3_regions.l1 at hm
   refine wp_seq ?_
   refine wp_region_lit ?_
   refine wE (ev_int rfl rfl (bo_lss _ _ _ _)) F S rfl fun a F=>?_
   refine wpList_nil ?_
   refine then_n ?_
   refine wp_seq ?_
   obtain ⟨hc1, hm⟩ | ⟨hc1, hm⟩ := ite_or hm
   ·refine wp_condT F rfl hc1 ?_
    refine wp_skip ?_
    refine then_n ?_
    refine wp_cut (fun a w => ∃ (x5 : List RangeX_commute) (v6 : Value) (c7 : Hl) (g5 : Gh), Fr 56 a [(19, .i6 x2), (18, .i6 (y4.length : Int)), (17, v3), (6, v6)] ∧ Le g4 g5 ∧ St g5 [c4, c7] fr w ∧ OwnS g5 x5 v6 c7 ∧ merge3_regions.j2 x2 x5 = some x4) ?_ ?_
    ·refine wp_block ?_
     refine wp_seq ?_
     refine wp_region_lit ?_
     obtain ⟨y5, hy5, hm⟩ := bind_some hm
     refine wE (ev_idxO (h4.mono l4) hy5 tu60 ts63 rfl rfl) F S rfl fun a F=>?_
     obtain ⟨cs2, hr3, hq1⟩ := elemO (h4.mono l4) hy5
     obtain ⟨v7, rfl, h8⟩ := rep_RangeX_commute hr3
     refine wE (ev_loadA tu63 rfl (cs := [.i6 y5.Low, .i6 y5.High, v7]) ts63 rfl (hq1 _ _ 0 rfl)) F S rfl fun a F=>?_
     refine wl_alloc (wn rfl) rfl tz63 (cs := [.i6 0, .i6 0, (.i6 0)]) rfl F S rfl rfl ?_; clear F a S; rintro b3 a w F S
     refine wl_storeC (wn rfl) rfl F S rfl rfl (vs := [.i6 y5.Low, .i6 y5.High, v7]) rfl ts63 (one_cons rfl (one_cons rfl (one_cons h8.one one_nil))) (k := 0) rfl (lb rfl) (c' := #[.i6 y5.Low, .i6 y5.High, v7]) rfl rfl ?_; clear S; intro w S
     refine wpList_nil ?_
     refine then_n ?_
     refine wp_seq ?_
     refine wp_region_lit ?_
     refine wE (ev_move rfl) F S rfl fun a F=>?_
     refine wE (ev_lenOw h6 rfl tu60) F S rfl fun a F=>?_
     refine wE (ev_assign rfl) F S rfl fun a F=>?_
     refine wpList_nil ?_
     refine then_n ?_
     refine wp_seq ?_
     refine wp_quiet mo (by kernel_rfl) S ?_
     refine wq_ev (wn rfl) (ev_move rfl) F rfl rfl ?_; clear F a; intro a F
     refine wq_ev (wn rfl) (ev_int rfl rfl (bo_gtr _ _ _ _)) F rfl rfl ?_; clear F a; intro a F
     refine wq_ev (wn rfl) (ev_move rfl) F rfl rfl ?_; clear F a; intro a F
     obtain ⟨x6, hx2, hm⟩ := bind_some hm
     refine wq_cut 8 (fun a => Fr 56 a [(35, .bool x6), (9, .i6 (x3.length : Int)), (8, bp b3 0), (19, .i6 x2), (18, .i6 (y4.length : Int)), (17, v3), (6, v5)]) ?_ ?_
     ·clear hm; obtain ⟨hc2, hm⟩ | ⟨hc2, hm⟩ := ite_or hx2
      ·refine wq_ev (wg F rfl rfl rfl rfl hc2) (ev_move rfl) F rfl rfl ?_; clear F a; intro a F
       refine wq_ev (wg F rfl rfl rfl rfl hc2) (ev_move rfl) F rfl rfl ?_; clear F a; intro a F
       obtain ⟨z2, hz2, hm⟩ := bind_some hm
       refine wq_ev (wg F rfl rfl rfl rfl hc2) (ev_int rfl rfl (bo_sub hz2)) F rfl rfl ?_; clear F a; intro a F
       obtain ⟨y6, hy6, hm⟩ := bind_some hm
       refine wq_ev (wg F rfl rfl rfl rfl hc2) (ev_idxO h6 hy6 tu60 ts63 rfl rfl) F rfl rfl ?_; clear F a; intro a F
       obtain ⟨cs3, hr4, hq2⟩ := elemO h6 hy6
       obtain ⟨v8, rfl, h9⟩ := rep_RangeX_commute hr4
       refine wq_ev (wg F rfl rfl rfl rfl hc2) (ev_loadA tu63 rfl (cs := [.i6 y6.Low, .i6 y6.High, v8]) ts63 rfl (hq2 _ _ 2 rfl)) F rfl rfl ?_; clear F a; intro a F
       refine wq_ev (wg F rfl rfl rfl rfl hc2) (ev_loadA tu63 rfl (cs := [.i6 y5.Low, .i6 y5.High, v7]) ts63 rfl (box_ptr (cells := [.i6 y5.Low, .i6 y5.High, v7]) 0 rfl 0 rfl (lb rfl))) F rfl rfl ?_; clear F a; intro a F
       obtain ⟨y7, hy7, hm⟩ := bind_some hm
       refine wq_call (wg F rfl rfl rfl rfl hc2) rfl (xs := [.tmp 32, .tmp 33]) (vs := [.agg #[.i6 y6.Low, .i6 y6.High, v8], .agg #[.i6 y5.Low, .i6 y5.High, v7]]) (cap := []) F rfl rfl tc52 (v := .bool y7) (fun w S => (commute_Touch_x_ok (g := g4) (fr := (fl [[bx b3 #[.i6 y5.Low, .i6 y5.High, v7] 63], c4, c6] fr)) (w := w) y6 v8 h9 y5 v7 h8 S hy7).mono (by rintro en w' ⟨_, rfl, g2, l2, S2, rfl⟩; exact ⟨rfl, S2.weak l2⟩)) rfl rfl ?_; clear F a; intro a F
       refine wq_ev (wn rfl) (ev_pickT rfl hc2 rfl) F rfl rfl ?_; clear F a; intro a F
       obtain rfl := sinj hm
       refine wq_nil ?_; exact F.sub ⟨rfl, rfl, rfl, rfl, rfl, rfl, rfl, trivial⟩
      ·refine wq_skip rfl rfl rfl rfl (ne_tf hc2) F rfl rfl ?_; clear F a; intro a F
       refine wq_skip rfl rfl rfl rfl (ne_tf hc2) F rfl rfl ?_; clear F a; intro a F
       refine wq_skip rfl rfl rfl rfl (ne_tf hc2) F rfl rfl ?_; clear F a; intro a F
       refine wq_skip rfl rfl rfl rfl (ne_tf hc2) F rfl rfl ?_; clear F a; intro a F
       refine wq_skip rfl rfl rfl rfl (ne_tf hc2) F rfl rfl ?_; clear F a; intro a F
       refine wq_skip rfl rfl rfl rfl (ne_tf hc2) F rfl rfl ?_; clear F a; intro a F
       refine wq_skip rfl rfl rfl rfl (ne_tf hc2) F rfl rfl ?_; clear F a; intro a F
       refine wq_ev (wn rfl) (ev_pickF rfl hc2 rfl) F rfl rfl ?_; clear F a; intro a F
       obtain rfl := sinj hm
       refine wq_nil ?_; exact F.sub ⟨rfl, rfl, rfl, rfl, rfl, rfl, rfl, trivial⟩
     clear F; intro a F
     refine wq_nil ?_; clear S; intro w S
     refine then_n ?_
     obtain ⟨hc3, hm⟩ | ⟨hc3, hm⟩ := ite_or hm
     ·refine wp_condT F rfl hc3 ?_
      refine wp_dv [] mo S ?_; clear S; intro ok2 w S
      refine dv_et ok2 0 rfl (ev_move rfl) F rfl fun a F=>?_
      refine dv_et ok2 1 rfl (ev_move rfl) F rfl fun a F=>?_
      obtain ⟨z3, hz3, hm⟩ := bind_some hm
      refine dv_et ok2 2 rfl (ev_int rfl rfl (bo_sub hz3)) F rfl fun a F=>?_
      refine dv_et ok2 3 rfl (ev_move rfl) F rfl fun a F=>?_
      refine dv_et ok2 4 rfl (ev_move rfl) F rfl fun a F=>?_
      obtain ⟨z4, hz4, hm⟩ := bind_some hm
      refine dv_et ok2 5 rfl (ev_int rfl rfl (bo_sub hz4)) F rfl fun a F=>?_
      obtain ⟨y8, hy8, hm⟩ := bind_some hm
      refine dv_et ok2 6 rfl (ev_idxO h6 hy8 tu60 ts63 rfl rfl) F rfl fun a F=>?_
      refine dv_et ok2 7 rfl (ev_fieldAddr' tu63 tf63_1 (z := 0) ts3 rfl (elemO_ptr h6 hy8) rfl) F rfl fun a F=>?_
      obtain ⟨cs4, hr5, hq3⟩ := elemO h6 hy8
      obtain ⟨v9, rfl, h10⟩ := rep_RangeX_commute hr5
      refine dv_ev ok2 8 rfl (ev_load1 tu3 rfl rfl (fun w s => fieldP (cells := [.i6 y8.High]) 1 (hq3 _ _ 2 rfl w s) rfl (lb rfl))) F S rfl fun a F=>?_
      refine dv_et ok2 9 rfl (ev_fieldAddr' tu63 tf63_1 (z := 0) ts3 rfl ⟨_, rfl⟩ rfl) F rfl fun a F=>?_
      refine dv_ev ok2 10 rfl (ev_load1 tu3 rfl rfl (box_ptr (cells := [.i6 y5.High]) 0 rfl 1 rfl (lb rfl))) F S rfl fun a F=>?_
      refine dv_et ok2 11 rfl (ev_max rfl rfl) F rfl fun a F=>?_
      obtain ⟨y9, hy9, hm⟩ := bind_some hm
      refine dv_et ok2 12 rfl (ev_idxO h6 hy9 tu60 ts63 rfl rfl) F rfl fun a F=>?_
      refine dv_et ok2 13 rfl (ev_fieldAddr' tu63 tf63_1 (z := 0) ts3 rfl (elemO_ptr h6 hy9) rfl) F rfl fun a F=>?_
      refine dv_op ok2 14 rfl [] ?_
      obtain ⟨y10, hy10, hm⟩ := bind_some hm
      refine wl_storeE (z' := ({ Low := y9.Low, High := max y8.High y5.High, Growth := y9.Growth } : RangeX_commute)) 1 (wn rfl) rfl F S h6 hy9 rfl rfl rfl (us := [.i6 (max y8.High y5.High)]) rfl ts3 (one_cons rfl one_nil) (k := 2) rfl (lb rfl) (fun cs hcs => by obtain ⟨v10, rfl, h12⟩ := rep_RangeX_commute hcs; exact (rep_RangeX_commute_mk (x := ({ Low := y9.Low, High := max y8.High y5.High, Growth := y9.Growth } : RangeX_commute)) h12)) rfl ?_; clear S
      rintro c8 w h11 S; replace S : St g4 [[bx b3 #[.i6 y5.Low, .i6 y5.High, v7] 63], c4, c8] fr w := S; replace h11 : OwnS g4 y10 v5 c8 := sinj hy10 ▸ h11
      replace F := F.sub (e' := [(49, addP (elemP v5 z3 3) 1), (48, elemP v5 z3 3), (47, .i6 (max y8.High y5.High)), (46, .i6 y5.High), (45, bp b3 1), (44, .i6 y8.High), (41, .i6 z4), (40, .i6 (x3.length : Int)), (39, v5), (38, .i6 z3), (37, .i6 (x3.length : Int)), (36, v5), (35, .bool x6), (9, .i6 (x3.length : Int)), (8, bp b3 0), (19, .i6 x2), (18, .i6 (y4.length : Int)), (17, v3), (6, v5)]) ⟨rfl, rfl, rfl, rfl, rfl, rfl, rfl, rfl, rfl, rfl, rfl, rfl, rfl, rfl, rfl, rfl, rfl, rfl, rfl, trivial⟩
      refine dv_nx trivial ?_
      refine dv_fin ok2 ?_
      refine inb_n ?_
      refine then_n ?_
      replace S : St g4 [c4, c8] fr w := St.tail [c4, c8] _ ((S.frontC 2 rfl).frontC 2 rfl)
      exact ⟨y10, v5, c8, g4, F.sub ⟨rfl, rfl, rfl, rfl, trivial⟩, (Le.refl _), S, h11, hm⟩
     ·refine wp_condF F rfl hc3 ?_
      refine wp_region_lit ?_
      refine wE (ev_move rfl) F S rfl fun a F=>?_
      refine wE (ev_loadA tu63 rfl (cs := [.i6 y5.Low, .i6 y5.High, v7]) ts63 rfl (box_ptr (cells := [.i6 y5.Low, .i6 y5.High, v7]) 0 rfl 0 rfl (lb rfl))) F S rfl fun a F=>?_
      refine wl_lit (l := ([y5] : List RangeX_commute)) (vs := [.agg #[.i6 y5.Low, .i6 y5.High, v7]]) (parts := [(0, .tmp 51)]) (wn rfl) rfl rfl rfl tu60 te63 (sz_cons rfl sz_nil) rfl (Cat.cons (rep_RangeX_commute_mk (x := y5) h8) (Cat.nil _)) (coa_cons rfl coa_nil) rfl F S rfl rfl ?_; clear F a S
      rintro v11 c9 a w h13 F S
      obtain ⟨cs5, hk2, hr6⟩ := OwnS.reads h13
      obtain ⟨y11, hy11, hm⟩ := bind_some hm
      refine wl_append (wn rfl) rfl tu60 tu60 te63 (by decide) (by decide) F S rfl rfl (k := 3) rfl h6 hk2 rfl (hr6 _ _ _ 0 rfl S) hy11 rfl rfl ?_; clear F a S
      rintro v12 c10 a w h14 S F; replace S : St g4 [c9, [bx b3 #[.i6 y5.Low, .i6 y5.High, v7] 63], c4, c10] fr w := S
      refine wE (ev_assign rfl) F S rfl fun a F=>?_
      refine wpList_nil ?_
      refine inb_n ?_
      refine then_n ?_
      replace S : St g4 [c4, c10] fr w := St.tail [c4, c10] _ ((S.frontC 3 rfl).frontC 3 rfl)
      exact ⟨y11, v12, c10, g4, F.sub ⟨rfl, rfl, rfl, rfl, trivial⟩, (Le.refl _), S, h14, hm⟩
    ·clear F S hm; rintro a w ⟨x5, v6, c7, g5, F, l5, S, h7, hm⟩
     refine wp_region_lit ?_
     obtain ⟨z1, hz1, hm⟩ := bind_some hm
     refine wE (ev_int rfl rfl (bo_add hz1)) F S rfl fun a F=>?_
     refine wE (ev_move rfl) F S rfl fun a F=>?_
     refine wpList_nil ?_
     refine then_n ?_
     obtain rfl := sinj hm
     refine ⟨_, rfl, ?_⟩
     dsimp only
     exact ⟨v6, c7, g5, F.sub ⟨rfl, rfl, rfl, rfl, trivial⟩, (l4.trans l5), S, h7⟩
   ·refine wp_condF F rfl hc1 ?_
    refine wp_exit ?_
    refine then_e ?_
    refine then_e ?_
    refine inb_x ?_
    refine then_n ?_
    obtain rfl := sinj hm
    obtain rfl := hfin1 _ rfl
    clear hm
    have hm : (merge3_regions.j1 x3 : Option (List RangeX_commute)) = some _ := hmo1
    replace S : St g4 [c6] fr w := St.tail [c6] _ (S.frontC 1 rfl)
    exact ⟨x3, v5, c6, g4, F.sub ⟨rfl, trivial⟩, l4, S, h6, hm⟩
 ·clear F S hm; rintro a w ⟨x1, v4, c5, g3, F, l3, S, h5, hm⟩
  refine wp_seq ?_
  refine wp_region_lit ?_
  refine wE (ev_move rfl) F S rfl fun a F=>?_
  refine wE (ev_assign rfl) F S rfl fun a F=>?_
  refine wpList_nil ?_
  refine then_n ?_
  refine wp_ret ?_
  obtain rfl := sinj hm
  refine post_r _ F rfl (ar_cons (resT rfl) ar_nil) ?_
  exact ⟨_, rfl, g3, v4, c5, ((l1.trans l2).trans l3), S, h5, rfl⟩

theorem merge3_merger__plain_ok {g : Gh} {fr : Hl} {w : World} {r : Merger_merge3} (bm_ : Nat) (m_ : Merger_merge3) (vm_1 : Value) (cm_1 : Hl) (hm_1 : OwnN g m_.out vm_1 cm_1) (l_ : (List ByteArray)) (vl_1 : Value) (hl_1 : RepSl g l_ vl_1) (S : St g [[bx bm_ #[vm_1] 59], cm_1] fr w) (hm : merge3_merger__plain m_ l_ = some r) :
  Calls Tryd.prog 20 [bp bm_ 0, vl_1].toArray w (fun en w' => ∃ v, en = .returned v ∧ ∃ (g' : Gh) (v1 : Value) (c1 : Hl), Le g g' ∧ St g' [[bx bm_ #[v1] 59], c1] fr w' ∧ OwnN g' r.out v1 c1 ∧ .tuple #[] = v) := by
 unfold merge3_merger__plain at hm
 refine calls_enter (fn := Tryd.f20) Tryd.func20 rfl Tryd.ntmps20 (lb rfl) ?_
 intro a F
 replace F : Fr 57 a [(0, bp bm_ 0), (1, vl_1)] := F
 refine wp_seq ?_
 refine wp_seq ?_
 refine wp_region_lit ?_
 refine wE (ev_move rfl) F S rfl fun a F=>?_
 refine wE (ev_lenSh hl_1 rfl tu22) F S rfl fun a F=>?_
 refine wE (ev_int rfl rfl (bo_eql _ _ _ _)) F S rfl fun a F=>?_
 refine wpList_nil ?_
 refine then_n ?_
 obtain ⟨hc1, hm⟩ | ⟨hc1, hm⟩ := ite_or hm
 ·refine wp_condT F rfl hc1 ?_
  refine wp_ret ?_
  refine then_r ?_
  obtain rfl := sinj hm
  refine post_r _ F rfl ar_nil ?_
  exact ⟨_, rfl, g, vm_1, cm_1, (Le.refl _), S, hm_1, rfl⟩
 ·refine wp_condF F rfl hc1 ?_
  refine wp_skip ?_
  refine then_n ?_
  refine wp_cut (fun a w => ∃ (x1 : List Chunk) (v1 : Value) (c1 : Hl) (g1 : Gh), Fr 57 a [(0, bp bm_ 0), (1, vl_1)] ∧ Le g g1 ∧ St g1 [[bx bm_ #[v1] 59], c1] fr w ∧ OwnN g1 x1 v1 c1 ∧ merge3_merger__plain.j1 l_ x1 = some r) ?_ ?_
  ·refine wp_seq ?_
   refine wp_region_lit ?_
   refine wE (ev_move rfl) F S rfl fun a F=>?_
   refine wE (ev_nil rfl) F S rfl fun a F=>?_
   refine wE (ev_fieldAddr' tu59 tf59_0 (z := 0) ts23 rfl ⟨_, rfl⟩ rfl) F S rfl fun a F=>?_
   refine wE (ev_load1 tu23 rfl rfl (box_ptr (cells := [vm_1]) 0 rfl 0 rfl (lb rfl))) F S rfl fun a F=>?_
   refine wE (ev_lenOwN hm_1 rfl tu23) F S rfl fun a F=>?_
   refine wE (ev_assign rfl) F S rfl fun a F=>?_
   refine wpList_nil ?_
   refine then_n ?_
   refine wp_seq ?_
   refine wp_region_lit ?_
   refine wE (ev_move rfl) F S rfl fun a F=>?_
   refine wE (ev_int rfl rfl (bo_eql _ _ _ _)) F S rfl fun a F=>?_
   refine wE (ev_move rfl) F S rfl fun a F=>?_
   obtain ⟨x2, hx1, hm⟩ := bind_some hm
   refine wl_cut 10 (fun a w' => w = w' ∧ Fr 57 a [(26, .bool x2), (0, bp bm_ 0), (1, vl_1)]) ?_ ?_
   ·clear hm; obtain ⟨hc2, hm⟩ | ⟨hc2, hm⟩ := ite_or hx1
    ·refine wl_skip rfl rfl rfl rfl (ne_ft hc2) F rfl rfl ?_; clear F a; intro a F
     refine wl_skip rfl rfl rfl rfl (ne_ft hc2) F rfl rfl ?_; clear F a; intro a F
     refine wl_skip rfl rfl rfl rfl (ne_ft hc2) F rfl rfl ?_; clear F a; intro a F
     refine wl_skip rfl rfl rfl rfl (ne_ft hc2) F rfl rfl ?_; clear F a; intro a F
     refine wl_skip rfl rfl rfl rfl (ne_ft hc2) F rfl rfl ?_; clear F a; intro a F
     refine wl_skip rfl rfl rfl rfl (ne_ft hc2) F rfl rfl ?_; clear F a; intro a F
     refine wl_skip rfl rfl rfl rfl (ne_ft hc2) F rfl rfl ?_; clear F a; intro a F
     refine wl_skip rfl rfl rfl rfl (ne_ft hc2) F rfl rfl ?_; clear F a; intro a F
     refine wl_skip rfl rfl rfl rfl (ne_ft hc2) F rfl rfl ?_; clear F a; intro a F
     refine wE (ev_pickT rfl hc2 rfl) F S rfl fun a F=>?_
     obtain rfl := sinj hm
     refine wpList_nil (then_n ?_); exact ⟨rfl, F.sub ⟨rfl, rfl, rfl, trivial⟩⟩
    ·refine wl_ev (wg F rfl rfl rfl rfl hc2) (ev_move rfl) F S rfl rfl ?_; clear F a; intro a F
     refine wl_ev (wg F rfl rfl rfl rfl hc2) (ev_nil rfl) F S rfl rfl ?_; clear F a; intro a F
     refine wl_ev (wg F rfl rfl rfl rfl hc2) (ev_fieldAddr' tu59 tf59_0 (z := 0) ts23 rfl ⟨_, rfl⟩ rfl) F S rfl rfl ?_; clear F a; intro a F
     refine wl_ev (wg F rfl rfl rfl rfl hc2) (ev_load1 tu23 rfl rfl (box_ptr (cells := [vm_1]) 0 rfl 0 rfl (lb rfl))) F S rfl rfl ?_; clear F a; intro a F
     refine wl_ev (wg F rfl rfl rfl rfl hc2) (ev_move rfl) F S rfl rfl ?_; clear F a; intro a F
     obtain ⟨z2, hz2, hm⟩ := bind_some hm
     refine wl_ev (wg F rfl rfl rfl rfl hc2) (ev_int rfl rfl (bo_sub hz2)) F S rfl rfl ?_; clear F a; intro a F
     obtain ⟨y4, hy4, hm⟩ := bind_some hm
     refine wl_ev (wg F rfl rfl rfl rfl hc2) (ev_idxN hm_1 hy4 tu23 ts70 rfl rfl) F S rfl rfl ?_; clear F a; intro a F
     refine wl_ev (wg F rfl rfl rfl rfl hc2) (ev_fieldAddr' tu70 tf70_0 (z := 0) ts4 rfl (elemN_ptr hm_1 hy4) addP_zero) F S rfl rfl ?_; clear F a; intro a F
     replace S : St g [cm_1, [bx bm_ #[vm_1] 59]] fr w := ((S.frontC 0 rfl).frontC 2 rfl)
     obtain ⟨cs3, ca3, cr2, ci2, hH3, hR2, hP2⟩ := OwnN.hole hm_1 hy4
     replace S : St g [ca3, cr2, ci2, [bx bm_ #[vm_1] 59]] fr w := St.split3 hP2 S
     obtain ⟨v7, c5, v8, v9, v10, rfl, rfl, h8, h9, h10, h11⟩ := orep_Chunk hR2
     replace S : St g [ca3, cr2, c5, [bx bm_ #[vm_1] 59]] fr w := S.of_eq (by simp only [fl, List.append_assoc, List.append_nil, List.nil_append])
     refine wl_ev (wg F rfl rfl rfl rfl hc2) (ev_load1 tu4 rfl rfl (fun w s => fieldP0 (cells := [.bool y4.Conflict]) ((HoleN.ptr hH3 _ _ 0 rfl) w s) rfl (lb rfl))) F S rfl rfl ?_; clear F a; intro a F
     refine wE (ev_pickF rfl hc2 rfl) F S rfl fun a F=>?_
     obtain rfl := sinj hm
     refine wpList_nil (then_n ?_); exact ⟨rfl, F.sub ⟨rfl, rfl, rfl, trivial⟩⟩
   clear F; rintro a w' ⟨rfl, F⟩
   refine wpList_nil ?_
   refine then_n ?_
   obtain ⟨hc3, hm⟩ | ⟨hc3, hm⟩ := ite_or hm
   ·refine wp_condT F rfl hc3 ?_
    refine wp_region_lit ?_
    refine wE (ev_move rfl) F S rfl fun a F=>?_
    refine wE (ev_move rfl) F S rfl fun a F=>?_
    refine wE (ev_nil rfl) F S rfl fun a F=>?_
    refine wE (ev_fieldAddr' tu59 tf59_0 (z := 0) ts23 rfl ⟨_, rfl⟩ rfl) F S rfl fun a F=>?_
    refine wE (ev_load1 tu23 rfl rfl (box_ptr (cells := [vm_1]) 0 rfl 0 rfl (lb rfl))) F S rfl fun a F=>?_
    refine wE (ev_build (parts := []) (vs := []) rfl (fun w => tb70_  w)) F S rfl fun a F=>?_
    replace S : St g [[], [bx bm_ #[vm_1] 59], cm_1] fr w := S
    replace S : St g [([] ++ []), [bx bm_ #[vm_1] 59], cm_1] fr w := S.of_eq (by simp only [fl, List.append_assoc, List.append_nil, List.nil_append])
    refine wl_lit1N (p := ({ Conflict := false, Lines := [], Base := [], Left := [], Right := [] } : Chunk)) (wn rfl) rfl rfl tu23 te70 rfl rfl rfl (orep_Chunk_mk (x := ({ Conflict := false, Lines := [], Base := [], Left := [], Right := [] } : Chunk)) (OwnS.nil _) (RepSl.nil _) (RepSl.nil _) (RepSl.nil _)) F S rfl rfl ?_; clear F a S
    rintro v11 c6 a w h12 F S
    replace S : St g [cm_1, c6, [bx bm_ #[vm_1] 59]] fr w := (((S.frontC 1 rfl).frontC 1 rfl).frontC 4 rfl)
    obtain ⟨y5, hy5, hm⟩ := bind_some hm
    refine wl_appendN (wn rfl) rfl tu23 tu23 te70 (by decide) (by decide) F S rfl rfl hm_1 h12 hy5 rfl rfl ?_; clear F a S
    rintro v12 c7 a w h13 S F; replace S : St g [c7, [bx bm_ #[vm_1] 59]] fr w := S
    refine wE (ev_nil rfl) F S rfl fun a F=>?_
    refine wE (ev_fieldAddr' tu59 tf59_0 (z := 0) ts23 rfl ⟨_, rfl⟩ rfl) F S rfl fun a F=>?_
    refine wl_storeC (wn rfl) rfl F S rfl rfl (vs := [v12]) (OwnN.cl h13) ts23 (one_cons (OwnN.one h13) one_nil) (k := 1) rfl (lb rfl) (c' := #[v12]) rfl rfl ?_; clear S; intro w S
    refine wpList_nil ?_
    refine then_n ?_
    replace S : St g [[bx bm_ #[v12] 59], c7] fr w := St.tail [[bx bm_ #[v12] 59], c7] _ ((S.frontC 0 rfl).frontC 2 rfl)
    exact ⟨y5, v12, c7, g, F.sub ⟨rfl, rfl, trivial⟩, (Le.refl _), S, h13, hm⟩
   ·refine wp_condF F rfl hc3 ?_
    refine wp_skip ?_
    refine then_n ?_
    exact ⟨m_.out, vm_1, cm_1, g, F.sub ⟨rfl, rfl, trivial⟩, (Le.refl _), S, hm_1, hm⟩
  ·clear F S hm; rintro a w ⟨x1, v1, c1, g1, F, l1, S, h1, hm⟩
   refine wp_seq ?_
   refine wp_quiet mo (by kernel_rfl) S ?_
   refine wq_ev (wn rfl) (ev_move rfl) F rfl rfl ?_; clear F a; intro a F
   refine wq_ev (wn rfl) (ev_nil rfl) F rfl rfl ?_; clear F a; intro a F
   refine wq_ev (wn rfl) (ev_fieldAddr' tu59 tf59_0 (z := 0) ts23 rfl ⟨_, rfl⟩ rfl) F rfl rfl ?_; clear F a; intro a F
   refine wq_ev (wn rfl) (ev_load1 tu23 rfl rfl (box_ptr (cells := [v1]) 0 rfl 0 rfl (lb rfl))) F rfl rfl ?_; clear F a; intro a F
   refine wq_ev (wn rfl) (ev_move rfl) F rfl rfl ?_; clear F a; intro a F
   refine wq_ev (wn rfl) (ev_nil rfl) F rfl rfl ?_; clear F a; intro a F
   refine wq_ev (wn rfl) (ev_fieldAddr' tu59 tf59_0 (z := 0) ts23 rfl ⟨_, rfl⟩ rfl) F rfl rfl ?_; clear F a; intro a F
   refine wq_ev (wn rfl) (ev_load1 tu23 rfl rfl (box_ptr (cells := [v1]) 0 rfl 0 rfl (lb rfl))) F rfl rfl ?_; clear F a; intro a F
   refine wq_ev (wn rfl) (ev_lenOwN h1 rfl tu23) F rfl rfl ?_; clear F a; intro a F
   obtain ⟨z1, hz1, hm⟩ := bind_some hm
   refine wq_ev (wn rfl) (ev_int rfl rfl (bo_sub hz1)) F rfl rfl ?_; clear F a; intro a F
   obtain ⟨y1, hy1, hm⟩ := bind_some hm
   refine wq_ev (wn rfl) (ev_idxN h1 hy1 tu23 ts70 rfl rfl) F rfl rfl ?_; clear F a; intro a F
   refine wq_ev (wn rfl) (ev_assign rfl) F rfl rfl ?_; clear F a; intro a F
   refine wq_nil ?_; clear S; intro w S
   refine then_n ?_
   refine wp_region_lit ?_
   refine wE (ev_move rfl) F S rfl fun a F=>?_
   refine wE (ev_move rfl) F S rfl fun a F=>?_
   refine wE (ev_nilP (elemN_ptr h1 hy1) rfl) F S rfl fun a F=>?_
   refine wE (ev_fieldAddr' tu70 tf70_1 (z := 0) ts22 rfl (elemN_ptr h1 hy1) rfl) F S rfl fun a F=>?_
   replace S : St g1 [c1, [bx bm_ #[v1] 59]] fr w := ((S.frontC 0 rfl).frontC 2 rfl)
   obtain ⟨cs1, ca1, cr1, ci1, hH1, hR1, hP1⟩ := OwnN.hole h1 hy1
   replace S : St g1 [ca1, cr1, ci1, [bx bm_ #[v1] 59]] fr w := St.split3 hP1 S
   obtain ⟨v2, c2, v3, v4, v5, rfl, rfl, h2, h3, h4, h5⟩ := orep_Chunk hR1
   replace S : St g1 [ca1, cr1, c2, [bx bm_ #[v1] 59]] fr w := S.of_eq (by simp only [fl, List.append_assoc, List.append_nil, List.nil_append])
   refine wE (ev_load1 tu22 rfl rfl (fun w s => fieldP (cells := [v2]) 1 ((HoleN.ptr hH1 _ _ 0 rfl) w s) rfl (lb rfl))) F S rfl fun a F=>?_
   refine wE (ev_move rfl) F S rfl fun a F=>?_
   obtain ⟨cs2, hk1, hr1⟩ := RepSl.reads (hl_1.mono l1)
   obtain ⟨y2, hy2, hm⟩ := bind_some hm
   refine wl_append (wn rfl) rfl tu22 tu22 te9 (by decide) (by decide) F S rfl rfl (k := 2) rfl h2 hk1 rfl (hr1 _ _ S) hy2 rfl rfl ?_; clear F a S
   rintro v6 c3 a w h6 S F; replace S : St g1 [ca1, cr1, c3, [bx bm_ #[v1] 59]] fr w := S
   refine wE (ev_nilP (elemH_ptr hH1) rfl) F S rfl fun a F=>?_
   refine wE (ev_fieldAddr' tu70 tf70_1 (z := 0) ts22 rfl (elemH_ptr hH1) rfl) F S rfl fun a F=>?_
   refine wl_storeH 1 (wn rfl) rfl F S hH1 rfl rfl rfl (us := [v6]) (OwnS.cl h6) ts22 (one_cons (OwnS.one h6) one_nil) (k := 0) rfl (lb rfl) (cs' := [.bool y1.Conflict, v6, v3, v4, v5]) rfl rfl ?_; clear S
   rintro ca2 w hH2 S; replace S : St g1 [ca2, cr1, c3, [bx bm_ #[v1] 59]] fr w := S
   refine wpList_nil ?_
   obtain ⟨y3, hy3, hm⟩ := bind_some hm
   have h7 := HoleN.shut hH2 (orep_Chunk_mk (x := ({ Conflict := y1.Conflict, Lines := y2, Base := y1.Base, Left := y1.Left, Right := y1.Right } : Chunk)) h6 h3 h4 h5); replace h7 : OwnN g1 y3 v1 (ca2 ++ (cr1 ++ (c3 ++ []))) := sinj hy3 ▸ h7
   replace S : St g1 [(ca2 ++ (cr1 ++ (c3 ++ []))), [bx bm_ #[v1] 59]] fr w := S.of_eq (by simp only [fl, List.append_assoc, List.append_nil, List.nil_append])
   generalize (ca2 ++ (cr1 ++ (c3 ++ []))) = c4 at S h7
   replace F := F.sub (e' := [(56, addP (elemP v1 z1 5) 1), (55, elemP v1 z1 5), (53, vl_1), (52, v2), (51, addP (elemP v1 z1 5) 1), (50, elemP v1 z1 5), (49, elemP v1 z1 5), (48, elemP v1 z1 5), (5, elemP v1 z1 5), (47, elemP v1 z1 5), (46, .i6 z1), (45, .i6 (x1.length : Int)), (44, v1), (43, bp bm_ 0), (42, bp bm_ 0), (41, bp bm_ 0), (40, v1), (39, bp bm_ 0), (38, bp bm_ 0), (37, bp bm_ 0), (0, bp bm_ 0), (1, vl_1)]) ⟨rfl, rfl, rfl, rfl, rfl, rfl, rfl, rfl, rfl, rfl, rfl, rfl, rfl, rfl, rfl, rfl, rfl, rfl, rfl, rfl, rfl, rfl, trivial⟩
   obtain rfl := sinj hm
   refine post_n _ F rfl ar_nil ?_
   replace S : St g1 [[bx bm_ #[v1] 59], c4] fr w := St.tail [[bx bm_ #[v1] 59], c4] _ ((S.frontC 0 rfl).frontC 2 rfl)
   exact ⟨_, rfl, g1, v1, c4, l1, S, h7, rfl⟩

theorem merge3_within_ok {g : Gh} {fr : Hl} {w : World} {r : (List Hunk)} (p_ : Patch) (vp_1 : Value) (hp_1 : RepSl g p_.Hunks vp_1) (r_ : RangeX_commute) (vr_1 : Value) (hr_1 : RepH g r_.Growth vr_1) (S : St g [] fr w) (hm : merge3_within p_ r_ = some r) :
  Calls Tryd.prog 21 [.agg #[vp_1], .agg #[.i6 r_.Low, .i6 r_.High, vr_1]].toArray w (fun en w' => ∃ v, en = .returned v ∧ ∃ (g' : Gh) (v1 : Value) (c1 : Hl), Le g g' ∧ St g' [c1] fr w' ∧ OwnS g' r v1 c1 ∧ v1 = v) := by
 unfold merge3_within at hm
 refine calls_enter (fn := Tryd.f21) Tryd.func21 rfl Tryd.ntmps21 (lb rfl) ?_
 intro a F
 replace F : Fr 33 a [(0, .agg #[vp_1]), (1, .agg #[.i6 r_.Low, .i6 r_.High, vr_1])] := F
 refine wp_seq ?_
 refine wp_region_lit ?_
 refine wl_boxC (wn rfl) rfl rfl rfl F S rfl rfl ?_; clear F a S; rintro b1 a w F S
 refine wl_boxC (wn rfl) rfl rfl rfl F S rfl rfl ?_; clear F a S; rintro b2 a w F S
 refine wE (ev_assign rfl) F S rfl fun a F=>?_
 refine wpList_nil ?_
 refine then_n ?_
 refine wp_seq ?_
 refine wp_region_lit ?_
 refine wE (ev_assign rfl) F S rfl fun a F=>?_
 refine wpList_nil ?_
 refine then_n ?_
 refine wp_cut (fun a w => ∃ (x1 : List Hunk) (v1 : Value) (c1 : Hl) (g1 : Gh), Fr 33 a [(5, v1)] ∧ Le g g1 ∧ St g1 [c1] fr w ∧ OwnS g1 x1 v1 c1 ∧ merge3_within.j1 x1 = some r) ?_ ?_
 ·refine wp_seq ?_
  refine wp_region_lit ?_
  refine wE (ev_fieldAddr' tu55 tf55_0 (z := 0) ts53 rfl ⟨_, rfl⟩ rfl) F S rfl fun a F=>?_
  refine wE (ev_load1 tu53 rfl rfl (box_ptr (cells := [vp_1]) 1 rfl 0 rfl (lb rfl))) F S rfl fun a F=>?_
  refine wE (ev_lenSh hp_1 rfl tu53) F S rfl fun a F=>?_
  refine wE (ev_move rfl) F S rfl fun a F=>?_
  refine wpList_nil ?_
  refine then_n ?_
  refine wp_block ?_
  obtain ⟨r1, hr1, hm⟩ := bind_some hm
  have hmo1 := hm; clear hm
  refine wp_iter (σ := Int × (List Hunk)) (ρ := (List Hunk)) (m := fun s => merge3_within.l1 p_ r_ s.1 s.2) (I := fun s a w => match s with | (x2, x3) => ∃ (v2 : Value) (c2 : Hl) (g2 : Gh), Fr 33 a [(11, .i6 x2), (10, .i6 (p_.Hunks.length : Int)), (9, vp_1), (5, v2), (3, bp b2 0)] ∧ Le g g2 ∧ St g2 [c2, [bx b2 #[.i6 r_.Low, .i6 r_.High, vr_1] 63]] fr w ∧ OwnS g2 x3 v2 c2) hr1 ?_ ?_
  ·dsimp only
   replace S : St g [[], [bx b2 #[.i6 r_.Low, .i6 r_.High, vr_1] 63], [bx b1 #[vp_1] 55]] fr w := S
   replace S : St g [[], [bx b2 #[.i6 r_.Low, .i6 r_.High, vr_1] 63]] fr w := St.tail [[], [bx b2 #[.i6 r_.Low, .i6 r_.High, vr_1] 63]] _ ((S.frontC 1 rfl).frontC 1 rfl)
   exact ⟨(nilS), [], g, F.sub ⟨rfl, rfl, rfl, rfl, rfl, trivial⟩, (Le.refl _), S, (OwnS.nil _)⟩
  ·clear F S; rintro ⟨x2, x3⟩ a w x4 ⟨v2, c2, g2, F, l2, S, h2⟩ hx1 hfin1
   have hm : merge3_within.l1 p_ r_ x2 x3 = some x4 := hx1; clear hx1
   unfold merge3_within.l1 at hm
   refine wp_seq ?_
   refine wp_region_lit ?_
   refine wE (ev_int rfl rfl (bo_lss _ _ _ _)) F S rfl fun a F=>?_
   refine wpList_nil ?_
   refine then_n ?_
   refine wp_seq ?_
   obtain ⟨hc1, hm⟩ | ⟨hc1, hm⟩ := ite_or hm
   ·refine wp_condT F rfl hc1 ?_
    refine wp_skip ?_
    refine then_n ?_
    refine wp_cut (fun a w => ∃ (x5 : List Hunk) (v3 : Value) (c3 : Hl) (g3 : Gh), Fr 33 a [(5, v3), (11, .i6 x2), (10, .i6 (p_.Hunks.length : Int)), (9, vp_1), (3, bp b2 0)] ∧ Le g2 g3 ∧ St g3 [c3, [bx b2 #[.i6 r_.Low, .i6 r_.High, vr_1] 63]] fr w ∧ OwnS g3 x5 v3 c3 ∧ merge3_within.j2 x2 x5 = some x4) ?_ ?_
    ·refine wp_block ?_
     refine wp_seq ?_
     refine wp_region_lit ?_
     obtain ⟨y1, hy1, hm⟩ := bind_some hm
     obtain ⟨cs1, hr2, hp1⟩ := elemS (hp_1.mono l2) hy1
     obtain ⟨v4, v5, rfl, h4, h5⟩ := rep_Hunk hr2
     refine wE (ev_idxS (hp_1.mono l2) hy1 tu53 ts75 rfl rfl) F S rfl fun a F=>?_
     refine wE (ev_loadA tu75 rfl (cs := [.i6 y1.At, v4, v5]) ts75 rfl (ptr_mono (cks := [c2, [bx b2 #[.i6 r_.Low, .i6 r_.High, vr_1] 63]]) (fr := fr) hp1 (Le.refl _))) F S rfl fun a F=>?_
     refine wl_alloc (wn rfl) rfl tz75 (cs := [.i6 0, nilS, nilS]) rfl F S rfl rfl ?_; clear F a S; rintro b3 a w F S
     refine wl_storeC (wn rfl) rfl F S rfl rfl (vs := [.i6 y1.At, v4, v5]) rfl ts75 (one_cons rfl (one_cons h4.one (one_cons h5.one one_nil))) (k := 0) rfl (lb rfl) (c' := #[.i6 y1.At, v4, v5]) rfl rfl ?_; clear S; intro w S
     refine wpList_nil ?_
     refine then_n ?_
     refine wp_seq ?_
     refine wp_quiet mo (by kernel_rfl) S ?_
     refine wq_ev (wn rfl) (ev_fieldAddr' tu75 tf75_0 (z := 0) ts3 rfl ⟨_, rfl⟩ rfl) F rfl rfl ?_; clear F a; intro a F
     refine wq_ev (wn rfl) (ev_load1 tu3 rfl rfl (box_ptr (cells := [.i6 y1.At]) 0 rfl 0 rfl (lb rfl))) F rfl rfl ?_; clear F a; intro a F
     refine wq_ev (wn rfl) (ev_fieldAddr' tu63 tf63_0 (z := 0) ts3 rfl ⟨_, rfl⟩ rfl) F rfl rfl ?_; clear F a; intro a F
     refine wq_ev (wn rfl) (ev_load1 tu3 rfl rfl (box_ptr (cells := [.i6 r_.Low]) 2 rfl 0 rfl (lb rfl))) F rfl rfl ?_; clear F a; intro a F
     refine wq_ev (wn rfl) (ev_int rfl rfl (bo_geq _ _ _ _)) F rfl rfl ?_; clear F a; intro a F
     refine wq_ev (wn rfl) (ev_move rfl) F rfl rfl ?_; clear F a; intro a F
     obtain ⟨x6, hx2, hm⟩ := bind_some hm
     refine wq_cut 6 (fun a => Fr 33 a [(26, .bool x6), (7, bp b3 0), (11, .i6 x2), (10, .i6 (p_.Hunks.length : Int)), (9, vp_1), (5, v2), (3, bp b2 0)]) ?_ ?_
     ·clear hm; obtain ⟨hc2, hm⟩ | ⟨hc2, hm⟩ := ite_or hx2
      ·refine wq_ev (wg F rfl rfl rfl rfl hc2) (ev_loadA tu75 rfl (cs := [.i6 y1.At, v4, v5]) ts75 rfl (box_ptr (cells := [.i6 y1.At, v4, v5]) 0 rfl 0 rfl (lb rfl))) F rfl rfl ?_; clear F a; intro a F
       obtain ⟨y2, hy2, hm⟩ := bind_some hm
       refine wq_call (wg F rfl rfl rfl rfl hc2) rfl (xs := [.tmp 21]) (vs := [.agg #[.i6 y1.At, v4, v5]]) (cap := []) F rfl rfl tc53 (v := .i6 y2) (fun w S => (textpatch_End_ok (g := g2) (fr := (fl [[bx b3 #[.i6 y1.At, v4, v5] 75], c2, [bx b2 #[.i6 r_.Low, .i6 r_.High, vr_1] 63]] fr)) (w := w) y1 v4 h4 v5 h5 S hy2).mono (by rintro en w' ⟨_, rfl, g2, l2, S2, rfl⟩; exact ⟨rfl, S2.weak l2⟩)) rfl rfl ?_; clear F a; intro a F
       refine wq_ev (wg F rfl rfl rfl rfl hc2) (ev_fieldAddr' tu63 tf63_1 (z := 0) ts3 rfl ⟨_, rfl⟩ rfl) F rfl rfl ?_; clear F a; intro a F
       refine wq_ev (wg F rfl rfl rfl rfl hc2) (ev_load1 tu3 rfl rfl (box_ptr (cells := [.i6 r_.High]) 2 rfl 1 rfl (lb rfl))) F rfl rfl ?_; clear F a; intro a F
       refine wq_ev (wg F rfl rfl rfl rfl hc2) (ev_int rfl rfl (bo_leq _ _ _ _)) F rfl rfl ?_; clear F a; intro a F
       refine wq_ev (wn rfl) (ev_pickT rfl hc2 rfl) F rfl rfl ?_; clear F a; intro a F
       obtain rfl := sinj hm
       refine wq_nil ?_; exact F.sub ⟨rfl, rfl, rfl, rfl, rfl, rfl, rfl, trivial⟩
      ·refine wq_skip rfl rfl rfl rfl (ne_tf hc2) F rfl rfl ?_; clear F a; intro a F
       refine wq_skip rfl rfl rfl rfl (ne_tf hc2) F rfl rfl ?_; clear F a; intro a F
       refine wq_skip rfl rfl rfl rfl (ne_tf hc2) F rfl rfl ?_; clear F a; intro a F
       refine wq_skip rfl rfl rfl rfl (ne_tf hc2) F rfl rfl ?_; clear F a; intro a F
       refine wq_skip rfl rfl rfl rfl (ne_tf hc2) F rfl rfl ?_; clear F a; intro a F
       refine wq_ev (wn rfl) (ev_pickF rfl hc2 rfl) F rfl rfl ?_; clear F a; intro a F
       obtain rfl := sinj hm
       refine wq_nil ?_; exact F.sub ⟨rfl, rfl, rfl, rfl, rfl, rfl, rfl, trivial⟩
     clear F; intro a F
     refine wq_nil ?_; clear S; intro w S
     refine then_n ?_
     obtain ⟨hc3, hm⟩ | ⟨hc3, hm⟩ := ite_or hm
     ·refine wp_condT F rfl hc3 ?_
      refine wp_region_lit ?_
      refine wE (ev_move rfl) F S rfl fun a F=>?_
      refine wE (ev_loadA tu75 rfl (cs := [.i6 y1.At, v4, v5]) ts75 rfl (box_ptr (cells := [.i6 y1.At, v4, v5]) 0 rfl 0 rfl (lb rfl))) F S rfl fun a F=>?_
      refine wl_lit (l := ([y1] : List Hunk)) (vs := [.agg #[.i6 y1.At, v4, v5]]) (parts := [(0, .tmp 28)]) (wn rfl) rfl rfl rfl tu53 te75 (sz_cons rfl sz_nil) rfl (Cat.cons (rep_Hunk_mk (x := y1) h4 h5) (Cat.nil _)) (coa_cons rfl coa_nil) rfl F S rfl rfl ?_; clear F a S
      rintro v6 c4 a w h6 F S
      obtain ⟨cs2, hk1, hr3⟩ := OwnS.reads h6
      obtain ⟨y3, hy3, hm⟩ := bind_some hm
      refine wl_append (wn rfl) rfl tu53 tu53 te75 (by decide) (by decide) F S rfl rfl (k := 2) rfl h2 hk1 rfl (hr3 _ _ _ 0 rfl S) hy3 rfl rfl ?_; clear F a S
      rintro v7 c5 a w h7 S F; replace S : St g2 [c4, [bx b3 #[.i6 y1.At, v4, v5] 75], c5, [bx b2 #[.i6 r_.Low, .i6 r_.High, vr_1] 63]] fr w := S
      refine wE (ev_assign rfl) F S rfl fun a F=>?_
      refine wpList_nil ?_
      refine inb_n ?_
      refine then_n ?_
      replace S : St g2 [c5, [bx b2 #[.i6 r_.Low, .i6 r_.High, vr_1] 63]] fr w := St.tail [c5, [bx b2 #[.i6 r_.Low, .i6 r_.High, vr_1] 63]] _ ((S.frontC 3 rfl).frontC 3 rfl)
      exact ⟨y3, v7, c5, g2, F.sub ⟨rfl, rfl, rfl, rfl, rfl, trivial⟩, (Le.refl _), S, h7, hm⟩
     ·refine wp_condF F rfl hc3 ?_
      refine wp_skip ?_
      refine inb_n ?_
      refine then_n ?_
      replace S : St g2 [c2, [bx b2 #[.i6 r_.Low, .i6 r_.High, vr_1] 63]] fr w := St.tail [c2, [bx b2 #[.i6 r_.Low, .i6 r_.High, vr_1] 63]] _ ((S.frontC 2 rfl).frontC 2 rfl)
      exact ⟨x3, v2, c2, g2, F.sub ⟨rfl, rfl, rfl, rfl, rfl, trivial⟩, (Le.refl _), S, h2, hm⟩
    ·clear F S hm; rintro a w ⟨x5, v3, c3, g3, F, l3, S, h3, hm⟩
     refine wp_region_lit ?_
     obtain ⟨z1, hz1, hm⟩ := bind_some hm
     refine wE (ev_int rfl rfl (bo_add hz1)) F S rfl fun a F=>?_
     refine wE (ev_move rfl) F S rfl fun a F=>?_
     refine wpList_nil ?_
     refine then_n ?_
     obtain rfl := sinj hm
     refine ⟨_, rfl, ?_⟩
     dsimp only
     exact ⟨v3, c3, g3, F.sub ⟨rfl, rfl, rfl, rfl, rfl, trivial⟩, (l2.trans l3), S, h3⟩
   ·refine wp_condF F rfl hc1 ?_
    refine wp_exit ?_
    refine then_e ?_
    refine then_e ?_
    refine inb_x ?_
    refine then_n ?_
    obtain rfl := sinj hm
    obtain rfl := hfin1 _ rfl
    clear hm
    have hm : (merge3_within.j1 x3 : Option (List Hunk)) = some _ := hmo1
    replace S : St g2 [c2] fr w := St.tail [c2] _ (S.frontC 0 rfl)
    exact ⟨x3, v2, c2, g2, F.sub ⟨rfl, trivial⟩, l2, S, h2, hm⟩
 ·clear F S hm; rintro a w ⟨x1, v1, c1, g1, F, l1, S, h1, hm⟩
  refine wp_seq ?_
  refine wp_region_lit ?_
  refine wE (ev_move rfl) F S rfl fun a F=>?_
  refine wE (ev_assign rfl) F S rfl fun a F=>?_
  refine wpList_nil ?_
  refine then_n ?_
  refine wp_ret ?_
  obtain rfl := sinj hm
  refine post_r _ F rfl (ar_cons (resT rfl) ar_nil) ?_
  exact ⟨_, rfl, g1, v1, c1, l1, S, h1, rfl⟩
end Go.Dc
