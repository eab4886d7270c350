/- Walks: each function comes to what its model says. -/
import Derived.Test.YtjmigclbilnajaaDoorDcTab
import Derived.Test.YtjmigclbilnajaaDoorDcM
import Derived.Test.YtjmigclbilnajaaDoorDcW14
import Derived.Test.YtjmigclbilnajaaDoorDcW16
namespace Go.Dc
open Go Go.Proofs
set_option maxRecDepth 100000
set_option maxHeartbeats 4000000
set_option linter.unusedVariables false
theorem treepatch_Find_ok {g : Gh} {fr : Hl} {w : World} {r : Int × Bool} (files : (List File)) (vfiles1 : Value) (hfiles1 : RepSl g files vfiles1) (path : ByteArray) (S : St g [] fr w) (hm : treepatch_Find files path = some r) :
  Calls Tryd.prog 62 [vfiles1, .string path].toArray w (fun en w' => ∃ v, en = .returned v ∧ ∃ (g' : Gh), Le g g' ∧ St g' [] fr w' ∧ .tuple #[.i6 r.1, .bool r.2] = v) := by
 unfold treepatch_Find at hm
 refine calls_enter (fn := Tryd.f62) Tryd.func62 rfl Tryd.ntmps62 (lb rfl) ?_
 intro a F
 replace F : Fr 11 a [(0, vfiles1), (1, .string path)] := F
 refine wp_seq ?_
 refine wp_region_lit ?_
 refine wE (ev_assign rfl) F S rfl fun a F=>?_
 refine wE (ev_assign rfl) F S rfl fun a F=>?_
 refine wpList_nil ?_
 refine then_n ?_
 refine wp_seq ?_
 refine wp_region_lit ?_
 refine wE (ev_move rfl) F S rfl fun a F=>?_
 refine wE (ev_move rfl) F S rfl fun a F=>?_
 replace F := F.sub (e' := [(7, .string path), (6, vfiles1), (5, .bool false), (4, .i6 0)]) ⟨rfl, rfl, rfl, rfl, trivial⟩
 refine wl_callK (wn rfl) rfl (xs := [.tmp 6, .tmp 7, .func 102]) (vs := [vfiles1, .string path, .func (.func 102) #[] #[]]) (cap := []) (e' := [(5, .bool false), (4, .i6 0)]) ⟨rfl, rfl, trivial⟩ F rfl rfl tc101 rfl rfl (calls_enter (fn := Tryd.f101) Tryd.func101 rfl Tryd.ntmps101 (lb rfl) ?_); clear F a; intro a F
 replace F : Fr 49 a [(0, vfiles1), (1, .string path), (2, .func (.func 102) #[] #[])] := F
 refine wp_seq ?_
 refine wp_region_lit ?_
 refine wE (ev_assign rfl) F S rfl fun a F=>?_
 refine wE (ev_assign rfl) F S rfl fun a F=>?_
 refine wpList_nil ?_
 refine then_n ?_
 refine wp_seq ?_
 refine wp_region_lit ?_
 refine wE (ev_move rfl) F S rfl fun a F=>?_
 refine wE (ev_lenSh hfiles1 rfl tu42) F S rfl fun a F=>?_
 refine wE (ev_assign rfl) F S rfl fun a F=>?_
 refine wpList_nil ?_
 refine then_n ?_
 refine wp_seq ?_
 refine wp_region_lit ?_
 refine wE (ev_move rfl) F S rfl fun a F=>?_
 refine wE (ev_assign rfl) F S rfl fun a F=>?_
 refine wE (ev_assign rfl) F S rfl fun a F=>?_
 refine wpList_nil ?_
 refine then_n ?_
 refine wp_cut (fun a w => ∃ (x1 : Int) (g1 : Gh), Fr 49 a [(9, .i6 x1), (8, .i6 (files.length : Int)), (0, vfiles1), (1, .string path), (2, .func (.func 102) #[] #[])] ∧ Le g g1 ∧ St g1 [] fr w ∧ treepatch_Find.j1 files path x1 = some r) ?_ ?_
 ·refine wp_block ?_
  obtain ⟨r1, hr2, hm⟩ := bind_some hm
  have hmo1 := hm; clear hm
  refine wp_iter (σ := Int × Int) (ρ := Int) (m := fun s => treepatch_Find.l1 files path s.1 s.2) (I := fun s a w => match s with | (x3, x4) => ∃ (g4 : Gh), Fr 49 a [(10, .i6 x3), (9, .i6 x4), (8, .i6 (files.length : Int)), (0, vfiles1), (1, .string path), (2, .func (.func 102) #[] #[])] ∧ Le g g4 ∧ St g4 [] fr w) hr2 ?_ ?_
  ·dsimp only
   exact ⟨g, F.sub ⟨rfl, rfl, rfl, rfl, rfl, rfl, trivial⟩, (Le.refl _), S⟩
  ·clear F S; rintro ⟨x3, x4⟩ a w x5 ⟨g4, F, l4, S⟩ hx2 hfin1
   have hm : treepatch_Find.l1 files path x3 x4 = some x5 := hx2; clear hx2
   unfold treepatch_Find.l1 at hm
   refine wp_seq ?_
   refine wp_seq ?_
   refine wp_region_lit ?_
   refine wE (ev_move rfl) F S rfl fun a F=>?_
   refine wE (ev_move rfl) F S rfl fun a F=>?_
   refine wE (ev_int rfl rfl (bo_lss _ _ _ _)) F S rfl fun a F=>?_
   refine wpList_nil ?_
   refine then_n ?_
   obtain ⟨hc2, hm⟩ | ⟨hc2, hm⟩ := ite_or hm
   ·refine wp_condT F rfl hc2 ?_
    refine wp_skip ?_
    refine then_n ?_
    refine wp_block ?_
    refine wp_seq ?_
    refine wp_region_lit ?_
    refine wE (ev_move rfl) F S rfl fun a F=>?_
    refine wE (ev_move rfl) F S rfl fun a F=>?_
    obtain ⟨z1, hz1, hm⟩ := bind_some hm
    refine wE (ev_int rfl rfl (bo_add hz1)) F S rfl fun a F=>?_
    obtain ⟨z2, hz2, hm⟩ := bind_some hm
    refine wE (ev_conv hz2 tu3 tu151 rfl) F S rfl fun a F=>?_
    obtain ⟨z3, hz3, hm⟩ := bind_some hm
    refine wE (ev_shr hz3 rfl rfl) F S rfl fun a F=>?_
    obtain ⟨z4, hz4, hm⟩ := bind_some hm
    refine wE (ev_conv hz4 tu151 tu3 rfl) F S rfl fun a F=>?_
    refine wE (ev_assign rfl) F S rfl fun a F=>?_
    refine wpList_nil ?_
    refine then_n ?_
    refine wp_seq ?_
    refine wp_region_lit ?_
    refine wE (ev_move rfl) F S rfl fun a F=>?_
    refine wE (ev_move rfl) F S rfl fun a F=>?_
    refine wE (ev_move rfl) F S rfl fun a F=>?_
    obtain ⟨y3, hy3, hm⟩ := bind_some hm
    obtain ⟨cs2, hr3, hp2⟩ := elemS (hfiles1.mono l4) hy3
    obtain ⟨v2, rfl, h2⟩ := rep_File hr3
    refine wE (ev_idxS (hfiles1.mono l4) hy3 tu42 ts88 rfl rfl) F S rfl fun a F=>?_
    refine wE (ev_loadA tu88 rfl (cs := [.string y3.Path, v2]) ts88 rfl (ptr_mono (cks := []) (fr := fr) hp2 (Le.refl _))) F S rfl fun a F=>?_
    refine wE (ev_move rfl) F S rfl fun a F=>?_
    obtain ⟨y4, hy4, hm⟩ := bind_some hm
    refine wl_call0 (wn rfl) rfl F rfl (treepatch_Find_s1_ok y3 v2 h2 path S hy4) rfl tc102 rfl rfl ?_; clear F a S
    rintro _ a w ⟨g5, l5, S, rfl⟩ F; replace S : St g5 [] fr w := S
    refine wE (ev_int rfl rfl (bo_lss _ _ _ _)) F S rfl fun a F=>?_
    refine wpList_nil ?_
    refine then_n ?_
    obtain ⟨hc3, hm⟩ | ⟨hc3, hm⟩ := ite_or hm
    ·refine wp_condT F rfl hc3 ?_
     refine wp_region_lit ?_
     refine wE (ev_move rfl) F S rfl fun a F=>?_
     obtain ⟨z5, hz5, hm⟩ := bind_some hm
     refine wE (ev_int rfl rfl (bo_add hz5)) F S rfl fun a F=>?_
     refine wE (ev_assign rfl) F S rfl fun a F=>?_
     refine wpList_nil ?_
     refine inb_n ?_
     refine then_n ?_
     obtain rfl := sinj hm
     refine ⟨_, rfl, ?_⟩
     dsimp only
     exact ⟨g5, F.sub ⟨rfl, rfl, rfl, rfl, rfl, rfl, trivial⟩, (l4.trans l5), S⟩
    ·refine wp_condF F rfl hc3 ?_
     refine wp_region_lit ?_
     refine wE (ev_move rfl) F S rfl fun a F=>?_
     refine wE (ev_assign rfl) F S rfl fun a F=>?_
     refine wpList_nil ?_
     refine inb_n ?_
     refine then_n ?_
     obtain rfl := sinj hm
     refine ⟨_, rfl, ?_⟩
     dsimp only
     exact ⟨g5, F.sub ⟨rfl, rfl, rfl, rfl, rfl, rfl, trivial⟩, (l4.trans l5), S⟩
   ·refine wp_condF F rfl hc2 ?_
    refine wp_exit ?_
    refine then_e ?_
    refine then_e ?_
    refine inb_x ?_
    refine then_n ?_
    obtain rfl := sinj hm
    obtain rfl := hfin1 _ rfl
    clear hm
    have hm : (treepatch_Find.j1 files path x4 : Option (Int × Bool)) = some _ := hmo1
    exact ⟨x4, g4, F.sub ⟨rfl, rfl, rfl, rfl, rfl, trivial⟩, l4, S, hm⟩
 ·clear F S hm; rintro a w ⟨x1, g1, F, l1, S, hm⟩
  refine wp_seq ?_
  refine wp_region_lit ?_
  refine wE (ev_move rfl) F S rfl fun a F=>?_
  refine wE (ev_move rfl) F S rfl fun a F=>?_
  refine wE (ev_move rfl) F S rfl fun a F=>?_
  refine wE (ev_int rfl rfl (bo_lss _ _ _ _)) F S rfl fun a F=>?_
  refine wE (ev_move rfl) F S rfl fun a F=>?_
  obtain ⟨x2, hx1, hm⟩ := bind_some hm
  refine wl_cut 9 (fun a w => ∃ g2, Fr 49 a [(48, .bool x2), (35, .i6 x1)] ∧ Le g1 g2 ∧ St g2 [] fr w) ?_ ?_
  ·clear hm; obtain ⟨hc1, hm⟩ | ⟨hc1, hm⟩ := ite_or hx1
   ·refine wl_ev (wg F rfl rfl rfl rfl hc1) (ev_move rfl) F S rfl rfl ?_; clear F a; intro a F
    refine wl_ev (wg F rfl rfl rfl rfl hc1) (ev_move rfl) F S rfl rfl ?_; clear F a; intro a F
    refine wl_ev (wg F rfl rfl rfl rfl hc1) (ev_move rfl) F S rfl rfl ?_; clear F a; intro a F
    obtain ⟨y1, hy1, hm⟩ := bind_some hm
    obtain ⟨cs1, hr1, hp1⟩ := elemS (hfiles1.mono l1) hy1
    obtain ⟨v1, rfl, h1⟩ := rep_File hr1
    refine wl_ev (wg F rfl rfl rfl rfl hc1) (ev_idxS (hfiles1.mono l1) hy1 tu42 ts88 rfl rfl) F S rfl rfl ?_; clear F a; intro a F
    refine wl_ev (wg F rfl rfl rfl rfl hc1) (ev_loadA tu88 rfl (cs := [.string y1.Path, v1]) ts88 rfl (ptr_mono (cks := []) (fr := fr) hp1 (Le.refl _))) F S rfl rfl ?_; clear F a; intro a F
    refine wl_ev (wg F rfl rfl rfl rfl hc1) (ev_move rfl) F S rfl rfl ?_; clear F a; intro a F
    obtain ⟨y2, hy2, hm⟩ := bind_some hm
    refine wl_call0 (wg F rfl rfl rfl rfl hc1) rfl F rfl (treepatch_Find_s1_ok y1 v1 h1 path S hy2) rfl tc102 rfl rfl ?_; clear F a S
    rintro _ a w ⟨g3, l3, S, rfl⟩ F; replace S : St g3 [] fr w := S
    refine wl_ev (wg F rfl rfl rfl rfl hc1) (ev_int rfl rfl (bo_eql _ _ _ _)) F S rfl rfl ?_; clear F a; intro a F
    refine wE (ev_pickT rfl hc1 rfl) F S rfl fun a F=>?_
    obtain rfl := sinj hm
    refine wpList_nil (then_n ?_); exact ⟨g3, F.sub ⟨rfl, rfl, trivial⟩, l3, S⟩
   ·refine wl_skip rfl rfl rfl rfl (ne_tf hc1) F rfl rfl ?_; clear F a; intro a F
    refine wl_skip rfl rfl rfl rfl (ne_tf hc1) F rfl rfl ?_; clear F a; intro a F
    refine wl_skip rfl rfl rfl rfl (ne_tf hc1) F rfl rfl ?_; clear F a; intro a F
    refine wl_skip rfl rfl rfl rfl (ne_tf hc1) F rfl rfl ?_; clear F a; intro a F
    refine wl_skip rfl rfl rfl rfl (ne_tf hc1) F rfl rfl ?_; clear F a; intro a F
    refine wl_skip rfl rfl rfl rfl (ne_tf hc1) F rfl rfl ?_; clear F a; intro a F
    refine wl_skip rfl rfl rfl rfl (ne_tf hc1) F rfl rfl ?_; clear F a; intro a F
    refine wl_skip rfl rfl rfl rfl (ne_tf hc1) F rfl rfl ?_; clear F a; intro a F
    refine wE (ev_pickF rfl hc1 rfl) F S rfl fun a F=>?_
    obtain rfl := sinj hm
    refine wpList_nil (then_n ?_); exact ⟨g1, F.sub ⟨rfl, rfl, trivial⟩, (Le.refl _), S⟩
  clear F S; rintro a w ⟨g2, F, l2, S⟩
  refine wE (ev_assign rfl) F S rfl fun a F=>?_
  refine wE (ev_assign rfl) F S rfl fun a F=>?_
  refine wpList_nil ?_
  refine then_n ?_
  refine wp_ret ?_
  refine post_r _ F rfl (ar_cons (resT rfl) (ar_cons (resT rfl) ar_nil)) ?_
  refine ⟨_, rfl, ?_⟩; clear F a; intro a F
  replace F : Fr 11 a [(8, .tuple #[.i6 x1, .bool x2]), (5, .bool false), (4, .i6 0)] := F
  refine wE (ev_extract rfl rfl) F S rfl fun a F=>?_
  refine wE (ev_extract rfl rfl) F S rfl fun a F=>?_
  refine wE (ev_assign rfl) F S rfl fun a F=>?_
  refine wE (ev_assign rfl) F S rfl fun a F=>?_
  refine wpList_nil ?_
  refine then_n ?_
  refine wp_ret ?_
  obtain rfl := sinj hm
  refine post_r _ F rfl (ar_cons (resT rfl) (ar_cons (resT rfl) ar_nil)) ?_
  exact ⟨_, rfl, g2, (l1.trans l2), S, rfl⟩

theorem diff_Collector__Keep_ok {g : Gh} {fr : Hl} {w : World} {r : Collector_diff} (bc_ : Nat) (c_ : Collector_diff) (vc_1 : Value) (cc_1 : Hl) (hc_1 : OwnN g c_.hunks vc_1 cc_1) (n_ : Int) (S : St g [[bx bc_ #[vc_1, .i6 c_.at_, .bool c_.open_] 133], cc_1] fr w) (hm : diff_Collector__Keep c_ n_ = some r) :
  Calls Tryd.prog 104 [bp bc_ 0, .i6 n_].toArray w (fun en w' => ∃ v, en = .returned v ∧ ∃ (g' : Gh) (v1 : Value) (c1 : Hl), Le g g' ∧ St g' [[bx bc_ #[v1, .i6 r.at_, .bool r.open_] 133], c1] fr w' ∧ OwnN g' r.hunks v1 c1 ∧ .tuple #[] = v) := by
 unfold diff_Collector__Keep at hm
 refine calls_enter (fn := Tryd.f104) Tryd.func104 rfl Tryd.ntmps104 (lb rfl) ?_
 intro a F
 replace F : Fr 18 a [(0, bp bc_ 0), (1, .i6 n_)] := F
 refine wp_seq ?_
 refine wp_region_lit ?_
 refine wE (ev_move rfl) F S rfl fun a F=>?_
 refine wE (ev_int rfl rfl (bo_gtr _ _ _ _)) F S rfl fun a F=>?_
 refine wpList_nil ?_
 refine then_n ?_
 obtain ⟨hc1, hm⟩ | ⟨hc1, hm⟩ := ite_or hm
 ·refine wp_condT F rfl hc1 ?_
  refine wp_region_lit ?_
  refine wE (ev_move rfl) F S rfl fun a F=>?_
  refine wE (ev_move rfl) F S rfl fun a F=>?_
  refine wE (ev_move rfl) F S rfl fun a F=>?_
  refine wE (ev_nil rfl) F S rfl fun a F=>?_
  refine wE (ev_fieldAddr' tu133 tf133_1 (z := 0) ts3 rfl ⟨_, rfl⟩ rfl) F S rfl fun a F=>?_
  refine wE (ev_load1 tu3 rfl rfl (box_ptr (cells := [.i6 c_.at_]) 0 rfl 1 rfl (lb rfl))) F S rfl fun a F=>?_
  refine wE (ev_move rfl) F S rfl fun a F=>?_
  obtain ⟨z1, hz1, hm⟩ := bind_some hm
  refine wE (ev_int rfl rfl (bo_add hz1)) F S rfl fun a F=>?_
  refine wE (ev_nil rfl) F S rfl fun a F=>?_
  refine wE (ev_fieldAddr' tu133 tf133_1 (z := 0) ts3 rfl ⟨_, rfl⟩ rfl) F S rfl fun a F=>?_
  refine wl_storeC (wn rfl) rfl F S rfl rfl (vs := [.i6 z1]) rfl ts3 (one_cons rfl one_nil) (k := 0) rfl (lb rfl) (c' := #[vc_1, .i6 z1, .bool c_.open_]) rfl rfl ?_; clear S; intro w S
  refine wE (ev_nil rfl) F S rfl fun a F=>?_
  refine wE (ev_fieldAddr' tu133 tf133_2 (z := 0) ts4 rfl ⟨_, rfl⟩ rfl) F S rfl fun a F=>?_
  refine wl_storeC (wn rfl) rfl F S rfl rfl (vs := [.bool false]) rfl ts4 (one_cons rfl one_nil) (k := 0) rfl (lb rfl) (c' := #[vc_1, .i6 z1, .bool false]) rfl rfl ?_; clear S; intro w S
  refine wpList_nil ?_
  obtain rfl := sinj hm
  refine post_n _ F rfl ar_nil ?_
  exact ⟨_, rfl, g, vc_1, cc_1, (Le.refl _), S, hc_1, rfl⟩
 ·refine wp_condF F rfl hc1 ?_
  refine wp_skip ?_
  obtain rfl := sinj hm
  refine post_n _ F rfl ar_nil ?_
  exact ⟨_, rfl, g, vc_1, cc_1, (Le.refl _), S, hc_1, rfl⟩

theorem diff_Collector__Delete_ok {g : Gh} {fr : Hl} {w : World} {r : Collector_diff} (bc_ : Nat) (c_ : Collector_diff) (vc_1 : Value) (cc_1 : Hl) (hc_1 : OwnN g c_.hunks vc_1 cc_1) (line : ByteArray) (S : St g [[bx bc_ #[vc_1, .i6 c_.at_, .bool c_.open_] 133], cc_1] fr w) (hm : diff_Collector__Delete c_ line = some r) :
  Calls Tryd.prog 105 [bp bc_ 0, .string line].toArray w (fun en w' => ∃ v, en = .returned v ∧ ∃ (g' : Gh) (v1 : Value) (c1 : Hl), Le g g' ∧ St g' [[bx bc_ #[v1, .i6 r.at_, .bool r.open_] 133], c1] fr w' ∧ OwnN g' r.hunks v1 c1 ∧ .tuple #[] = v) := by
 unfold diff_Collector__Delete at hm
 refine calls_enter (fn := Tryd.f105) Tryd.func105 rfl Tryd.ntmps105 (lb rfl) ?_
 intro a F
 replace F : Fr 24 a [(0, bp bc_ 0), (1, .string line)] := F
 refine wp_seq ?_
 refine wp_region_lit ?_
 refine wE (ev_move rfl) F S rfl fun a F=>?_
 replace F := F.sub (e' := [(5, bp bc_ 0), (0, bp bc_ 0), (1, .string line)]) ⟨rfl, rfl, rfl, trivial⟩
 refine wl_callK (wn rfl) rfl (xs := [.tmp 5]) (vs := [bp bc_ 0]) (cap := []) (e' := [(0, bp bc_ 0), (1, .string line)]) ⟨rfl, rfl, trivial⟩ F rfl rfl tc122 rfl rfl (calls_enter (fn := Tryd.f122) Tryd.func122 rfl Tryd.ntmps122 (lb rfl) ?_); clear F a; intro a F
 replace F : Fr 36 a [(0, bp bc_ 0)] := F
 refine wp_seq ?_
 refine wp_region_lit ?_
 refine wE (ev_assign rfl) F S rfl fun a F=>?_
 refine wpList_nil ?_
 refine then_n ?_
 refine wp_cut (fun a w => ∃ (x1 : List Hunk) (x2 : Bool) (v1 : Value) (c1 : Hl) (g1 : Gh), Fr 36 a [(0, bp bc_ 0)] ∧ Le g g1 ∧ St g1 [[bx bc_ #[v1, .i6 c_.at_, .bool x2] 133], c1] fr w ∧ OwnN g1 x1 v1 c1 ∧ diff_Collector__Delete.j1 c_ line x1 x2 = some r) ?_ ?_
 ·refine wp_seq ?_
  refine wp_region_lit ?_
  refine wE (ev_move rfl) F S rfl fun a F=>?_
  refine wE (ev_nil rfl) F S rfl fun a F=>?_
  refine wE (ev_fieldAddr' tu133 tf133_2 (z := 0) ts4 rfl ⟨_, rfl⟩ rfl) F S rfl fun a F=>?_
  refine wE (ev_load1 tu4 rfl rfl (box_ptr (cells := [.bool c_.open_]) 0 rfl 2 rfl (lb rfl))) F S rfl fun a F=>?_
  refine wE (ev_not rfl) F S rfl fun a F=>?_
  refine wpList_nil ?_
  refine then_n ?_
  obtain ⟨hc1, hm⟩ | ⟨hc1, hm⟩ := ite_or hm
  ·refine wp_condT F rfl hc1 ?_
   refine wp_dv [] mo S ?_; clear S; intro ok1 w S
   refine dv_et ok1 0 rfl (ev_move rfl) F rfl fun a F=>?_
   refine dv_et ok1 1 rfl (ev_move rfl) F rfl fun a F=>?_
   refine dv_et ok1 2 rfl (ev_move rfl) F rfl fun a F=>?_
   refine dv_et ok1 3 rfl (ev_nil rfl) F rfl fun a F=>?_
   refine dv_et ok1 4 rfl (ev_fieldAddr' tu133 tf133_0 (z := 0) ts23 rfl ⟨_, rfl⟩ rfl) F rfl fun a F=>?_
   refine dv_ev ok1 5 rfl (ev_load1 tu23 rfl rfl (box_ptr (cells := [vc_1]) 0 rfl 0 rfl (lb rfl))) F S rfl fun a F=>?_
   refine dv_et ok1 6 rfl (ev_move rfl) F rfl fun a F=>?_
   refine dv_et ok1 7 rfl (ev_nil rfl) F rfl fun a F=>?_
   refine dv_et ok1 8 rfl (ev_fieldAddr' tu133 tf133_1 (z := 0) ts3 rfl ⟨_, rfl⟩ rfl) F rfl fun a F=>?_
   refine dv_ev ok1 9 rfl (ev_load1 tu3 rfl rfl (box_ptr (cells := [.i6 c_.at_]) 0 rfl 1 rfl (lb rfl))) F S rfl fun a F=>?_
   refine dv_et ok1 10 rfl (ev_build (parts := [(0, .tmp 17)]) (vs := [(0, .i6 c_.at_)]) rfl (fun w => tb69_0 c_.at_ w)) F rfl fun a F=>?_
   refine dv_op ok1 11 rfl [(5, vc_1)] ?_
   replace S : St g [[], [bx bc_ #[vc_1, .i6 c_.at_, .bool c_.open_] 133], cc_1] fr w := S
   replace S : St g [[], [], [bx bc_ #[vc_1, .i6 c_.at_, .bool c_.open_] 133], cc_1] fr w := S
   replace S : St g [[], [], [bx bc_ #[vc_1, .i6 c_.at_, .bool c_.open_] 133], cc_1] fr w := ((((S.frontC 3 rfl).frontC 3 rfl).frontC 2 rfl).frontC 4 rfl)
   replace S : St g [([] ++ ([] ++ [])), [bx bc_ #[vc_1, .i6 c_.at_, .bool c_.open_] 133], cc_1] fr w := S.of_eq (by simp only [fl, List.append_assoc, List.append_nil, List.nil_append])
   refine wl_lit1N (p := ({ At := c_.at_, Old := [], New := [] } : Hunk)) (wn rfl) rfl rfl tu23 te69 rfl rfl rfl (orep_Hunk_mk (x := ({ At := c_.at_, Old := [], New := [] } : Hunk)) (OwnS.nil _) (OwnS.nil _)) F S rfl rfl ?_; clear F a S
   rintro v6 c7 a w h7 F S
   refine dv_nx ⟨yl_ev rfl rfl (ev_load1 tu23 rfl rfl (box_ptr (cells := [vc_1]) 1 rfl 0 rfl (lb rfl))) F S, trivial⟩ ?_
   refine dv_op ok1 12 rfl [] ?_
   replace S : St g [cc_1, c7, [bx bc_ #[vc_1, .i6 c_.at_, .bool c_.open_] 133]] fr w := (((S.frontC 1 rfl).frontC 1 rfl).frontC 4 rfl)
   obtain ⟨y4, hy4, hm⟩ := bind_some hm
   refine wl_appendN (wn rfl) rfl tu23 tu23 te69 (by decide) (by decide) F S rfl rfl hc_1 h7 hy4 rfl rfl ?_; clear F a S
   rintro v7 c8 a w h8 S F; replace S : St g [c8, [bx bc_ #[vc_1, .i6 c_.at_, .bool c_.open_] 133]] fr w := S
   refine dv_nx trivial ?_
   refine dv_et ok1 13 rfl (ev_nil rfl) F rfl fun a F=>?_
   refine dv_et ok1 14 rfl (ev_fieldAddr' tu133 tf133_0 (z := 0) ts23 rfl ⟨_, rfl⟩ rfl) F rfl fun a F=>?_
   refine dv_op ok1 15 rfl [] ?_
   refine wl_storeC (wn rfl) rfl F S rfl rfl (vs := [v7]) (OwnN.cl h8) ts23 (one_cons (OwnN.one h8) one_nil) (k := 1) rfl (lb rfl) (c' := #[v7, .i6 c_.at_, .bool c_.open_]) rfl rfl ?_; clear S; intro w S
   refine dv_nx trivial ?_
   refine dv_et ok1 16 rfl (ev_nil rfl) F rfl fun a F=>?_
   refine dv_et ok1 17 rfl (ev_fieldAddr' tu133 tf133_2 (z := 0) ts4 rfl ⟨_, rfl⟩ rfl) F rfl fun a F=>?_
   refine dv_op ok1 18 rfl [] ?_
   refine wl_storeC (wn rfl) rfl F S rfl rfl (vs := [.bool true]) rfl ts4 (one_cons rfl one_nil) (k := 1) rfl (lb rfl) (c' := #[v7, .i6 c_.at_, .bool true]) rfl rfl ?_; clear S; intro w S
   refine dv_nx trivial ?_
   refine dv_fin ok1 ?_
   refine then_n ?_
   replace S : St g [[bx bc_ #[v7, .i6 c_.at_, .bool true] 133], c8] fr w := St.tail [[bx bc_ #[v7, .i6 c_.at_, .bool true] 133], c8] _ ((S.frontC 0 rfl).frontC 2 rfl)
   exact ⟨y4, true, v7, c8, g, F.sub ⟨rfl, trivial⟩, (Le.refl _), S, h8, hm⟩
  ·refine wp_condF F rfl hc1 ?_
   refine wp_skip ?_
   refine then_n ?_
   exact ⟨c_.hunks, c_.open_, vc_1, cc_1, g, F.sub ⟨rfl, trivial⟩, (Le.refl _), S, hc_1, hm⟩
 ·clear F S hm; rintro a w ⟨x1, x2, v1, c1, g1, F, l1, S, h1, hm⟩
  refine wp_seq ?_
  refine wp_quiet mo (by kernel_rfl) S ?_
  refine wq_ev (wn rfl) (ev_move rfl) F rfl rfl ?_; clear F a; intro a F
  refine wq_ev (wn rfl) (ev_nil rfl) F rfl rfl ?_; clear F a; intro a F
  refine wq_ev (wn rfl) (ev_fieldAddr' tu133 tf133_0 (z := 0) ts23 rfl ⟨_, rfl⟩ rfl) F rfl rfl ?_; clear F a; intro a F
  refine wq_ev (wn rfl) (ev_load1 tu23 rfl rfl (box_ptr (cells := [v1]) 0 rfl 0 rfl (lb rfl))) F rfl rfl ?_; clear F a; intro a F
  refine wq_ev (wn rfl) (ev_move rfl) F rfl rfl ?_; clear F a; intro a F
  refine wq_ev (wn rfl) (ev_nil rfl) F rfl rfl ?_; clear F a; intro a F
  refine wq_ev (wn rfl) (ev_fieldAddr' tu133 tf133_0 (z := 0) ts23 rfl ⟨_, rfl⟩ rfl) F rfl rfl ?_; clear F a; intro a F
  refine wq_ev (wn rfl) (ev_load1 tu23 rfl rfl (box_ptr (cells := [v1]) 0 rfl 0 rfl (lb rfl))) F rfl rfl ?_; clear F a; intro a F
  refine wq_ev (wn rfl) (ev_lenOwN h1 rfl tu23) F rfl rfl ?_; clear F a; intro a F
  obtain ⟨z1, hz1, hm⟩ := bind_some hm
  refine wq_ev (wn rfl) (ev_int rfl rfl (bo_sub hz1)) F rfl rfl ?_; clear F a; intro a F
  obtain ⟨y1, hy1, hm⟩ := bind_some hm
  refine wq_ev (wn rfl) (ev_idxN h1 hy1 tu23 ts69 rfl rfl) F rfl rfl ?_; clear F a; intro a F
  refine wq_ev (wn rfl) (ev_assign rfl) F rfl rfl ?_; clear F a; intro a F
  refine wq_nil ?_; clear S; intro w S
  refine then_n ?_
  refine wp_ret ?_
  refine post_r _ F rfl (ar_cons (resT rfl) ar_nil) ?_
  refine ⟨_, rfl, ?_⟩; clear F a; intro a F
  replace F : Fr 24 a [(6, elemP v1 z1 3), (0, bp bc_ 0), (1, .string line)] := F
  refine wE (ev_assign rfl) F S rfl fun a F=>?_
  refine wpList_nil ?_
  refine then_n ?_
  refine wp_seq ?_
  refine wp_region_lit ?_
  refine wE (ev_move rfl) F S rfl fun a F=>?_
  refine wE (ev_move rfl) F S rfl fun a F=>?_
  refine wE (ev_nilP (elemN_ptr h1 hy1) rfl) F S rfl fun a F=>?_
  refine wE (ev_fieldAddr' tu69 tf69_1 (z := 0) ts22 rfl (elemN_ptr h1 hy1) rfl) F S rfl fun a F=>?_
  replace S : St g1 [c1, [bx bc_ #[v1, .i6 c_.at_, .bool x2] 133]] fr w := ((S.frontC 0 rfl).frontC 2 rfl)
  obtain ⟨cs1, ca1, cr1, ci1, hH1, hR1, hP1⟩ := OwnN.hole h1 hy1
  replace S : St g1 [ca1, cr1, ci1, [bx bc_ #[v1, .i6 c_.at_, .bool x2] 133]] fr w := St.split3 hP1 S
  obtain ⟨v2, c2, v3, c3, rfl, rfl, h2, h3⟩ := orep_Hunk hR1
  replace S : St g1 [ca1, cr1, c2, c3, [bx bc_ #[v1, .i6 c_.at_, .bool x2] 133]] fr w := S.of_eq (by simp only [fl, List.append_assoc, List.append_nil, List.nil_append])
  refine wE (ev_load1 tu22 rfl rfl (fun w s => fieldP (cells := [v2]) 1 ((HoleN.ptr hH1 _ _ 0 rfl) w s) rfl (lb rfl))) F S rfl fun a F=>?_
  refine wE (ev_move rfl) F S rfl fun a F=>?_
  refine wl_lit (l := ([line] : List ByteArray)) (vs := [.string line]) (parts := [(0, .tmp 12)]) (wn rfl) rfl rfl rfl tu22 te9 (sz_cons rfl sz_nil) rfl (Cat.cons (show Rep.rep _ line _ from rfl) (Cat.nil _)) (coa_cons rfl coa_nil) rfl F S rfl rfl ?_; clear F a S
  rintro v4 c4 a w h4 F S
  obtain ⟨cs2, hk1, hr1⟩ := OwnS.reads h4
  obtain ⟨y2, hy2, hm⟩ := bind_some hm
  refine wl_append (wn rfl) rfl tu22 tu22 te9 (by decide) (by decide) F S rfl rfl (k := 3) rfl h2 hk1 rfl (hr1 _ _ _ 0 rfl S) hy2 rfl rfl ?_; clear F a S
  rintro v5 c5 a w h5 S F; replace S : St g1 [c4, ca1, cr1, c5, c3, [bx bc_ #[v1, .i6 c_.at_, .bool x2] 133]] fr w := S
  refine wE (ev_nilP (elemH_ptr hH1) rfl) F S rfl fun a F=>?_
  refine wE (ev_fieldAddr' tu69 tf69_1 (z := 0) ts22 rfl (elemH_ptr hH1) rfl) F S rfl fun a F=>?_
  refine wl_storeH 1 (wn rfl) rfl F S hH1 rfl rfl rfl (us := [v5]) (OwnS.cl h5) ts22 (one_cons (OwnS.one h5) one_nil) (k := 1) rfl (lb rfl) (cs' := [.i6 y1.At, v5, v3]) rfl rfl ?_; clear S
  rintro ca2 w hH2 S; replace S : St g1 [c4, ca2, cr1, c5, c3, [bx bc_ #[v1, .i6 c_.at_, .bool x2] 133]] fr w := S
  refine wpList_nil ?_
  refine then_n ?_
  refine wp_region_lit ?_
  refine wE (ev_move rfl) F S rfl fun a F=>?_
  refine wE (ev_nil rfl) F S rfl fun a F=>?_
  refine wE (ev_fieldAddr' tu133 tf133_1 (z := 0) ts3 rfl ⟨_, rfl⟩ rfl) F S rfl fun a F=>?_
  refine wE (ev_load1 tu3 rfl rfl (box_ptr (cells := [.i6 c_.at_]) 5 rfl 1 rfl (lb rfl))) F S rfl fun a F=>?_
  obtain ⟨z2, hz2, hm⟩ := bind_some hm
  refine wE (ev_int rfl rfl (bo_add hz2)) F S rfl fun a F=>?_
  refine wE (ev_nil rfl) F S rfl fun a F=>?_
  refine wE (ev_fieldAddr' tu133 tf133_1 (z := 0) ts3 rfl ⟨_, rfl⟩ rfl) F S rfl fun a F=>?_
  refine wl_storeC (wn rfl) rfl F S rfl rfl (vs := [.i6 z2]) rfl ts3 (one_cons rfl one_nil) (k := 5) rfl (lb rfl) (c' := #[v1, .i6 z2, .bool x2]) rfl rfl ?_; clear S; intro w S
  refine wpList_nil ?_
  replace S : St g1 [ca2, cr1, c5, c3, c4, [bx bc_ #[v1, .i6 z2, .bool x2] 133]] fr w := ((((((S.frontC 5 rfl).frontC 1 rfl).frontC 6 rfl).frontC 6 rfl).frontC 6 rfl).frontC 6 rfl)
  obtain ⟨y3, hy3, hm⟩ := bind_some hm
  have h6 := HoleN.shut hH2 (orep_Hunk_mk (x := ({ At := y1.At, Old := y2, New := y1.New } : Hunk)) h5 h3); replace h6 : OwnN g1 y3 v1 (ca2 ++ (cr1 ++ (c5 ++ (c3 ++ [])))) := sinj hy3 ▸ h6
  replace S : St g1 [(ca2 ++ (cr1 ++ (c5 ++ (c3 ++ [])))), c4, [bx bc_ #[v1, .i6 z2, .bool x2] 133]] fr w := S.of_eq (by simp only [fl, List.append_assoc, List.append_nil, List.nil_append])
  generalize (ca2 ++ (cr1 ++ (c5 ++ (c3 ++ [])))) = c6 at S h6
  replace F := F.sub (e' := [(23, bp bc_ 1), (22, bp bc_ 0), (21, .i6 z2), (20, .i6 c_.at_), (19, bp bc_ 1), (18, bp bc_ 0), (17, bp bc_ 0), (16, addP (elemP v1 z1 3) 1), (15, elemP v1 z1 3), (13, v4), (12, .string line), (11, v2), (10, addP (elemP v1 z1 3) 1), (9, elemP v1 z1 3), (8, elemP v1 z1 3), (7, elemP v1 z1 3), (4, elemP v1 z1 3), (6, elemP v1 z1 3), (0, bp bc_ 0), (1, .string line)]) ⟨rfl, rfl, rfl, rfl, rfl, rfl, rfl, rfl, rfl, rfl, rfl, rfl, rfl, rfl, rfl, rfl, rfl, rfl, rfl, rfl, trivial⟩
  obtain rfl := sinj hm
  refine post_n _ F rfl ar_nil ?_
  replace S : St g1 [[bx bc_ #[v1, .i6 z2, .bool x2] 133], c6] fr w := St.tail [[bx bc_ #[v1, .i6 z2, .bool x2] 133], c6] _ ((S.frontC 0 rfl).frontC 3 rfl)
  exact ⟨_, rfl, g1, v1, c6, l1, S, h6, rfl⟩

theorem diff_Collector__Insert_ok {g : Gh} {fr : Hl} {w : World} {r : Collector_diff} (bc_ : Nat) (c_ : Collector_diff) (vc_1 : Value) (cc_1 : Hl) (hc_1 : OwnN g c_.hunks vc_1 cc_1) (line : ByteArray) (S : St g [[bx bc_ #[vc_1, .i6 c_.at_, .bool c_.open_] 133], cc_1] fr w) (hm : diff_Collector__Insert c_ line = some r) :
  Calls Tryd.prog 106 [bp bc_ 0, .string line].toArray w (fun en w' => ∃ v, en = .returned v ∧ ∃ (g' : Gh) (v1 : Value) (c1 : Hl), Le g g' ∧ St g' [[bx bc_ #[v1, .i6 r.at_, .bool r.open_] 133], c1] fr w' ∧ OwnN g' r.hunks v1 c1 ∧ .tuple #[] = v) := by
 unfold diff_Collector__Insert at hm
 refine calls_enter (fn := Tryd.f106) Tryd.func106 rfl Tryd.ntmps106 (lb rfl) ?_
 intro a F
 replace F : Fr 17 a [(0, bp bc_ 0), (1, .string line)] := F
 refine wp_seq ?_
 refine wp_region_lit ?_
 refine wE (ev_move rfl) F S rfl fun a F=>?_
 replace F := F.sub (e' := [(5, bp bc_ 0), (0, bp bc_ 0), (1, .string line)]) ⟨rfl, rfl, rfl, trivial⟩
 refine wl_callK (wn rfl) rfl (xs := [.tmp 5]) (vs := [bp bc_ 0]) (cap := []) (e' := [(0, bp bc_ 0), (1, .string line)]) ⟨rfl, rfl, trivial⟩ F rfl rfl tc122 rfl rfl (calls_enter (fn := Tryd.f122) Tryd.func122 rfl Tryd.ntmps122 (lb rfl) ?_); clear F a; intro a F
 replace F : Fr 36 a [(0, bp bc_ 0)] := F
 refine wp_seq ?_
 refine wp_region_lit ?_
 refine wE (ev_assign rfl) F S rfl fun a F=>?_
 refine wpList_nil ?_
 refine then_n ?_
 refine wp_cut (fun a w => ∃ (x1 : List Hunk) (x2 : Bool) (v1 : Value) (c1 : Hl) (g1 : Gh), Fr 36 a [(0, bp bc_ 0)] ∧ Le g g1 ∧ St g1 [[bx bc_ #[v1, .i6 c_.at_, .bool x2] 133], c1] fr w ∧ OwnN g1 x1 v1 c1 ∧ diff_Collector__Insert.j1 c_ line x1 x2 = some r) ?_ ?_
 ·refine wp_seq ?_
  refine wp_region_lit ?_
  refine wE (ev_move rfl) F S rfl fun a F=>?_
  refine wE (ev_nil rfl) F S rfl fun a F=>?_
  refine wE (ev_fieldAddr' tu133 tf133_2 (z := 0) ts4 rfl ⟨_, rfl⟩ rfl) F S rfl fun a F=>?_
  refine wE (ev_load1 tu4 rfl rfl (box_ptr (cells := [.bool c_.open_]) 0 rfl 2 rfl (lb rfl))) F S rfl fun a F=>?_
  refine wE (ev_not rfl) F S rfl fun a F=>?_
  refine wpList_nil ?_
  refine then_n ?_
  obtain ⟨hc1, hm⟩ | ⟨hc1, hm⟩ := ite_or hm
  ·refine wp_condT F rfl hc1 ?_
   refine wp_dv [] mo S ?_; clear S; intro ok1 w S
   refine dv_et ok1 0 rfl (ev_move rfl) F rfl fun a F=>?_
   refine dv_et ok1 1 rfl (ev_move rfl) F rfl fun a F=>?_
   refine dv_et ok1 2 rfl (ev_move rfl) F rfl fun a F=>?_
   refine dv_et ok1 3 rfl (ev_nil rfl) F rfl fun a F=>?_
   refine dv_et ok1 4 rfl (ev_fieldAddr' tu133 tf133_0 (z := 0) ts23 rfl ⟨_, rfl⟩ rfl) F rfl fun a F=>?_
   refine dv_ev ok1 5 rfl (ev_load1 tu23 rfl rfl (box_ptr (cells := [vc_1]) 0 rfl 0 rfl (lb rfl))) F S rfl fun a F=>?_
   refine dv_et ok1 6 rfl (ev_move rfl) F rfl fun a F=>?_
   refine dv_et ok1 7 rfl (ev_nil rfl) F rfl fun a F=>?_
   refine dv_et ok1 8 rfl (ev_fieldAddr' tu133 tf133_1 (z := 0) ts3 rfl ⟨_, rfl⟩ rfl) F rfl fun a F=>?_
   refine dv_ev ok1 9 rfl (ev_load1 tu3 rfl rfl (box_ptr (cells := [.i6 c_.at_]) 0 rfl 1 rfl (lb rfl))) F S rfl fun a F=>?_
   refine dv_et ok1 10 rfl (ev_build (parts := [(0, .tmp 17)]) (vs := [(0, .i6 c_.at_)]) rfl (fun w => tb69_0 c_.at_ w)) F rfl fun a F=>?_
   refine dv_op ok1 11 rfl [(5, vc_1)] ?_
   replace S : St g [[], [bx bc_ #[vc_1, .i6 c_.at_, .bool c_.open_] 133], cc_1] fr w := S
   replace S : St g [[], [], [bx bc_ #[vc_1, .i6 c_.at_, .bool c_.open_] 133], cc_1] fr w := S
   replace S : St g [[], [], [bx bc_ #[vc_1, .i6 c_.at_, .bool c_.open_] 133], cc_1] fr w := ((((S.frontC 3 rfl).frontC 3 rfl).frontC 2 rfl).frontC 4 rfl)
   replace S : St g [([] ++ ([] ++ [])), [bx bc_ #[vc_1, .i6 c_.at_, .bool c_.open_] 133], cc_1] fr w := S.of_eq (by simp only [fl, List.append_assoc, List.append_nil, List.nil_append])
   refine wl_lit1N (p := ({ At := c_.at_, Old := [], New := [] } : Hunk)) (wn rfl) rfl rfl tu23 te69 rfl rfl rfl (orep_Hunk_mk (x := ({ At := c_.at_, Old := [], New := [] } : Hunk)) (OwnS.nil _) (OwnS.nil _)) F S rfl rfl ?_; clear F a S
   rintro v6 c7 a w h7 F S
   refine dv_nx ⟨yl_ev rfl rfl (ev_load1 tu23 rfl rfl (box_ptr (cells := [vc_1]) 1 rfl 0 rfl (lb rfl))) F S, trivial⟩ ?_
   refine dv_op ok1 12 rfl [] ?_
   replace S : St g [cc_1, c7, [bx bc_ #[vc_1, .i6 c_.at_, .bool c_.open_] 133]] fr w := (((S.frontC 1 rfl).frontC 1 rfl).frontC 4 rfl)
   obtain ⟨y4, hy4, hm⟩ := bind_some hm
   refine wl_appendN (wn rfl) rfl tu23 tu23 te69 (by decide) (by decide) F S rfl rfl hc_1 h7 hy4 rfl rfl ?_; clear F a S
   rintro v7 c8 a w h8 S F; replace S : St g [c8, [bx bc_ #[vc_1, .i6 c_.at_, .bool c_.open_] 133]] fr w := S
   refine dv_nx trivial ?_
   refine dv_et ok1 13 rfl (ev_nil rfl) F rfl fun a F=>?_
   refine dv_et ok1 14 rfl (ev_fieldAddr' tu133 tf133_0 (z := 0) ts23 rfl ⟨_, rfl⟩ rfl) F rfl fun a F=>?_
   refine dv_op ok1 15 rfl [] ?_
   refine wl_storeC (wn rfl) rfl F S rfl rfl (vs := [v7]) (OwnN.cl h8) ts23 (one_cons (OwnN.one h8) one_nil) (k := 1) rfl (lb rfl) (c' := #[v7, .i6 c_.at_, .bool c_.open_]) rfl rfl ?_; clear S; intro w S
   refine dv_nx trivial ?_
   refine dv_et ok1 16 rfl (ev_nil rfl) F rfl fun a F=>?_
   refine dv_et ok1 17 rfl (ev_fieldAddr' tu133 tf133_2 (z := 0) ts4 rfl ⟨_, rfl⟩ rfl) F rfl fun a F=>?_
   refine dv_op ok1 18 rfl [] ?_
   refine wl_storeC (wn rfl) rfl F S rfl rfl (vs := [.bool true]) rfl ts4 (one_cons rfl one_nil) (k := 1) rfl (lb rfl) (c' := #[v7, .i6 c_.at_, .bool true]) rfl rfl ?_; clear S; intro w S
   refine dv_nx trivial ?_
   refine dv_fin ok1 ?_
   refine then_n ?_
   replace S : St g [[bx bc_ #[v7, .i6 c_.at_, .bool true] 133], c8] fr w := St.tail [[bx bc_ #[v7, .i6 c_.at_, .bool true] 133], c8] _ ((S.frontC 0 rfl).frontC 2 rfl)
   exact ⟨y4, true, v7, c8, g, F.sub ⟨rfl, trivial⟩, (Le.refl _), S, h8, hm⟩
  ·refine wp_condF F rfl hc1 ?_
   refine wp_skip ?_
   refine then_n ?_
   exact ⟨c_.hunks, c_.open_, vc_1, cc_1, g, F.sub ⟨rfl, trivial⟩, (Le.refl _), S, hc_1, hm⟩
 ·clear F S hm; rintro a w ⟨x1, x2, v1, c1, g1, F, l1, S, h1, hm⟩
  refine wp_seq ?_
  refine wp_quiet mo (by kernel_rfl) S ?_
  refine wq_ev (wn rfl) (ev_move rfl) F rfl rfl ?_; clear F a; intro a F
  refine wq_ev (wn rfl) (ev_nil rfl) F rfl rfl ?_; clear F a; intro a F
  refine wq_ev (wn rfl) (ev_fieldAddr' tu133 tf133_0 (z := 0) ts23 rfl ⟨_, rfl⟩ rfl) F rfl rfl ?_; clear F a; intro a F
  refine wq_ev (wn rfl) (ev_load1 tu23 rfl rfl (box_ptr (cells := [v1]) 0 rfl 0 rfl (lb rfl))) F rfl rfl ?_; clear F a; intro a F
  refine wq_ev (wn rfl) (ev_move rfl) F rfl rfl ?_; clear F a; intro a F
  refine wq_ev (wn rfl) (ev_nil rfl) F rfl rfl ?_; clear F a; intro a F
  refine wq_ev (wn rfl) (ev_fieldAddr' tu133 tf133_0 (z := 0) ts23 rfl ⟨_, rfl⟩ rfl) F rfl rfl ?_; clear F a; intro a F
  refine wq_ev (wn rfl) (ev_load1 tu23 rfl rfl (box_ptr (cells := [v1]) 0 rfl 0 rfl (lb rfl))) F rfl rfl ?_; clear F a; intro a F
  refine wq_ev (wn rfl) (ev_lenOwN h1 rfl tu23) F rfl rfl ?_; clear F a; intro a F
  obtain ⟨z1, hz1, hm⟩ := bind_some hm
  refine wq_ev (wn rfl) (ev_int rfl rfl (bo_sub hz1)) F rfl rfl ?_; clear F a; intro a F
  obtain ⟨y1, hy1, hm⟩ := bind_some hm
  refine wq_ev (wn rfl) (ev_idxN h1 hy1 tu23 ts69 rfl rfl) F rfl rfl ?_; clear F a; intro a F
  refine wq_ev (wn rfl) (ev_assign rfl) F rfl rfl ?_; clear F a; intro a F
  refine wq_nil ?_; clear S; intro w S
  refine then_n ?_
  refine wp_ret ?_
  refine post_r _ F rfl (ar_cons (resT rfl) ar_nil) ?_
  refine ⟨_, rfl, ?_⟩; clear F a; intro a F
  replace F : Fr 17 a [(6, elemP v1 z1 3), (0, bp bc_ 0), (1, .string line)] := F
  refine wE (ev_assign rfl) F S rfl fun a F=>?_
  refine wpList_nil ?_
  refine then_n ?_
  refine wp_region_lit ?_
  refine wE (ev_move rfl) F S rfl fun a F=>?_
  refine wE (ev_move rfl) F S rfl fun a F=>?_
  refine wE (ev_nilP (elemN_ptr h1 hy1) rfl) F S rfl fun a F=>?_
  refine wE (ev_fieldAddr' tu69 tf69_2 (z := 0) ts22 rfl (elemN_ptr h1 hy1) rfl) F S rfl fun a F=>?_
  replace S : St g1 [c1, [bx bc_ #[v1, .i6 c_.at_, .bool x2] 133]] fr w := ((S.frontC 0 rfl).frontC 2 rfl)
  obtain ⟨cs1, ca1, cr1, ci1, hH1, hR1, hP1⟩ := OwnN.hole h1 hy1
  replace S : St g1 [ca1, cr1, ci1, [bx bc_ #[v1, .i6 c_.at_, .bool x2] 133]] fr w := St.split3 hP1 S
  obtain ⟨v2, c2, v3, c3, rfl, rfl, h2, h3⟩ := orep_Hunk hR1
  replace S : St g1 [ca1, cr1, c2, c3, [bx bc_ #[v1, .i6 c_.at_, .bool x2] 133]] fr w := S.of_eq (by simp only [fl, List.append_assoc, List.append_nil, List.nil_append])
  refine wE (ev_load1 tu22 rfl rfl (fun w s => fieldP (cells := [v3]) 2 ((HoleN.ptr hH1 _ _ 0 rfl) w s) rfl (lb rfl))) F S rfl fun a F=>?_
  refine wE (ev_move rfl) F S rfl fun a F=>?_
  refine wl_lit (l := ([line] : List ByteArray)) (vs := [.string line]) (parts := [(0, .tmp 12)]) (wn rfl) rfl rfl rfl tu22 te9 (sz_cons rfl sz_nil) rfl (Cat.cons (show Rep.rep _ line _ from rfl) (Cat.nil _)) (coa_cons rfl coa_nil) rfl F S rfl rfl ?_; clear F a S
  rintro v4 c4 a w h4 F S
  obtain ⟨cs2, hk1, hr1⟩ := OwnS.reads h4
  obtain ⟨y2, hy2, hm⟩ := bind_some hm
  refine wl_append (wn rfl) rfl tu22 tu22 te9 (by decide) (by decide) F S rfl rfl (k := 4) rfl h3 hk1 rfl (hr1 _ _ _ 0 rfl S) hy2 rfl rfl ?_; clear F a S
  rintro v5 c5 a w h5 S F; replace S : St g1 [c4, ca1, cr1, c2, c5, [bx bc_ #[v1, .i6 c_.at_, .bool x2] 133]] fr w := S
  refine wE (ev_nilP (elemH_ptr hH1) rfl) F S rfl fun a F=>?_
  refine wE (ev_fieldAddr' tu69 tf69_2 (z := 0) ts22 rfl (elemH_ptr hH1) rfl) F S rfl fun a F=>?_
  refine wl_storeH 2 (wn rfl) rfl F S hH1 rfl rfl rfl (us := [v5]) (OwnS.cl h5) ts22 (one_cons (OwnS.one h5) one_nil) (k := 1) rfl (lb rfl) (cs' := [.i6 y1.At, v2, v5]) rfl rfl ?_; clear S
  rintro ca2 w hH2 S; replace S : St g1 [c4, ca2, cr1, c2, c5, [bx bc_ #[v1, .i6 c_.at_, .bool x2] 133]] fr w := S
  refine wpList_nil ?_
  replace S : St g1 [ca2, cr1, c2, c5, c4, [bx bc_ #[v1, .i6 c_.at_, .bool x2] 133]] fr w := ((((((S.frontC 5 rfl).frontC 1 rfl).frontC 6 rfl).frontC 6 rfl).frontC 6 rfl).frontC 6 rfl)
  obtain ⟨y3, hy3, hm⟩ := bind_some hm
  have h6 := HoleN.shut hH2 (orep_Hunk_mk (x := ({ At := y1.At, Old := y1.Old, New := y2 } : Hunk)) h2 h5); replace h6 : OwnN g1 y3 v1 (ca2 ++ (cr1 ++ (c2 ++ (c5 ++ [])))) := sinj hy3 ▸ h6
  replace S : St g1 [(ca2 ++ (cr1 ++ (c2 ++ (c5 ++ [])))), c4, [bx bc_ #[v1, .i6 c_.at_, .bool x2] 133]] fr w := S.of_eq (by simp only [fl, List.append_assoc, List.append_nil, List.nil_append])
  generalize (ca2 ++ (cr1 ++ (c2 ++ (c5 ++ [])))) = c6 at S h6
  replace F := F.sub (e' := [(16, addP (elemP v1 z1 3) 2), (15, elemP v1 z1 3), (13, v4), (12, .string line), (11, v3), (10, addP (elemP v1 z1 3) 2), (9, elemP v1 z1 3), (8, elemP v1 z1 3), (7, elemP v1 z1 3), (4, elemP v1 z1 3), (6, elemP v1 z1 3), (0, bp bc_ 0), (1, .string line)]) ⟨rfl, rfl, rfl, rfl, rfl, rfl, rfl, rfl, rfl, rfl, rfl, rfl, rfl, trivial⟩
  obtain rfl := sinj hm
  refine post_n _ F rfl ar_nil ?_
  replace S : St g1 [[bx bc_ #[v1, .i6 c_.at_, .bool x2] 133], c6] fr w := St.tail [[bx bc_ #[v1, .i6 c_.at_, .bool x2] 133], c6] _ ((S.frontC 0 rfl).frontC 3 rfl)
  exact ⟨_, rfl, g1, v1, c6, l1, S, h6, rfl⟩

theorem diff_Script_ok {g : Gh} {fr : Hl} {w : World} {r : Patch × Fault} (a_ : (List ByteArray)) (va_1 : Value) (ha_1 : RepSl g a_ va_1) (b_ : (List ByteArray)) (vb_1 : Value) (hb_1 : RepSl g b_ vb_1) (S : St g [] fr w) (hm : diff_Script a_ b_ = some r) :
  Calls Tryd.prog 64 [va_1, vb_1].toArray w (fun en w' => ∃ v, en = .returned v ∧ ∃ (g' : Gh) (v1 : Value), Le g g' ∧ St g' [] fr w' ∧ RepSl g' r.1.Hunks v1 ∧ .tuple #[.agg #[v1], .agg #[.i6 r.2.Code, .i6 r.2.Index]] = v) := by
 unfold diff_Script at hm
 refine calls_enter (fn := Tryd.f64) Tryd.func64 rfl Tryd.ntmps64 (lb rfl) ?_
 intro a F
 replace F : Fr 55 a [(0, va_1), (1, vb_1)] := F
 refine wp_seq ?_
 refine wp_region_lit ?_
 refine wl_alloc (wn rfl) rfl tz25 (cs := [nilS]) rfl F S rfl rfl ?_; clear F a S; rintro b1 a w F S
 refine wl_alloc (wn rfl) rfl tz29 (cs := [.i6 0, .i6 0]) rfl F S rfl rfl ?_; clear F a S; rintro b2 a w F S
 refine wpList_nil ?_
 refine then_n ?_
 refine wp_seq ?_
 refine wp_seq ?_
 refine wp_region_lit ?_
 refine wE (ev_move rfl) F S rfl fun a F=>?_
 refine wE (ev_move rfl) F S rfl fun a F=>?_
 obtain ⟨y1, hy1, hm⟩ := bind_some hm
 refine wl_call0 (wn rfl) rfl F rfl (lines_Both_ok (fr := (fl [[bx b2 #[.i6 0, .i6 0] 29], [bx b1 #[nilS] 25]] fr)) a_ va_1 ha_1 b_ vb_1 hb_1 S hy1) rfl tc45 rfl rfl ?_; clear F a S
 rintro _ a w ⟨g1, l1, S, rfl⟩ F; replace S : St g1 [[bx b2 #[.i6 0, .i6 0] 29], [bx b1 #[nilS] 25]] fr w := S
 refine wl_alloc (wn rfl) rfl tz29 (cs := [.i6 0, .i6 0]) rfl F S rfl rfl ?_; clear F a S; rintro b3 a w F S
 refine wl_storeC (wn rfl) rfl F S rfl rfl (vs := [.i6 y1.Code, .i6 y1.Index]) rfl ts29 (one_cons rfl (one_cons rfl one_nil)) (k := 0) rfl (lb rfl) (c' := #[.i6 y1.Code, .i6 y1.Index]) rfl rfl ?_; clear S; intro w S
 refine wpList_nil ?_
 refine then_n ?_
 refine wp_seq ?_
 refine wp_region_lit ?_
 refine wE (ev_loadA tu29 rfl (cs := [.i6 y1.Code, .i6 y1.Index]) ts29 rfl (box_ptr (cells := [.i6 y1.Code, .i6 y1.Index]) 0 rfl 0 rfl (lb rfl))) F S rfl fun a F=>?_
 refine wE (ev_build (parts := []) (vs := []) rfl (fun w => tb29_  w)) F S rfl fun a F=>?_
 refine wE (ev_neS tu29 tqa29 tqb29 tqc29 (xs := [.i6 y1.Code, .i6 y1.Index]) (ys := [.i6 0, .i6 0]) rfl rfl ⟨_, _, rfl, by decide, ⟨_, _, rfl, rfl, leaf_int tu3⟩, ⟨_, _, rfl, by decide, ⟨_, _, rfl, rfl, leaf_int tu3⟩, rfl⟩⟩) F S rfl fun a F=>?_
 refine wpList_nil ?_
 refine then_n ?_
 obtain ⟨hc1, hm⟩ | ⟨hc1, hm⟩ := ite_or hm
 ·refine wp_condT F rfl hc1 ?_
  refine wp_seq ?_
  refine wp_dv [] mo S ?_; clear S; intro ok1 w S
  refine dv_et ok1 0 rfl (ev_build (parts := []) (vs := []) rfl (fun w => tb25_  w)) F rfl fun a F=>?_
  refine dv_ev ok1 1 rfl (ev_loadA tu29 rfl (cs := [.i6 y1.Code, .i6 y1.Index]) ts29 rfl (box_ptr (cells := [.i6 y1.Code, .i6 y1.Index]) 0 rfl 0 rfl (lb rfl))) F S rfl fun a F=>?_
  refine dv_op ok1 2 rfl [(1, .agg #[.i6 y1.Code, .i6 y1.Index])] ?_
  refine wl_storeC (wn rfl) rfl F S rfl rfl (vs := [nilS]) rfl ts25 (one_cons rfl one_nil) (k := 2) rfl (lb rfl) (c' := #[nilS]) rfl rfl ?_; clear S; intro w S
  refine dv_nx ⟨yl_ev rfl rfl (ev_loadA tu29 rfl (cs := [.i6 y1.Code, .i6 y1.Index]) ts29 rfl (box_ptr (cells := [.i6 y1.Code, .i6 y1.Index]) 0 rfl 0 rfl (lb rfl))) F S, trivial⟩ ?_
  refine dv_op ok1 3 rfl [] ?_
  refine wl_storeC (wn rfl) rfl F S rfl rfl (vs := [.i6 y1.Code, .i6 y1.Index]) rfl ts29 (one_cons rfl (one_cons rfl one_nil)) (k := 1) rfl (lb rfl) (c' := #[.i6 y1.Code, .i6 y1.Index]) rfl rfl ?_; clear S; intro w S
  refine dv_nx trivial ?_
  refine dv_fin ok1 ?_
  refine then_n ?_
  refine wp_ret ?_
  refine then_r ?_
  obtain rfl := sinj hm
  refine post_r _ F rfl (ar_cons (resA rfl tu25 rfl (box_ptr (cells := [nilS]) 2 rfl 0 rfl (lb rfl) w S) ts25) (ar_cons (resA rfl tu29 rfl (box_ptr (cells := [.i6 y1.Code, .i6 y1.Index]) 1 rfl 0 rfl (lb rfl) w S) ts29) ar_nil)) ?_
  replace S : St g1 [] fr w := St.tail [] _ S
  exact ⟨_, rfl, g1, (nilS), l1, S, (RepSl.nil _), rfl⟩
 ·refine wp_condF F rfl hc1 ?_
  refine wp_skip ?_
  refine then_n ?_
  refine wp_seq ?_
  refine wp_region_lit ?_
  refine wl_alloc (wn rfl) rfl tz133 (cs := [nilS, .i6 0, .bool false]) rfl F S rfl rfl ?_; clear F a S; rintro b4 a w F S
  refine wpList_nil ?_
  refine then_n ?_
  refine wp_seq ?_
  refine wp_region_lit ?_
  refine wE (ev_assign rfl) F S rfl fun a F=>?_
  refine wE (ev_assign rfl) F S rfl fun a F=>?_
  refine wpList_nil ?_
  refine then_n ?_
  refine wp_cut (fun a w => ∃ (x1 : List Hunk) (x2 : Int) (x3 : Bool) (v1 : Value) (c1 : Hl) (g2 : Gh), Fr 55 a [(7, bp b4 0), (5, bp b2 0), (4, bp b1 0)] ∧ Le g1 g2 ∧ St g2 [[bx b4 #[v1, .i6 x2, .bool x3] 133], [bx b2 #[.i6 0, .i6 0] 29], [bx b1 #[nilS] 25], c1] fr w ∧ OwnN g2 x1 v1 c1 ∧ diff_Script.j1 x1 x2 x3 = some r) ?_ ?_
  ·refine wp_seq ?_
   refine wp_region_lit ?_
   refine wE (ev_move rfl) F S rfl fun a F=>?_
   refine wE (ev_move rfl) F S rfl fun a F=>?_
   obtain ⟨y2, hy2, hm⟩ := bind_some hm
   refine wl_call0 (wn rfl) rfl F rfl (diff_Align_ok (fr := (fl [[bx b4 #[nilS, .i6 0, .bool false] 133], [bx b3 #[.i6 y1.Code, .i6 y1.Index] 29], [bx b2 #[.i6 0, .i6 0] 29], [bx b1 #[nilS] 25]] fr)) a_ va_1 (ha_1.mono l1) b_ vb_1 (hb_1.mono l1) S hy2) rfl tc46 rfl rfl ?_; clear F a S
   rintro _ a w ⟨g4, v2, c2, l4, S, h3, rfl⟩ F; replace S : St g4 [c2, [bx b4 #[nilS, .i6 0, .bool false] 133], [bx b3 #[.i6 y1.Code, .i6 y1.Index] 29], [bx b2 #[.i6 0, .i6 0] 29], [bx b1 #[nilS] 25]] fr w := S
   refine wE (ev_lenOw h3 rfl tu75) F S rfl fun a F=>?_
   refine wE (ev_move rfl) F S rfl fun a F=>?_
   refine wpList_nil ?_
   refine then_n ?_
   refine wp_block ?_
   obtain ⟨r1, hr1, hm⟩ := bind_some hm
   have hmo1 := hm; clear hm
   refine wp_iter (σ := Int × Int × Int × (List Hunk) × Int × Bool) (ρ := (List Hunk) × Int × Bool) (m := fun s => diff_Script.l1 a_ b_ y2 s.1 s.2.1 s.2.2.1 s.2.2.2.1 s.2.2.2.2.1 s.2.2.2.2.2) (I := fun s a w => match s with | (x4, x5, x6, x7, x8, x9) => ∃ (v3 : Value) (c3 : Hl) (g5 : Gh), Fr 55 a [(24, .i6 x4), (23, .i6 (y2.length : Int)), (22, v2), (9, .i6 x5), (8, .i6 x6), (7, bp b4 0), (5, bp b2 0), (4, bp b1 0), (0, va_1), (1, vb_1)] ∧ Le g4 g5 ∧ St g5 [c2, [bx b4 #[v3, .i6 x8, .bool x9] 133], [bx b2 #[.i6 0, .i6 0] 29], [bx b1 #[nilS] 25], c3] fr w ∧ OwnN g5 x7 v3 c3) hr1 ?_ ?_
   ·dsimp only
    replace S : St g4 [[], c2, [bx b4 #[nilS, .i6 0, .bool false] 133], [bx b3 #[.i6 y1.Code, .i6 y1.Index] 29], [bx b2 #[.i6 0, .i6 0] 29], [bx b1 #[nilS] 25]] fr w := S
    replace S : St g4 [c2, [bx b4 #[nilS, .i6 0, .bool false] 133], [bx b2 #[.i6 0, .i6 0] 29], [bx b1 #[nilS] 25], []] fr w := St.tail [c2, [bx b4 #[nilS, .i6 0, .bool false] 133], [bx b2 #[.i6 0, .i6 0] 29], [bx b1 #[nilS] 25], []] _ (((((S.frontC 0 rfl).frontC 6 rfl).frontC 6 rfl).frontC 5 rfl).frontC 5 rfl)
    exact ⟨(nilS), [], g4, F.sub ⟨rfl, rfl, rfl, rfl, rfl, rfl, rfl, rfl, rfl, rfl, trivial⟩, (Le.refl _), S, (OwnN.nil _)⟩
   ·clear F S; rintro ⟨x4, x5, x6, x7, x8, x9⟩ a w x10 ⟨v3, c3, g5, F, l5, S, h4⟩ hx1 hfin1
    have hm : diff_Script.l1 a_ b_ y2 x4 x5 x6 x7 x8 x9 = some x10 := hx1; clear hx1
    unfold diff_Script.l1 at hm
    refine wp_seq ?_
    refine wp_region_lit ?_
    refine wE (ev_int rfl rfl (bo_lss _ _ _ _)) F S rfl fun a F=>?_
    refine wpList_nil ?_
    refine then_n ?_
    refine wp_seq ?_
    obtain ⟨hc2, hm⟩ | ⟨hc2, hm⟩ := ite_or hm
    ·refine wp_condT F rfl hc2 ?_
     refine wp_skip ?_
     refine then_n ?_
     refine wp_cut (fun a w => ∃ (x11 : Int) (x12 : Int) (x13 : List Hunk) (x14 : Int) (x15 : Bool) (v4 : Value) (c4 : Hl) (g6 : Gh), Fr 55 a [(9, .i6 x11), (8, .i6 x12), (24, .i6 x4), (23, .i6 (y2.length : Int)), (22, v2), (7, bp b4 0), (5, bp b2 0), (4, bp b1 0), (0, va_1), (1, vb_1)] ∧ Le g5 g6 ∧ St g6 [c2, [bx b4 #[v4, .i6 x14, .bool x15] 133], [bx b2 #[.i6 0, .i6 0] 29], [bx b1 #[nilS] 25], c4] fr w ∧ OwnN g6 x13 v4 c4 ∧ diff_Script.j2 x4 x11 x12 x13 x14 x15 = some x10) ?_ ?_
     ·refine wp_block ?_
      refine wp_seq ?_
      refine wp_region_lit ?_
      obtain ⟨y3, hy3, hm⟩ := bind_some hm
      refine wE (ev_idxO (h3.mono l5) hy3 tu75 ts3 rfl rfl) F S rfl fun a F=>?_
      obtain ⟨cs1, hr2, hq1⟩ := elemO (h3.mono l5) hy3
      obtain rfl := rep_int hr2
      refine wE (ev_load1 tu3 rfl rfl (hq1 _ _ 0 rfl)) F S rfl fun a F=>?_
      refine wE (ev_assign rfl) F S rfl fun a F=>?_
      refine wpList_nil ?_
      refine then_n ?_
      refine wp_seq ?_
      refine wp_region_lit ?_
      refine wE (ev_move rfl) F S rfl fun a F=>?_
      refine wpList_nil ?_
      refine then_n ?_
      refine wp_block ?_
      refine wp_seq ?_
      refine wp_region_lit ?_
      refine wE (ev_int rfl rfl (bo_eql _ _ _ _)) F S rfl fun a F=>?_
      refine wE (ev_assign rfl) F S rfl fun a F=>?_
      refine wpList_nil ?_
      refine then_n ?_
      obtain ⟨hc3, hm⟩ | ⟨hc3, hm⟩ := ite_or hm
      ·refine wp_condT F rfl hc3 ?_
       refine wp_seq ?_
       refine wp_region_lit ?_
       replace S : St g5 [[bx b4 #[v3, .i6 x8, .bool x9] 133], c3, c2, [bx b2 #[.i6 0, .i6 0] 29], [bx b1 #[nilS] 25]] fr w := (((((S.frontC 3 rfl).frontC 3 rfl).frontC 2 rfl).frontC 7 rfl).frontC 5 rfl)
       obtain ⟨y4, hy4, hm⟩ := bind_some hm
       refine wl_call0 (wn rfl) rfl F rfl (diff_Collector__Keep_ok (fr := (fl [c2, [bx b2 #[.i6 0, .i6 0] 29], [bx b1 #[nilS] 25]] fr)) b4 ({ hunks := x7, at_ := x8, open_ := x9 } : Collector_diff) v3 c3 h4 1 S hy4) rfl tc104 rfl rfl ?_; clear F a S
       rintro _ a w ⟨g7, v5, c5, l7, S, h6, rfl⟩ F; replace S : St g7 [[bx b4 #[v5, .i6 y4.at_, .bool y4.open_] 133], c5, c2, [bx b2 #[.i6 0, .i6 0] 29], [bx b1 #[nilS] 25]] fr w := S
       refine wpList_nil ?_
       refine then_n ?_
       refine wp_region_lit ?_
       refine wE (ev_move rfl) F S rfl fun a F=>?_
       obtain ⟨z2, hz2, hm⟩ := bind_some hm
       refine wE (ev_int rfl rfl (bo_add hz2)) F S rfl fun a F=>?_
       refine wE (ev_move rfl) F S rfl fun a F=>?_
       obtain ⟨z3, hz3, hm⟩ := bind_some hm
       refine wE (ev_int rfl rfl (bo_add hz3)) F S rfl fun a F=>?_
       refine wE (ev_assign rfl) F S rfl fun a F=>?_
       refine wE (ev_assign rfl) F S rfl fun a F=>?_
       refine wpList_nil ?_
       refine inb_n ?_
       refine inb_n ?_
       refine then_n ?_
       replace S : St g7 [c2, [bx b4 #[v5, .i6 y4.at_, .bool y4.open_] 133], [bx b2 #[.i6 0, .i6 0] 29], [bx b1 #[nilS] 25], c5] fr w := St.tail [c2, [bx b4 #[v5, .i6 y4.at_, .bool y4.open_] 133], [bx b2 #[.i6 0, .i6 0] 29], [bx b1 #[nilS] 25], c5] _ (((((S.frontC 1 rfl).frontC 5 rfl).frontC 5 rfl).frontC 3 rfl).frontC 6 rfl)
       exact ⟨z3, z2, y4.hunks, y4.at_, y4.open_, v5, c5, g7, F.sub ⟨rfl, rfl, rfl, rfl, rfl, rfl, rfl, rfl, rfl, rfl, trivial⟩, l7, S, h6, hm⟩
      ·refine wp_condF F rfl hc3 ?_
       refine wp_seq ?_
       refine wp_region_lit ?_
       refine wE (ev_int rfl rfl (bo_eql _ _ _ _)) F S rfl fun a F=>?_
       refine wE (ev_assign rfl) F S rfl fun a F=>?_
       refine wpList_nil ?_
       refine then_n ?_
       obtain ⟨hc4, hm⟩ | ⟨hc4, hm⟩ := ite_or hm
       ·refine wp_condT F rfl hc4 ?_
        refine wp_seq ?_
        refine wp_region_lit ?_
        refine wE (ev_move rfl) F S rfl fun a F=>?_
        refine wE (ev_move rfl) F S rfl fun a F=>?_
        obtain ⟨y5, hy5, hm⟩ := bind_some hm
        obtain ⟨cs2, hr3, hp1⟩ := elemS (ha_1.mono ((l1.trans l4).trans l5)) hy5
        obtain rfl := rep_str hr3
        refine wE (ev_idxS (ha_1.mono ((l1.trans l4).trans l5)) hy5 tu22 ts9 rfl rfl) F S rfl fun a F=>?_
        refine wE (ev_load1 tu9 rfl rfl (ptr_mono (cks := [c2, [bx b4 #[v3, .i6 x8, .bool x9] 133], [bx b2 #[.i6 0, .i6 0] 29], [bx b1 #[nilS] 25], c3]) (fr := fr) hp1 (Le.refl _))) F S rfl fun a F=>?_
        replace S : St g5 [[bx b4 #[v3, .i6 x8, .bool x9] 133], c3, c2, [bx b2 #[.i6 0, .i6 0] 29], [bx b1 #[nilS] 25]] fr w := (((((S.frontC 3 rfl).frontC 3 rfl).frontC 2 rfl).frontC 7 rfl).frontC 5 rfl)
        obtain ⟨y6, hy6, hm⟩ := bind_some hm
        refine wl_call0 (wn rfl) rfl F rfl (diff_Collector__Delete_ok (fr := (fl [c2, [bx b2 #[.i6 0, .i6 0] 29], [bx b1 #[nilS] 25]] fr)) b4 ({ hunks := x7, at_ := x8, open_ := x9 } : Collector_diff) v3 c3 h4 y5 S hy6) rfl tc105 rfl rfl ?_; clear F a S
        rintro _ a w ⟨g8, v6, c6, l8, S, h7, rfl⟩ F; replace S : St g8 [[bx b4 #[v6, .i6 y6.at_, .bool y6.open_] 133], c6, c2, [bx b2 #[.i6 0, .i6 0] 29], [bx b1 #[nilS] 25]] fr w := S
        refine wpList_nil ?_
        refine then_n ?_
        refine wp_region_lit ?_
        refine wE (ev_move rfl) F S rfl fun a F=>?_
        obtain ⟨z4, hz4, hm⟩ := bind_some hm
        refine wE (ev_int rfl rfl (bo_add hz4)) F S rfl fun a F=>?_
        refine wE (ev_assign rfl) F S rfl fun a F=>?_
        refine wpList_nil ?_
        refine inb_n ?_
        refine inb_n ?_
        refine then_n ?_
        replace S : St g8 [c2, [bx b4 #[v6, .i6 y6.at_, .bool y6.open_] 133], [bx b2 #[.i6 0, .i6 0] 29], [bx b1 #[nilS] 25], c6] fr w := St.tail [c2, [bx b4 #[v6, .i6 y6.at_, .bool y6.open_] 133], [bx b2 #[.i6 0, .i6 0] 29], [bx b1 #[nilS] 25], c6] _ (((((S.frontC 1 rfl).frontC 5 rfl).frontC 5 rfl).frontC 3 rfl).frontC 6 rfl)
        exact ⟨x5, z4, y6.hunks, y6.at_, y6.open_, v6, c6, g8, F.sub ⟨rfl, rfl, rfl, rfl, rfl, rfl, rfl, rfl, rfl, rfl, trivial⟩, l8, S, h7, hm⟩
       ·refine wp_condF F rfl hc4 ?_
        refine wp_seq ?_
        refine wp_region_lit ?_
        refine wE (ev_move rfl) F S rfl fun a F=>?_
        refine wE (ev_move rfl) F S rfl fun a F=>?_
        obtain ⟨y7, hy7, hm⟩ := bind_some hm
        obtain ⟨cs3, hr4, hp2⟩ := elemS (hb_1.mono ((l1.trans l4).trans l5)) hy7
        obtain rfl := rep_str hr4
        refine wE (ev_idxS (hb_1.mono ((l1.trans l4).trans l5)) hy7 tu22 ts9 rfl rfl) F S rfl fun a F=>?_
        refine wE (ev_load1 tu9 rfl rfl (ptr_mono (cks := [c2, [bx b4 #[v3, .i6 x8, .bool x9] 133], [bx b2 #[.i6 0, .i6 0] 29], [bx b1 #[nilS] 25], c3]) (fr := fr) hp2 (Le.refl _))) F S rfl fun a F=>?_
        replace S : St g5 [[bx b4 #[v3, .i6 x8, .bool x9] 133], c3, c2, [bx b2 #[.i6 0, .i6 0] 29], [bx b1 #[nilS] 25]] fr w := (((((S.frontC 3 rfl).frontC 3 rfl).frontC 2 rfl).frontC 7 rfl).frontC 5 rfl)
        obtain ⟨y8, hy8, hm⟩ := bind_some hm
        refine wl_call0 (wn rfl) rfl F rfl (diff_Collector__Insert_ok (fr := (fl [c2, [bx b2 #[.i6 0, .i6 0] 29], [bx b1 #[nilS] 25]] fr)) b4 ({ hunks := x7, at_ := x8, open_ := x9 } : Collector_diff) v3 c3 h4 y7 S hy8) rfl tc106 rfl rfl ?_; clear F a S
        rintro _ a w ⟨g9, v7, c7, l9, S, h8, rfl⟩ F; replace S : St g9 [[bx b4 #[v7, .i6 y8.at_, .bool y8.open_] 133], c7, c2, [bx b2 #[.i6 0, .i6 0] 29], [bx b1 #[nilS] 25]] fr w := S
        refine wpList_nil ?_
        refine then_n ?_
        refine wp_region_lit ?_
        refine wE (ev_move rfl) F S rfl fun a F=>?_
        obtain ⟨z5, hz5, hm⟩ := bind_some hm
        refine wE (ev_int rfl rfl (bo_add hz5)) F S rfl fun a F=>?_
        refine wE (ev_assign rfl) F S rfl fun a F=>?_
        refine wpList_nil ?_
        refine inb_n ?_
        refine inb_n ?_
        refine then_n ?_
        replace S : St g9 [c2, [bx b4 #[v7, .i6 y8.at_, .bool y8.open_] 133], [bx b2 #[.i6 0, .i6 0] 29], [bx b1 #[nilS] 25], c7] fr w := St.tail [c2, [bx b4 #[v7, .i6 y8.at_, .bool y8.open_] 133], [bx b2 #[.i6 0, .i6 0] 29], [bx b1 #[nilS] 25], c7] _ (((((S.frontC 1 rfl).frontC 5 rfl).frontC 5 rfl).frontC 3 rfl).frontC 6 rfl)
        exact ⟨z5, x6, y8.hunks, y8.at_, y8.open_, v7, c7, g9, F.sub ⟨rfl, rfl, rfl, rfl, rfl, rfl, rfl, rfl, rfl, rfl, trivial⟩, l9, S, h8, hm⟩
     ·clear F S hm; rintro a w ⟨x11, x12, x13, x14, x15, v4, c4, g6, F, l6, S, h5, hm⟩
      refine wp_region_lit ?_
      obtain ⟨z1, hz1, hm⟩ := bind_some hm
      refine wE (ev_int rfl rfl (bo_add hz1)) F S rfl fun a F=>?_
      refine wE (ev_move rfl) F S rfl fun a F=>?_
      refine wpList_nil ?_
      refine then_n ?_
      obtain rfl := sinj hm
      refine ⟨_, rfl, ?_⟩
      dsimp only
      exact ⟨v4, c4, g6, F.sub ⟨rfl, rfl, rfl, rfl, rfl, rfl, rfl, rfl, rfl, rfl, trivial⟩, (l5.trans l6), S, h5⟩
    ·refine wp_condF F rfl hc2 ?_
     refine wp_exit ?_
     refine then_e ?_
     refine then_e ?_
     refine inb_x ?_
     refine then_n ?_
     obtain rfl := sinj hm
     obtain rfl := hfin1 _ rfl
     clear hm
     have hm : (diff_Script.j1 x7 x8 x9 : Option (Patch × Fault)) = some _ := hmo1
     replace S : St g5 [[bx b4 #[v3, .i6 x8, .bool x9] 133], [bx b2 #[.i6 0, .i6 0] 29], [bx b1 #[nilS] 25], c3] fr w := St.tail [[bx b4 #[v3, .i6 x8, .bool x9] 133], [bx b2 #[.i6 0, .i6 0] 29], [bx b1 #[nilS] 25], c3] _ ((((S.frontC 4 rfl).frontC 4 rfl).frontC 4 rfl).frontC 4 rfl)
     exact ⟨x7, x8, x9, v3, c3, g5, F.sub ⟨rfl, rfl, rfl, trivial⟩, (l4.trans l5), S, h4, hm⟩
  ·clear F S hm; rintro a w ⟨x1, x2, x3, v1, c1, g2, F, l2, S, h1, hm⟩
   refine wp_seq ?_
   refine wp_region_lit ?_
   replace F := F.sub (e' := [(7, bp b4 0), (5, bp b2 0), (4, bp b1 0)]) ⟨rfl, rfl, rfl, trivial⟩
   refine wl_callK (wn rfl) rfl (xs := [.tmp 7]) (vs := [bp b4 0]) (cap := []) (e' := [(5, bp b2 0), (4, bp b1 0)]) ⟨rfl, rfl, trivial⟩ F rfl rfl tc107 rfl rfl (calls_enter (fn := Tryd.f107) Tryd.func107 rfl Tryd.ntmps107 (lb rfl) ?_); clear F a; intro a F
   replace F : Fr 8 a [(0, bp b4 0)] := F
   refine wp_seq ?_
   refine wp_region_lit ?_
   refine wl_alloc (wn rfl) rfl tz25 (cs := [nilS]) rfl F S rfl rfl ?_; clear F a S; rintro b5 a w F S
   refine wpList_nil ?_
   refine then_n ?_
   refine wp_seq ?_
   refine wp_region_lit ?_
   refine wE (ev_move rfl) F S rfl fun a F=>?_
   refine wE (ev_nil rfl) F S rfl fun a F=>?_
   refine wE (ev_fieldAddr' tu133 tf133_0 (z := 0) ts23 rfl ⟨_, rfl⟩ rfl) F S rfl fun a F=>?_
   refine wE (ev_load1 tu23 rfl rfl (box_ptr (cells := [v1]) 1 rfl 0 rfl (lb rfl))) F S rfl fun a F=>?_
   refine wE (ev_build (parts := [(0, .tmp 6)]) (vs := [(0, v1)]) rfl (fun w => tb25_0 v1 (OwnN.isSl h1) w)) F S rfl fun a F=>?_
   refine wl_storeC (wn rfl) rfl F S rfl rfl (vs := [v1]) rfl ts25 (one_cons (OwnN.one h1) one_nil) (k := 0) rfl (lb rfl) (c' := #[v1]) rfl rfl ?_; clear S; intro w S
   refine wpList_nil ?_
   refine then_n ?_
   refine wp_ret ?_
   refine post_r _ F rfl (ar_cons (resA rfl tu25 rfl (box_ptr (cells := [v1]) 0 rfl 0 rfl (lb rfl) w S) ts25) ar_nil) ?_
   refine ⟨_, rfl, ?_⟩; clear F a; intro a F
   replace F : Fr 55 a [(53, .agg #[v1]), (5, bp b2 0), (4, bp b1 0)] := F
   refine wE (ev_build (parts := []) (vs := []) rfl (fun w => tb29_  w)) F S rfl fun a F=>?_
   refine wl_storeC (wn rfl) rfl F S rfl rfl (vs := [v1]) rfl ts25 (one_cons (OwnN.one h1) one_nil) (k := 3) rfl (lb rfl) (c' := #[v1]) rfl rfl ?_; clear S; intro w S
   refine wl_storeC (wn rfl) rfl F S rfl rfl (vs := [.i6 0, .i6 0]) rfl ts29 (one_cons rfl (one_cons rfl one_nil)) (k := 2) rfl (lb rfl) (c' := #[.i6 0, .i6 0]) rfl rfl ?_; clear S; intro w S
   refine wpList_nil ?_
   refine then_n ?_
   refine wp_ret ?_
   obtain rfl := sinj hm
   obtain ⟨g3, l3, S, h2⟩ : ∃ gz, Le g2 gz ∧ St gz [[bx b5 #[v1] 25], [bx b4 #[v1, .i6 x2, .bool x3] 133], [bx b2 #[.i6 0, .i6 0] 29], [bx b1 #[v1] 25]] fr w ∧ RepSl gz x1 v1 := ⟨_, Le.add _ _, S.freeze 4 rfl, OwnN.freeze (S.front 4 rfl) h1⟩
   refine post_r _ F rfl (ar_cons (resA rfl tu25 rfl (box_ptr (cells := [v1]) 3 rfl 0 rfl (lb rfl) w S) ts25) (ar_cons (resA rfl tu29 rfl (box_ptr (cells := [.i6 0, .i6 0]) 2 rfl 0 rfl (lb rfl) w S) ts29) ar_nil)) ?_
   replace S : St g3 [] fr w := St.tail [] _ S
   exact ⟨_, rfl, g3, v1, ((l1.trans l2).trans l3), S, h2, rfl⟩

theorem slices_Grow_27_ok {g : Gh} {fr : Hl} {w : World} {r : List TreeChange} (n_ : Int) (S : St g [] fr w) (hm : grow0 TreeChange 88 n_ = some r) :
 Calls Tryd.prog 108 [nilS, .i6 n_].toArray w (fun en w' => ∃ v, en = .returned v ∧ ∃ (g' : Gh) (v1 : Value) (c1 : Hl), Le g g' ∧ St g' [c1] fr w' ∧ OwnS g' r v1 c1 ∧ v1 = v) := by
 obtain ⟨p, rfl, hb, rfl⟩ := grow0_some hm
 refine calls_enter (fn := Tryd.f108) Tryd.func108 rfl Tryd.ntmps108 (lb rfl) ?_
 intro a F
 replace F : Fr 27 a [(0, nilS), (1, .i6 p)] := F
 refine wp_seq ?_
 refine wp_region_lit ?_
 refine wE (ev_assign rfl) F S rfl fun a F=>?_
 refine wpList_nil ?_
 refine then_n ?_
 refine wp_seq ?_
 refine wp_seq ?_
 refine wp_region_lit ?_
 refine wE (ev_move rfl) F S rfl fun a F=>?_
 refine wE (ev_int rfl rfl (bo_lss _ _ _ _)) F S rfl fun a F=>?_
 refine wpList_nil ?_
 refine then_n ?_
 refine wp_condF F rfl (decide_eq_false (by omega)) ?_
 refine wp_skip ?_
 refine then_n ?_
 refine wp_seq ?_
 refine wp_seq ?_
 refine wp_region_lit ?_
 refine wE (ev_move rfl) F S rfl fun a F=>?_
 refine wE (ev_move rfl) F S rfl fun a F=>?_
 refine wE (ev_capR rfl tu39) F S rfl fun a F=>?_
 refine wE (ev_move rfl) F S rfl fun a F=>?_
 refine wE (ev_len rfl tu39) F S rfl fun a F=>?_
 refine wE (ev_int rfl rfl (bo_sub (ckI (by decide) (by decide)))) F S rfl fun a F=>?_
 refine wE (ev_int rfl rfl (bo_sub (ckI (by omega) (by omega)))) F S rfl fun a F=>?_
 refine wE (ev_assign rfl) F S rfl fun a F=>?_
 refine wpList_nil ?_
 refine then_n ?_
 refine wp_seq ?_
 refine wp_region_lit ?_
 refine wE (ev_move rfl) F S rfl fun a F=>?_
 refine wE (ev_int rfl rfl (bo_gtr _ _ _ _)) F S rfl fun a F=>?_
 refine wpList_nil ?_
 refine then_n ?_
 by_cases hc1 : (p : Int) - ((0 : Nat) - (0 : Nat)) > 0
 ·refine wp_condT F rfl (decide_eq_true hc1) ?_
  refine wp_region_lit ?_
  refine wE (ev_move rfl) F S rfl fun a F=>?_
  refine wE (ev_move rfl) F S rfl fun a F=>?_
  refine wE (ev_capR rfl tu39) F S rfl fun a F=>?_
  refine wE (ev_slice0 tu39 ts27 rfl rfl ⟨_, rfl⟩) F S rfl fun a F=>?_
  refine wE (ev_move rfl) F S rfl fun a F=>?_
  have hap : app? 88 ([] : List TreeChange) (List.replicate ((p : Int) - ((0 : Nat) - (0 : Nat))).toNat (({ Kind := 0, Path := ByteArray.empty, To := ByteArray.empty, Lines := [], Patch := ({ Hunks := [] } : Patch) } : TreeChange) : TreeChange)) = some (List.replicate p (({ Kind := 0, Path := ByteArray.empty, To := ByteArray.empty, Lines := [], Patch := ({ Hunks := [] } : Patch) } : TreeChange) : TreeChange)) := by
   unfold app?; rw [if_pos ?_]
   ·rw [List.nil_append, show ((p : Int) - ((0 : Nat) - (0 : Nat))).toNat = p by omega]
   ·rw [List.length_nil, List.length_replicate, show 0 + ((p : Int) - ((0 : Nat) - (0 : Nat))).toNat = p by omega]; exact hb
  refine wl_appendZ (wn rfl) rfl tu39 tu3 te27 zr27 (by decide) (by decide) F S rfl (base := Option.none) (cap := 0) (l := []) rfl rfl (Cat.nil _) (.inl ⟨rfl, _, _, rfl⟩) (by omega) (by simp only [List.length_nil]; omega) hap rfl rfl ?_; clear F a S
  intro v4 c4 a w h4 S F
  have hp0 : p ≠ 0 := by omega
  obtain ⟨b4, cap4, arr4, t4, rfl, rfl, hcap4, hsz4, ha4⟩ := h4.open (by intro h; have := congrArg List.length h; simp at this; omega)
  refine wE (ev_move rfl) F S rfl fun a F=>?_
  refine wE (ev_len rfl tu39) F S rfl fun a F=>?_
  refine wE (ev_sliceR0 (q := (0 : Nat)) tu39 ts27 rfl rfl ⟨_, rfl⟩ (by omega) (by omega)) F S rfl fun a F=>?_
  refine wE (ev_assign rfl) F S rfl fun a F=>?_
  refine wpList_nil ?_
  refine then_n ?_
  refine wp_seq ?_
  refine wp_region_lit ?_
  refine wE (ev_move rfl) F S rfl fun a F=>?_
  refine wE (ev_assign rfl) F S rfl fun a F=>?_
  refine wpList_nil ?_
  refine then_n ?_
  refine wp_ret ?_
  refine post_r _ F rfl (ar_cons (resT rfl) ar_nil) ?_
  exact ⟨_, rfl, g, _, _, Le.refl _, S, (CatA.pre (a := []) ha4).shut rfl (Nat.zero_le _) hsz4, rfl⟩
 ·refine wp_condF F rfl (decide_eq_false hc1) ?_
  refine wp_skip ?_
  refine then_n ?_
  refine wp_seq ?_
  refine wp_region_lit ?_
  refine wE (ev_move rfl) F S rfl fun a F=>?_
  refine wE (ev_assign rfl) F S rfl fun a F=>?_
  refine wpList_nil ?_
  refine then_n ?_
  refine wp_ret ?_
  refine post_r _ F rfl (ar_cons (resT rfl) ar_nil) ?_
  exact ⟨_, rfl, g, _, [], Le.refl _, S, .nil _, rfl⟩


theorem api_TreeChange__ok {g : Gh} {fr : Hl} {w : World} {r : (List TreeChange)} (slices : (List (List TreeChange))) (vslices1 : Value) (hslices1 : RepSl g slices vslices1) (S : St g [] fr w) (hm : api_TreeChange_ slices = some r) :
  Calls Tryd.prog 65 [vslices1].toArray w (fun en w' => ∃ v, en = .returned v ∧ ∃ (g' : Gh) (v1 : Value) (c1 : Hl), Le g g' ∧ St g' [c1] fr w' ∧ OwnS g' r v1 c1 ∧ v1 = v) := by
 unfold api_TreeChange_ at hm
 refine calls_enter (fn := Tryd.f65) Tryd.func65 rfl Tryd.ntmps65 (lb rfl) ?_
 intro a F
 replace F : Fr 36 a [(0, vslices1)] := F
 refine wp_seq ?_
 refine wp_region_lit ?_
 refine wE (ev_assign rfl) F S rfl fun a F=>?_
 refine wpList_nil ?_
 refine then_n ?_
 refine wp_seq ?_
 refine wp_region_lit ?_
 refine wE (ev_assign rfl) F S rfl fun a F=>?_
 refine wpList_nil ?_
 refine then_n ?_
 refine wp_cut (fun a w => ∃ (x1 : Int) (g1 : Gh), Fr 36 a [(3, .i6 x1), (0, vslices1)] ∧ Le g g1 ∧ St g1 [] fr w ∧ api_TreeChange_.j1 slices x1 = some r) ?_ ?_
 ·refine wp_seq ?_
  refine wp_region_lit ?_
  refine wE (ev_move rfl) F S rfl fun a F=>?_
  refine wE (ev_lenSh hslices1 rfl tu137) F S rfl fun a F=>?_
  refine wE (ev_move rfl) F S rfl fun a F=>?_
  refine wpList_nil ?_
  refine then_n ?_
  refine wp_block ?_
  obtain ⟨r2, hr4, hm⟩ := bind_some hm
  have hmo2 := hm; clear hm
  refine wp_iter (σ := Int × Int) (ρ := Int) (m := fun s => api_TreeChange_.l2 slices s.1 s.2) (I := fun s a w => match s with | (x6, x7) => ∃ (g5 : Gh), Fr 36 a [(11, .i6 x6), (10, .i6 (slices.length : Int)), (9, vslices1), (3, .i6 x7), (0, vslices1)] ∧ Le g g5 ∧ St g5 [] fr w) hr4 ?_ ?_
  ·dsimp only
   exact ⟨g, F.sub ⟨rfl, rfl, rfl, rfl, rfl, trivial⟩, (Le.refl _), S⟩
  ·clear F S; rintro ⟨x6, x7⟩ a w x8 ⟨g5, F, l5, S⟩ hx2 hfin2
   have hm : api_TreeChange_.l2 slices x6 x7 = some x8 := hx2; clear hx2
   unfold api_TreeChange_.l2 at hm
   refine wp_seq ?_
   refine wp_region_lit ?_
   refine wE (ev_int rfl rfl (bo_lss _ _ _ _)) F S rfl fun a F=>?_
   refine wpList_nil ?_
   refine then_n ?_
   refine wp_seq ?_
   obtain ⟨hc2, hm⟩ | ⟨hc2, hm⟩ := ite_or hm
   ·refine wp_condT F rfl hc2 ?_
    refine wp_skip ?_
    refine then_n ?_
    refine wp_cut (fun a w => ∃ (x9 : Int) (g6 : Gh), Fr 36 a [(3, .i6 x9), (11, .i6 x6), (10, .i6 (slices.length : Int)), (9, vslices1), (0, vslices1)] ∧ Le g5 g6 ∧ St g6 [] fr w ∧ api_TreeChange_.j3 x6 x9 = some x8) ?_ ?_
    ·refine wp_block ?_
     refine wp_seq ?_
     refine wp_region_lit ?_
     obtain ⟨y4, hy4, hm⟩ := bind_some hm
     obtain ⟨cs3, hr5, hp2⟩ := elemS (hslices1.mono l5) hy4
     obtain ⟨v6, rfl, h6⟩ := rep_list hr5
     refine wE (ev_idxS (hslices1.mono l5) hy4 tu137 ts39 rfl rfl) F S rfl fun a F=>?_
     refine wE (ev_load1 tu39 rfl rfl (ptr_mono (cks := []) (fr := fr) hp2 (Le.refl _))) F S rfl fun a F=>?_
     refine wE (ev_assign rfl) F S rfl fun a F=>?_
     refine wpList_nil ?_
     refine then_n ?_
     refine wp_seq ?_
     refine wp_region_lit ?_
     refine wE (ev_move rfl) F S rfl fun a F=>?_
     refine wE (ev_move rfl) F S rfl fun a F=>?_
     refine wE (ev_lenSh h6 rfl tu39) F S rfl fun a F=>?_
     obtain ⟨z3, hz3, hm⟩ := bind_some hm
     refine wE (ev_int rfl rfl (bo_add hz3)) F S rfl fun a F=>?_
     refine wE (ev_assign rfl) F S rfl fun a F=>?_
     refine wpList_nil ?_
     refine then_n ?_
     refine wp_seq ?_
     refine wp_region_lit ?_
     refine wE (ev_move rfl) F S rfl fun a F=>?_
     refine wE (ev_int rfl rfl (bo_lss _ _ _ _)) F S rfl fun a F=>?_
     refine wpList_nil ?_
     refine then_n ?_
     obtain ⟨hc3, hm⟩ | ⟨hc3, hm⟩ := ite_or hm
     ·refine wp_condT F rfl hc3 ?_
      cases hm
     ·refine wp_condF F rfl hc3 ?_
      refine wp_skip ?_
      refine inb_n ?_
      refine then_n ?_
      exact ⟨z3, g5, F.sub ⟨rfl, rfl, rfl, rfl, rfl, trivial⟩, (Le.refl _), S, hm⟩
    ·clear F S hm; rintro a w ⟨x9, g6, F, l6, S, hm⟩
     refine wp_region_lit ?_
     obtain ⟨z2, hz2, hm⟩ := bind_some hm
     refine wE (ev_int rfl rfl (bo_add hz2)) F S rfl fun a F=>?_
     refine wE (ev_move rfl) F S rfl fun a F=>?_
     refine wpList_nil ?_
     refine then_n ?_
     obtain rfl := sinj hm
     refine ⟨_, rfl, ?_⟩
     dsimp only
     exact ⟨g6, F.sub ⟨rfl, rfl, rfl, rfl, rfl, trivial⟩, (l5.trans l6), S⟩
   ·refine wp_condF F rfl hc2 ?_
    refine wp_exit ?_
    refine then_e ?_
    refine then_e ?_
    refine inb_x ?_
    refine then_n ?_
    obtain rfl := sinj hm
    obtain rfl := hfin2 _ rfl
    clear hm
    have hm : (api_TreeChange_.j1 slices x7 : Option (List TreeChange)) = some _ := hmo2
    exact ⟨x7, g5, F.sub ⟨rfl, rfl, trivial⟩, l5, S, hm⟩
 ·clear F S hm; rintro a w ⟨x1, g1, F, l1, S, hm⟩
  refine wp_seq ?_
  refine wp_region_lit ?_
  refine wE (ev_move rfl) F S rfl fun a F=>?_
  obtain ⟨y1, hy1, hm⟩ := bind_some hm
  refine wl_call0 (wn rfl) rfl F rfl (slices_Grow_27_ok x1 S hy1) rfl tc108 rfl rfl ?_; clear F a S
  rintro _ a w ⟨g2, v1, c1, l2, S, h1, rfl⟩ F; replace S : St g2 [c1] fr w := S
  refine wE (ev_assign rfl) F S rfl fun a F=>?_
  refine wpList_nil ?_
  refine then_n ?_
  refine wp_cut (fun a w => ∃ (x2 : List TreeChange) (v2 : Value) (c2 : Hl) (g3 : Gh), Fr 36 a [(6, v2)] ∧ Le g2 g3 ∧ St g3 [c2] fr w ∧ OwnS g3 x2 v2 c2 ∧ api_TreeChange_.j2 x2 = some r) ?_ ?_
  ·refine wp_seq ?_
   refine wp_region_lit ?_
   refine wE (ev_move rfl) F S rfl fun a F=>?_
   refine wE (ev_lenSh hslices1 rfl tu137) F S rfl fun a F=>?_
   refine wE (ev_move rfl) F S rfl fun a F=>?_
   refine wpList_nil ?_
   refine then_n ?_
   refine wp_block ?_
   obtain ⟨r1, hr1, hm⟩ := bind_some hm
   have hmo1 := hm; clear hm
   refine wp_iter (σ := Int × (List TreeChange)) (ρ := (List TreeChange)) (m := fun s => api_TreeChange_.l1 slices s.1 s.2) (I := fun s a w => match s with | (x3, x4) => ∃ (v3 : Value) (c3 : Hl) (g4 : Gh), Fr 36 a [(27, .i6 x3), (26, .i6 (slices.length : Int)), (25, vslices1), (6, v3)] ∧ Le g2 g4 ∧ St g4 [c3] fr w ∧ OwnS g4 x4 v3 c3) hr1 ?_ ?_
   ·dsimp only
    exact ⟨v1, c1, g2, F.sub ⟨rfl, rfl, rfl, rfl, trivial⟩, (Le.refl _), S, h1⟩
   ·clear F S; rintro ⟨x3, x4⟩ a w x5 ⟨v3, c3, g4, F, l4, S, h3⟩ hx1 hfin1
    have hm : api_TreeChange_.l1 slices x3 x4 = some x5 := hx1; clear hx1
    unfold api_TreeChange_.l1 at hm
    refine wp_seq ?_
    refine wp_region_lit ?_
    refine wE (ev_int rfl rfl (bo_lss _ _ _ _)) F S rfl fun a F=>?_
    refine wpList_nil ?_
    refine then_n ?_
    refine wp_seq ?_
    obtain ⟨hc1, hm⟩ | ⟨hc1, hm⟩ := ite_or hm
    ·refine wp_condT F rfl hc1 ?_
     refine wp_skip ?_
     refine then_n ?_
     refine wp_seq ?_
     refine wp_block ?_
     refine wp_seq ?_
     refine wp_region_lit ?_
     obtain ⟨y2, hy2, hm⟩ := bind_some hm
     obtain ⟨cs1, hr2, hp1⟩ := elemS (hslices1.mono ((l1.trans l2).trans l4)) hy2
     obtain ⟨v4, rfl, h4⟩ := rep_list hr2
     refine wE (ev_idxS (hslices1.mono ((l1.trans l2).trans l4)) hy2 tu137 ts39 rfl rfl) F S rfl fun a F=>?_
     refine wE (ev_load1 tu39 rfl rfl (ptr_mono (cks := [c3]) (fr := fr) hp1 (Le.refl _))) F S rfl fun a F=>?_
     refine wE (ev_assign rfl) F S rfl fun a F=>?_
     refine wpList_nil ?_
     refine then_n ?_
     refine wp_region_lit ?_
     refine wE (ev_move rfl) F S rfl fun a F=>?_
     refine wE (ev_move rfl) F S rfl fun a F=>?_
     obtain ⟨cs2, hk1, hr3⟩ := RepSl.reads h4
     obtain ⟨y3, hy3, hm⟩ := bind_some hm
     refine wl_append (wn rfl) rfl tu39 tu39 te27 (by decide) (by decide) F S rfl rfl (k := 0) rfl h3 hk1 rfl (hr3 _ _ S) hy3 rfl rfl ?_; clear F a S
     rintro v5 c4 a w h5 S F; replace S : St g4 [c4] fr w := S
     refine wE (ev_assign rfl) F S rfl fun a F=>?_
     refine wpList_nil ?_
     refine inb_n ?_
     refine then_n ?_
     refine wp_region_lit ?_
     obtain ⟨z1, hz1, hm⟩ := bind_some hm
     refine wE (ev_int rfl rfl (bo_add hz1)) F S rfl fun a F=>?_
     refine wE (ev_move rfl) F S rfl fun a F=>?_
     refine wpList_nil ?_
     refine then_n ?_
     obtain rfl := sinj hm
     refine ⟨_, rfl, ?_⟩
     dsimp only
     exact ⟨v5, c4, g4, F.sub ⟨rfl, rfl, rfl, rfl, trivial⟩, l4, S, h5⟩
    ·refine wp_condF F rfl hc1 ?_
     refine wp_exit ?_
     refine then_e ?_
     refine then_e ?_
     refine inb_x ?_
     refine then_n ?_
     obtain rfl := sinj hm
     obtain rfl := hfin1 _ rfl
     clear hm
     have hm : (api_TreeChange_.j2 x4 : Option (List TreeChange)) = some _ := hmo1
     exact ⟨x4, v3, c3, g4, F.sub ⟨rfl, trivial⟩, l4, S, h3, hm⟩
  ·clear F S hm; rintro a w ⟨x2, v2, c2, g3, F, l3, S, h2, hm⟩
   refine wp_seq ?_
   refine wp_region_lit ?_
   refine wE (ev_move rfl) F S rfl fun a F=>?_
   refine wE (ev_assign rfl) F S rfl fun a F=>?_
   refine wpList_nil ?_
   refine then_n ?_
   refine wp_ret ?_
   obtain rfl := sinj hm
   refine post_r _ F rfl (ar_cons (resT rfl) ar_nil) ?_
   exact ⟨_, rfl, g3, v2, c2, ((l1.trans l2).trans l3), S, h2, rfl⟩
end Go.Dc
