/- Walks: each function comes to what its model says. -/
import Derived.Test.YthpkobkngplbbaaDoorDcTab
import Derived.Test.YthpkobkngplbbaaDoorDcM
import Derived.Test.YthpkobkngplbbaaDoorDcW4
import Derived.Test.YthpkobkngplbbaaDoorDcW8
namespace Go.Dc
open Go Go.Proofs
set_option maxRecDepth 100000
set_option maxHeartbeats 4000000
set_option linter.unusedVariables false
theorem changeforgelaw2_RenameMaximal_ok {g : Gh} {fr : Hl} {w : World} {r : Bool} (old_ : FileTree) (vold_1 : Value) (hold_1 : RepSl g old_.Files vold_1) (new_ : FileTree) (vnew_1 : Value) (hnew_1 : RepSl g new_.Files vnew_1) (percent : Int) (i_ : Int) (j : Int) (S : St g [] fr w) (hm : changeforgelaw2_RenameMaximal old_ new_ percent i_ j = some r) :
  Calls Tryd.prog 5 [.agg #[vold_1], .agg #[vnew_1], .i6 percent, .i6 i_, .i6 j].toArray w (fun en w' => ∃ v, en = .returned v ∧ ∃ (g' : Gh), Le g g' ∧ St g' [] fr w' ∧ .bool r = v) := by
 unfold changeforgelaw2_RenameMaximal at hm
 refine calls_enter (fn := Tryd.f5) Tryd.func5 rfl Tryd.ntmps5 (lb rfl) ?_
 intro a F
 replace F : Fr 122 a [(0, .agg #[vold_1]), (1, .agg #[vnew_1]), (2, .i6 percent), (3, .i6 i_), (4, .i6 j)] := F
 refine wp_seq ?_
 refine wp_region_lit ?_
 refine wl_boxC (wn rfl) rfl rfl rfl F S rfl rfl ?_; clear F a S; rintro b1 a w F S
 refine wl_boxC (wn rfl) rfl rfl rfl F S rfl rfl ?_; clear F a S; rintro b2 a w F S
 refine wE (ev_assign rfl) F S rfl fun a F=>?_
 refine wpList_nil ?_
 refine then_n ?_
 refine wp_seq ?_
 refine wp_region_lit ?_
 refine wE (ev_loadA tu41 rfl (cs := [vold_1]) ts41 rfl (box_ptr (cells := [vold_1]) 1 rfl 0 rfl (lb rfl))) F S rfl fun a F=>?_
 refine wE (ev_loadA tu41 rfl (cs := [vnew_1]) ts41 rfl (box_ptr (cells := [vnew_1]) 0 rfl 0 rfl (lb rfl))) F S rfl fun a F=>?_
 refine wE (ev_move rfl) F S rfl fun a F=>?_
 obtain ⟨y1, hy1, hm⟩ := bind_some hm
 refine wl_call0 (wn rfl) rfl F rfl (rename_Detect_ok (fr := (fl [[bx b2 #[vnew_1] 41], [bx b1 #[vold_1] 41]] fr)) old_ vold_1 hold_1 new_ vnew_1 hnew_1 percent S hy1) rfl tc12 rfl rfl ?_; clear F a S
 rintro _ a w ⟨g1, v1, c1, l1, S, h1, rfl⟩ F; replace S : St g1 [c1, [bx b2 #[vnew_1] 41], [bx b1 #[vold_1] 41]] fr w := S
 refine wE (ev_move rfl) F S rfl fun a F=>?_
 refine wE (ev_extract rfl rfl) F S rfl fun a F=>?_
 refine wE (ev_extract rfl rfl) F S rfl fun a F=>?_
 refine wl_alloc (wn rfl) rfl tz25 (cs := [.i6 0, .i6 0]) rfl F S rfl rfl ?_; clear F a S; rintro b3 a w F S
 refine wE (ev_assign rfl) F S rfl fun a F=>?_
 refine wl_storeC (wn rfl) rfl F S rfl rfl (vs := [.i6 y1.2.Code, .i6 y1.2.Index]) rfl ts25 (one_cons rfl (one_cons rfl one_nil)) (k := 0) rfl (lb rfl) (c' := #[.i6 y1.2.Code, .i6 y1.2.Index]) rfl rfl ?_; clear S; intro w S
 refine wpList_nil ?_
 refine then_n ?_
 refine wp_seq ?_
 refine wp_seq ?_
 refine wp_region_lit ?_
 refine wE (ev_fieldAddr' tu25 tf25_0 (z := 0) ts3 rfl ⟨_, rfl⟩ rfl) F S rfl fun a F=>?_
 refine wE (ev_load1 tu3 rfl rfl (box_ptr (cells := [.i6 y1.2.Code]) 0 rfl 0 rfl (lb rfl))) F S rfl fun a F=>?_
 refine wE (ev_int rfl rfl (bo_neq _ _ _ _)) F S rfl fun a F=>?_
 refine wE (ev_move rfl) F S rfl fun a F=>?_
 obtain ⟨x1, hx1, hm⟩ := bind_some hm
 refine wl_cut 3 (fun a w' => w = w' ∧ Fr 122 a [(31, .bool x1), (11, v1), (6, bp b2 0), (5, bp b1 0), (2, .i6 percent), (3, .i6 i_), (4, .i6 j)]) ?_ ?_
 ·clear hm; obtain ⟨hc1, hm⟩ | ⟨hc1, hm⟩ := ite_or hx1
  ·refine wl_skip rfl rfl rfl rfl (ne_ft hc1) F rfl rfl ?_; clear F a; intro a F
   refine wl_skip rfl rfl rfl rfl (ne_ft hc1) F rfl rfl ?_; clear F a; intro a F
   refine wE (ev_pickT rfl hc1 rfl) F S rfl fun a F=>?_
   obtain rfl := sinj hm
   refine wpList_nil (then_n ?_); exact ⟨rfl, F.sub ⟨rfl, rfl, rfl, rfl, rfl, rfl, rfl, trivial⟩⟩
  ·refine wl_ev (wg F rfl rfl rfl rfl hc1) (ev_move rfl) F S rfl rfl ?_; clear F a; intro a F
   refine wl_ev (wg F rfl rfl rfl rfl hc1) (ev_int rfl rfl (bo_lss _ _ _ _)) F S rfl rfl ?_; clear F a; intro a F
   refine wE (ev_pickF rfl hc1 rfl) F S rfl fun a F=>?_
   obtain rfl := sinj hm
   refine wpList_nil (then_n ?_); exact ⟨rfl, F.sub ⟨rfl, rfl, rfl, rfl, rfl, rfl, rfl, trivial⟩⟩
 clear F; rintro a w' ⟨rfl, F⟩
 refine wE (ev_move rfl) F S rfl fun a F=>?_
 obtain ⟨x2, hx2, hm⟩ := bind_some hm
 refine wl_cut 6 (fun a w' => w = w' ∧ Fr 122 a [(38, .bool x2), (11, v1), (6, bp b2 0), (5, bp b1 0), (2, .i6 percent), (3, .i6 i_), (4, .i6 j)]) ?_ ?_
 ·clear hm; obtain ⟨hc2, hm⟩ | ⟨hc2, hm⟩ := ite_or hx2
  ·refine wl_skip rfl rfl rfl rfl (ne_ft hc2) F rfl rfl ?_; clear F a; intro a F
   refine wl_skip rfl rfl rfl rfl (ne_ft hc2) F rfl rfl ?_; clear F a; intro a F
   refine wl_skip rfl rfl rfl rfl (ne_ft hc2) F rfl rfl ?_; clear F a; intro a F
   refine wl_skip rfl rfl rfl rfl (ne_ft hc2) F rfl rfl ?_; clear F a; intro a F
   refine wl_skip rfl rfl rfl rfl (ne_ft hc2) F rfl rfl ?_; clear F a; intro a F
   refine wE (ev_pickT rfl hc2 rfl) F S rfl fun a F=>?_
   obtain rfl := sinj hm
   refine wpList_nil (then_n ?_); exact ⟨rfl, F.sub ⟨rfl, rfl, rfl, rfl, rfl, rfl, rfl, trivial⟩⟩
  ·refine wl_ev (wg F rfl rfl rfl rfl hc2) (ev_move rfl) F S rfl rfl ?_; clear F a; intro a F
   refine wl_ev (wg F rfl rfl rfl rfl hc2) (ev_fieldAddr' tu41 tf41_0 (z := 0) ts39 rfl ⟨_, rfl⟩ rfl) F S rfl rfl ?_; clear F a; intro a F
   refine wl_ev (wg F rfl rfl rfl rfl hc2) (ev_load1 tu39 rfl rfl (box_ptr (cells := [vold_1]) 3 rfl 0 rfl (lb rfl))) F S rfl rfl ?_; clear F a; intro a F
   refine wl_ev (wg F rfl rfl rfl rfl hc2) (ev_lenSh hold_1 rfl tu39) F S rfl rfl ?_; clear F a; intro a F
   refine wl_ev (wg F rfl rfl rfl rfl hc2) (ev_int rfl rfl (bo_geq _ _ _ _)) F S rfl rfl ?_; clear F a; intro a F
   refine wE (ev_pickF rfl hc2 rfl) F S rfl fun a F=>?_
   obtain rfl := sinj hm
   refine wpList_nil (then_n ?_); exact ⟨rfl, F.sub ⟨rfl, rfl, rfl, rfl, rfl, rfl, rfl, trivial⟩⟩
 clear F; rintro a w' ⟨rfl, F⟩
 refine wE (ev_move rfl) F S rfl fun a F=>?_
 obtain ⟨x3, hx3, hm⟩ := bind_some hm
 refine wl_cut 3 (fun a w' => w = w' ∧ Fr 122 a [(42, .bool x3), (11, v1), (6, bp b2 0), (5, bp b1 0), (2, .i6 percent), (3, .i6 i_), (4, .i6 j)]) ?_ ?_
 ·clear hm; obtain ⟨hc3, hm⟩ | ⟨hc3, hm⟩ := ite_or hx3
  ·refine wl_skip rfl rfl rfl rfl (ne_ft hc3) F rfl rfl ?_; clear F a; intro a F
   refine wl_skip rfl rfl rfl rfl (ne_ft hc3) F rfl rfl ?_; clear F a; intro a F
   refine wE (ev_pickT rfl hc3 rfl) F S rfl fun a F=>?_
   obtain rfl := sinj hm
   refine wpList_nil (then_n ?_); exact ⟨rfl, F.sub ⟨rfl, rfl, rfl, rfl, rfl, rfl, rfl, trivial⟩⟩
  ·refine wl_ev (wg F rfl rfl rfl rfl hc3) (ev_move rfl) F S rfl rfl ?_; clear F a; intro a F
   refine wl_ev (wg F rfl rfl rfl rfl hc3) (ev_int rfl rfl (bo_lss _ _ _ _)) F S rfl rfl ?_; clear F a; intro a F
   refine wE (ev_pickF rfl hc3 rfl) F S rfl fun a F=>?_
   obtain rfl := sinj hm
   refine wpList_nil (then_n ?_); exact ⟨rfl, F.sub ⟨rfl, rfl, rfl, rfl, rfl, rfl, rfl, trivial⟩⟩
 clear F; rintro a w' ⟨rfl, F⟩
 refine wE (ev_move rfl) F S rfl fun a F=>?_
 obtain ⟨x4, hx4, hm⟩ := bind_some hm
 refine wl_cut 6 (fun a w' => w = w' ∧ Fr 122 a [(49, .bool x4), (11, v1), (6, bp b2 0), (5, bp b1 0), (2, .i6 percent), (3, .i6 i_), (4, .i6 j)]) ?_ ?_
 ·clear hm; obtain ⟨hc4, hm⟩ | ⟨hc4, hm⟩ := ite_or hx4
  ·refine wl_skip rfl rfl rfl rfl (ne_ft hc4) F rfl rfl ?_; clear F a; intro a F
   refine wl_skip rfl rfl rfl rfl (ne_ft hc4) F rfl rfl ?_; clear F a; intro a F
   refine wl_skip rfl rfl rfl rfl (ne_ft hc4) F rfl rfl ?_; clear F a; intro a F
   refine wl_skip rfl rfl rfl rfl (ne_ft hc4) F rfl rfl ?_; clear F a; intro a F
   refine wl_skip rfl rfl rfl rfl (ne_ft hc4) F rfl rfl ?_; clear F a; intro a F
   refine wE (ev_pickT rfl hc4 rfl) F S rfl fun a F=>?_
   obtain rfl := sinj hm
   refine wpList_nil (then_n ?_); exact ⟨rfl, F.sub ⟨rfl, rfl, rfl, rfl, rfl, rfl, rfl, trivial⟩⟩
  ·refine wl_ev (wg F rfl rfl rfl rfl hc4) (ev_move rfl) F S rfl rfl ?_; clear F a; intro a F
   refine wl_ev (wg F rfl rfl rfl rfl hc4) (ev_fieldAddr' tu41 tf41_0 (z := 0) ts39 rfl ⟨_, rfl⟩ rfl) F S rfl rfl ?_; clear F a; intro a F
   refine wl_ev (wg F rfl rfl rfl rfl hc4) (ev_load1 tu39 rfl rfl (box_ptr (cells := [vnew_1]) 2 rfl 0 rfl (lb rfl))) F S rfl rfl ?_; clear F a; intro a F
   refine wl_ev (wg F rfl rfl rfl rfl hc4) (ev_lenSh hnew_1 rfl tu39) F S rfl rfl ?_; clear F a; intro a F
   refine wl_ev (wg F rfl rfl rfl rfl hc4) (ev_int rfl rfl (bo_geq _ _ _ _)) F S rfl rfl ?_; clear F a; intro a F
   refine wE (ev_pickF rfl hc4 rfl) F S rfl fun a F=>?_
   obtain rfl := sinj hm
   refine wpList_nil (then_n ?_); exact ⟨rfl, F.sub ⟨rfl, rfl, rfl, rfl, rfl, rfl, rfl, trivial⟩⟩
 clear F; rintro a w' ⟨rfl, F⟩
 refine wpList_nil ?_
 refine then_n ?_
 obtain ⟨hc5, hm⟩ | ⟨hc5, hm⟩ := ite_or hm
 ·refine wp_condT F rfl hc5 ?_
  refine wp_seq ?_
  refine wp_region_lit ?_
  obtain ⟨y2, hy2, hm⟩ := bind_some hm
  refine wl_call0 (wn rfl) rfl F rfl (changeforgelaw2_half_ok (fr := (fl [[bx b3 #[.i6 y1.2.Code, .i6 y1.2.Index] 25], c1, [bx b2 #[vnew_1] 41], [bx b1 #[vold_1] 41]] fr))  S hy2) rfl tc13 rfl rfl ?_; clear F a S
  rintro _ a w ⟨g2, l2, S, rfl⟩ F; replace S : St g2 [[bx b3 #[.i6 y1.2.Code, .i6 y1.2.Index] 25], c1, [bx b2 #[vnew_1] 41], [bx b1 #[vold_1] 41]] fr w := S
  refine wE (ev_assign rfl) F S rfl fun a F=>?_
  refine wpList_nil ?_
  refine then_n ?_
  refine wp_ret ?_
  refine then_r ?_
  obtain rfl := sinj hm
  refine post_r _ F rfl (ar_cons (resT rfl) ar_nil) ?_
  replace S : St g2 [] fr w := St.tail [] _ S
  exact ⟨_, rfl, g2, (l1.trans l2), S, rfl⟩
 ·refine wp_condF F rfl hc5 ?_
  refine wp_skip ?_
  refine then_n ?_
  refine wp_seq ?_
  refine wp_region_lit ?_
  refine wE (ev_fieldAddr' tu41 tf41_0 (z := 0) ts39 rfl ⟨_, rfl⟩ rfl) F S rfl fun a F=>?_
  refine wE (ev_load1 tu39 rfl rfl (box_ptr (cells := [vold_1]) 3 rfl 0 rfl (lb rfl))) F S rfl fun a F=>?_
  refine wE (ev_move rfl) F S rfl fun a F=>?_
  obtain ⟨y3, hy3, hm⟩ := bind_some hm
  obtain ⟨cs1, hr1, hp1⟩ := elemS (hold_1.mono l1) hy3
  obtain ⟨v2, rfl, h2⟩ := rep_File hr1
  refine wE (ev_idxS (hold_1.mono l1) hy3 tu39 ts48 rfl rfl) F S rfl fun a F=>?_
  refine wE (ev_loadA tu48 rfl (cs := [.string y3.Path, v2]) ts48 rfl (ptr_mono (cks := [[bx b3 #[.i6 y1.2.Code, .i6 y1.2.Index] 25], c1, [bx b2 #[vnew_1] 41], [bx b1 #[vold_1] 41]]) (fr := fr) hp1 (Le.refl _))) F S rfl fun a F=>?_
  refine wl_alloc (wn rfl) rfl tz48 (cs := [.string ByteArray.empty, nilS]) rfl F S rfl rfl ?_; clear F a S; rintro b4 a w F S
  refine wl_storeC (wn rfl) rfl F S rfl rfl (vs := [.string y3.Path, v2]) rfl ts48 (one_cons rfl (one_cons h2.one one_nil)) (k := 0) rfl (lb rfl) (c' := #[.string y3.Path, v2]) rfl rfl ?_; clear S; intro w S
  refine wpList_nil ?_
  refine then_n ?_
  refine wp_seq ?_
  refine wp_region_lit ?_
  refine wE (ev_fieldAddr' tu41 tf41_0 (z := 0) ts39 rfl ⟨_, rfl⟩ rfl) F S rfl fun a F=>?_
  refine wE (ev_load1 tu39 rfl rfl (box_ptr (cells := [vnew_1]) 3 rfl 0 rfl (lb rfl))) F S rfl fun a F=>?_
  refine wE (ev_move rfl) F S rfl fun a F=>?_
  obtain ⟨y4, hy4, hm⟩ := bind_some hm
  obtain ⟨cs2, hr2, hp2⟩ := elemS (hnew_1.mono l1) hy4
  obtain ⟨v3, rfl, h3⟩ := rep_File hr2
  refine wE (ev_idxS (hnew_1.mono l1) hy4 tu39 ts48 rfl rfl) F S rfl fun a F=>?_
  refine wE (ev_loadA tu48 rfl (cs := [.string y4.Path, v3]) ts48 rfl (ptr_mono (cks := [[bx b4 #[.string y3.Path, v2] 48], [bx b3 #[.i6 y1.2.Code, .i6 y1.2.Index] 25], c1, [bx b2 #[vnew_1] 41], [bx b1 #[vold_1] 41]]) (fr := fr) hp2 (Le.refl _))) F S rfl fun a F=>?_
  refine wl_alloc (wn rfl) rfl tz48 (cs := [.string ByteArray.empty, nilS]) rfl F S rfl rfl ?_; clear F a S; rintro b5 a w F S
  refine wl_storeC (wn rfl) rfl F S rfl rfl (vs := [.string y4.Path, v3]) rfl ts48 (one_cons rfl (one_cons h3.one one_nil)) (k := 0) rfl (lb rfl) (c' := #[.string y4.Path, v3]) rfl rfl ?_; clear S; intro w S
  refine wpList_nil ?_
  refine then_n ?_
  refine wp_seq ?_
  refine wp_region_lit ?_
  refine wE (ev_fieldAddr' tu48 tf48_1 (z := 0) ts22 rfl ⟨_, rfl⟩ rfl) F S rfl fun a F=>?_
  refine wE (ev_load1 tu22 rfl rfl (box_ptr (cells := [v2]) 1 rfl 1 rfl (lb rfl))) F S rfl fun a F=>?_
  refine wE (ev_fieldAddr' tu48 tf48_1 (z := 0) ts22 rfl ⟨_, rfl⟩ rfl) F S rfl fun a F=>?_
  refine wE (ev_load1 tu22 rfl rfl (box_ptr (cells := [v3]) 0 rfl 1 rfl (lb rfl))) F S rfl fun a F=>?_
  obtain ⟨y5, hy5, hm⟩ := bind_some hm
  refine wl_call0 (wn rfl) rfl F rfl (rename_Similarity_ok (fr := (fl [[bx b5 #[.string y4.Path, v3] 48], [bx b4 #[.string y3.Path, v2] 48], [bx b3 #[.i6 y1.2.Code, .i6 y1.2.Index] 25], c1, [bx b2 #[vnew_1] 41], [bx b1 #[vold_1] 41]] fr)) y3.Lines v2 h2 y4.Lines v3 h3 S hy5) rfl tc15 rfl rfl ?_; clear F a S
  rintro _ a w ⟨g3, l3, S, rfl⟩ F; replace S : St g3 [[bx b5 #[.string y4.Path, v3] 48], [bx b4 #[.string y3.Path, v2] 48], [bx b3 #[.i6 y1.2.Code, .i6 y1.2.Index] 25], c1, [bx b2 #[vnew_1] 41], [bx b1 #[vold_1] 41]] fr w := S
  refine wE (ev_move rfl) F S rfl fun a F=>?_
  refine wE (ev_extract rfl rfl) F S rfl fun a F=>?_
  refine wE (ev_extract rfl rfl) F S rfl fun a F=>?_
  refine wl_alloc (wn rfl) rfl tz25 (cs := [.i6 0, .i6 0]) rfl F S rfl rfl ?_; clear F a S; rintro b6 a w F S
  refine wE (ev_assign rfl) F S rfl fun a F=>?_
  refine wl_storeC (wn rfl) rfl F S rfl rfl (vs := [.i6 y5.2.Code, .i6 y5.2.Index]) rfl ts25 (one_cons rfl (one_cons rfl one_nil)) (k := 0) rfl (lb rfl) (c' := #[.i6 y5.2.Code, .i6 y5.2.Index]) rfl rfl ?_; clear S; intro w S
  refine wpList_nil ?_
  refine then_n ?_
  refine wp_seq ?_
  refine wp_seq ?_
  refine wp_region_lit ?_
  refine wE (ev_fieldAddr' tu25 tf25_0 (z := 0) ts3 rfl ⟨_, rfl⟩ rfl) F S rfl fun a F=>?_
  refine wE (ev_load1 tu3 rfl rfl (box_ptr (cells := [.i6 y5.2.Code]) 0 rfl 0 rfl (lb rfl))) F S rfl fun a F=>?_
  refine wE (ev_int rfl rfl (bo_neq _ _ _ _)) F S rfl fun a F=>?_
  refine wE (ev_move rfl) F S rfl fun a F=>?_
  obtain ⟨x5, hx5, hm⟩ := bind_some hm
  refine wl_cut 4 (fun a w' => w = w' ∧ Fr 122 a [(76, .bool x5), (16, bp b6 0), (14, bp b5 0), (13, bp b4 0), (11, v1), (6, bp b2 0), (5, bp b1 0)]) ?_ ?_
  ·clear hm; obtain ⟨hc6, hm⟩ | ⟨hc6, hm⟩ := ite_or hx5
   ·refine wl_skip rfl rfl rfl rfl (ne_ft hc6) F rfl rfl ?_; clear F a; intro a F
    refine wl_skip rfl rfl rfl rfl (ne_ft hc6) F rfl rfl ?_; clear F a; intro a F
    refine wl_skip rfl rfl rfl rfl (ne_ft hc6) F rfl rfl ?_; clear F a; intro a F
    refine wE (ev_pickT rfl hc6 rfl) F S rfl fun a F=>?_
    obtain rfl := sinj hm
    refine wpList_nil (then_n ?_); exact ⟨rfl, F.sub ⟨rfl, rfl, rfl, rfl, rfl, rfl, rfl, trivial⟩⟩
   ·refine wl_ev (wg F rfl rfl rfl rfl hc6) (ev_move rfl) F S rfl rfl ?_; clear F a; intro a F
    refine wl_ev (wg F rfl rfl rfl rfl hc6) (ev_move rfl) F S rfl rfl ?_; clear F a; intro a F
    refine wl_ev (wg F rfl rfl rfl rfl hc6) (ev_int rfl rfl (bo_lss _ _ _ _)) F S rfl rfl ?_; clear F a; intro a F
    refine wE (ev_pickF rfl hc6 rfl) F S rfl fun a F=>?_
    obtain rfl := sinj hm
    refine wpList_nil (then_n ?_); exact ⟨rfl, F.sub ⟨rfl, rfl, rfl, rfl, rfl, rfl, rfl, trivial⟩⟩
  clear F; rintro a w' ⟨rfl, F⟩
  refine wE (ev_move rfl) F S rfl fun a F=>?_
  obtain ⟨x6, hx6, hm⟩ := bind_some hm
  refine wl_cut 6 (fun a w => ∃ g4, Fr 122 a [(83, .bool x6), (16, bp b6 0), (14, bp b5 0), (13, bp b4 0), (11, v1), (5, bp b1 0)] ∧ Le g3 g4 ∧ St g4 [[bx b6 #[.i6 y5.2.Code, .i6 y5.2.Index] 25], [bx b5 #[.string y4.Path, v3] 48], [bx b4 #[.string y3.Path, v2] 48], [bx b3 #[.i6 y1.2.Code, .i6 y1.2.Index] 25], c1, [bx b2 #[vnew_1] 41], [bx b1 #[vold_1] 41]] fr w) ?_ ?_
  ·clear hm; obtain ⟨hc7, hm⟩ | ⟨hc7, hm⟩ := ite_or hx6
   ·refine wl_skip rfl rfl rfl rfl (ne_ft hc7) F rfl rfl ?_; clear F a; intro a F
    refine wl_skip rfl rfl rfl rfl (ne_ft hc7) F rfl rfl ?_; clear F a; intro a F
    refine wl_skip rfl rfl rfl rfl (ne_ft hc7) F rfl rfl ?_; clear F a; intro a F
    refine wl_skip rfl rfl rfl rfl (ne_ft hc7) F rfl rfl ?_; clear F a; intro a F
    refine wl_skip rfl rfl rfl rfl (ne_ft hc7) F rfl rfl ?_; clear F a; intro a F
    refine wE (ev_pickT rfl hc7 rfl) F S rfl fun a F=>?_
    obtain rfl := sinj hm
    refine wpList_nil (then_n ?_); exact ⟨g3, F.sub ⟨rfl, rfl, rfl, rfl, rfl, rfl, trivial⟩, (Le.refl _), S⟩
   ·refine wl_ev (wg F rfl rfl rfl rfl hc7) (ev_loadA tu41 rfl (cs := [vnew_1]) ts41 rfl (box_ptr (cells := [vnew_1]) 5 rfl 0 rfl (lb rfl))) F S rfl rfl ?_; clear F a; intro a F
    refine wl_ev (wg F rfl rfl rfl rfl hc7) (ev_fieldAddr' tu48 tf48_0 (z := 0) ts9 rfl ⟨_, rfl⟩ rfl) F S rfl rfl ?_; clear F a; intro a F
    refine wl_ev (wg F rfl rfl rfl rfl hc7) (ev_load1 tu9 rfl rfl (box_ptr (cells := [.string y3.Path]) 2 rfl 0 rfl (lb rfl))) F S rfl rfl ?_; clear F a; intro a F
    obtain ⟨y6, hy6, hm⟩ := bind_some hm
    refine wl_call0 (wg F rfl rfl rfl rfl hc7) rfl F rfl (changeforgeref2_FileAt_ok (fr := (fl [[bx b6 #[.i6 y5.2.Code, .i6 y5.2.Index] 25], [bx b5 #[.string y4.Path, v3] 48], [bx b4 #[.string y3.Path, v2] 48], [bx b3 #[.i6 y1.2.Code, .i6 y1.2.Index] 25], c1, [bx b2 #[vnew_1] 41], [bx b1 #[vold_1] 41]] fr)) new_ vnew_1 (hnew_1.mono (l1.trans l3)) y3.Path S hy6) rfl tc14 rfl rfl ?_; clear F a S
    rintro _ a w ⟨g5, l5, S, rfl⟩ F; replace S : St g5 [[bx b6 #[.i6 y5.2.Code, .i6 y5.2.Index] 25], [bx b5 #[.string y4.Path, v3] 48], [bx b4 #[.string y3.Path, v2] 48], [bx b3 #[.i6 y1.2.Code, .i6 y1.2.Index] 25], c1, [bx b2 #[vnew_1] 41], [bx b1 #[vold_1] 41]] fr w := S
    refine wl_ev (wg F rfl rfl rfl rfl hc7) (ev_int rfl rfl (bo_geq _ _ _ _)) F S rfl rfl ?_; clear F a; intro a F
    refine wE (ev_pickF rfl hc7 rfl) F S rfl fun a F=>?_
    obtain rfl := sinj hm
    refine wpList_nil (then_n ?_); exact ⟨g5, F.sub ⟨rfl, rfl, rfl, rfl, rfl, rfl, trivial⟩, l5, S⟩
  clear F S; rintro a w ⟨g4, F, l4, S⟩
  refine wE (ev_move rfl) F S rfl fun a F=>?_
  obtain ⟨x7, hx7, hm⟩ := bind_some hm
  refine wl_cut 6 (fun a w => ∃ g6, Fr 122 a [(90, .bool x7), (16, bp b6 0), (14, bp b5 0), (13, bp b4 0), (11, v1)] ∧ Le g4 g6 ∧ St g6 [[bx b6 #[.i6 y5.2.Code, .i6 y5.2.Index] 25], [bx b5 #[.string y4.Path, v3] 48], [bx b4 #[.string y3.Path, v2] 48], [bx b3 #[.i6 y1.2.Code, .i6 y1.2.Index] 25], c1, [bx b2 #[vnew_1] 41], [bx b1 #[vold_1] 41]] fr w) ?_ ?_
  ·clear hm; obtain ⟨hc8, hm⟩ | ⟨hc8, hm⟩ := ite_or hx7
   ·refine wl_skip rfl rfl rfl rfl (ne_ft hc8) F rfl rfl ?_; clear F a; intro a F
    refine wl_skip rfl rfl rfl rfl (ne_ft hc8) F rfl rfl ?_; clear F a; intro a F
    refine wl_skip rfl rfl rfl rfl (ne_ft hc8) F rfl rfl ?_; clear F a; intro a F
    refine wl_skip rfl rfl rfl rfl (ne_ft hc8) F rfl rfl ?_; clear F a; intro a F
    refine wl_skip rfl rfl rfl rfl (ne_ft hc8) F rfl rfl ?_; clear F a; intro a F
    refine wE (ev_pickT rfl hc8 rfl) F S rfl fun a F=>?_
    obtain rfl := sinj hm
    refine wpList_nil (then_n ?_); exact ⟨g4, F.sub ⟨rfl, rfl, rfl, rfl, rfl, trivial⟩, (Le.refl _), S⟩
   ·refine wl_ev (wg F rfl rfl rfl rfl hc8) (ev_loadA tu41 rfl (cs := [vold_1]) ts41 rfl (box_ptr (cells := [vold_1]) 6 rfl 0 rfl (lb rfl))) F S rfl rfl ?_; clear F a; intro a F
    refine wl_ev (wg F rfl rfl rfl rfl hc8) (ev_fieldAddr' tu48 tf48_0 (z := 0) ts9 rfl ⟨_, rfl⟩ rfl) F S rfl rfl ?_; clear F a; intro a F
    refine wl_ev (wg F rfl rfl rfl rfl hc8) (ev_load1 tu9 rfl rfl (box_ptr (cells := [.string y4.Path]) 1 rfl 0 rfl (lb rfl))) F S rfl rfl ?_; clear F a; intro a F
    obtain ⟨y7, hy7, hm⟩ := bind_some hm
    refine wl_call0 (wg F rfl rfl rfl rfl hc8) rfl F rfl (changeforgeref2_FileAt_ok (fr := (fl [[bx b6 #[.i6 y5.2.Code, .i6 y5.2.Index] 25], [bx b5 #[.string y4.Path, v3] 48], [bx b4 #[.string y3.Path, v2] 48], [bx b3 #[.i6 y1.2.Code, .i6 y1.2.Index] 25], c1, [bx b2 #[vnew_1] 41], [bx b1 #[vold_1] 41]] fr)) old_ vold_1 (hold_1.mono ((l1.trans l3).trans l4)) y4.Path S hy7) rfl tc14 rfl rfl ?_; clear F a S
    rintro _ a w ⟨g7, l7, S, rfl⟩ F; replace S : St g7 [[bx b6 #[.i6 y5.2.Code, .i6 y5.2.Index] 25], [bx b5 #[.string y4.Path, v3] 48], [bx b4 #[.string y3.Path, v2] 48], [bx b3 #[.i6 y1.2.Code, .i6 y1.2.Index] 25], c1, [bx b2 #[vnew_1] 41], [bx b1 #[vold_1] 41]] fr w := S
    refine wl_ev (wg F rfl rfl rfl rfl hc8) (ev_int rfl rfl (bo_geq _ _ _ _)) F S rfl rfl ?_; clear F a; intro a F
    refine wE (ev_pickF rfl hc8 rfl) F S rfl fun a F=>?_
    obtain rfl := sinj hm
    refine wpList_nil (then_n ?_); exact ⟨g7, F.sub ⟨rfl, rfl, rfl, rfl, rfl, trivial⟩, l7, S⟩
  clear F S; rintro a w ⟨g6, F, l6, S⟩
  refine wpList_nil ?_
  refine then_n ?_
  obtain ⟨hc9, hm⟩ | ⟨hc9, hm⟩ := ite_or hm
  ·refine wp_condT F rfl hc9 ?_
   refine wp_seq ?_
   refine wp_region_lit ?_
   refine wE (ev_fieldAddr' tu25 tf25_0 (z := 0) ts3 rfl ⟨_, rfl⟩ rfl) F S rfl fun a F=>?_
   refine wE (ev_load1 tu3 rfl rfl (box_ptr (cells := [.i6 y5.2.Code]) 0 rfl 0 rfl (lb rfl))) F S rfl fun a F=>?_
   refine wE (ev_int rfl rfl (bo_eql _ _ _ _)) F S rfl fun a F=>?_
   refine wE (ev_move rfl) F S rfl fun a F=>?_
   obtain ⟨x8, hx8, hm⟩ := bind_some hm
   refine wl_cut 2 (fun a w => ∃ g8, Fr 122 a [(96, .bool x8)] ∧ Le g6 g8 ∧ St g8 [[bx b6 #[.i6 y5.2.Code, .i6 y5.2.Index] 25], [bx b5 #[.string y4.Path, v3] 48], [bx b4 #[.string y3.Path, v2] 48], [bx b3 #[.i6 y1.2.Code, .i6 y1.2.Index] 25], c1, [bx b2 #[vnew_1] 41], [bx b1 #[vold_1] 41]] fr w) ?_ ?_
   ·clear hm; obtain ⟨hc10, hm⟩ | ⟨hc10, hm⟩ := ite_or hx8
    ·obtain ⟨y8, hy8, hm⟩ := bind_some hm
     refine wl_call0 (wg F rfl rfl rfl rfl hc10) rfl F rfl (changeforgelaw2_half_ok (fr := (fl [[bx b6 #[.i6 y5.2.Code, .i6 y5.2.Index] 25], [bx b5 #[.string y4.Path, v3] 48], [bx b4 #[.string y3.Path, v2] 48], [bx b3 #[.i6 y1.2.Code, .i6 y1.2.Index] 25], c1, [bx b2 #[vnew_1] 41], [bx b1 #[vold_1] 41]] fr))  S hy8) rfl tc13 rfl rfl ?_; clear F a S
     rintro _ a w ⟨g9, l9, S, rfl⟩ F; replace S : St g9 [[bx b6 #[.i6 y5.2.Code, .i6 y5.2.Index] 25], [bx b5 #[.string y4.Path, v3] 48], [bx b4 #[.string y3.Path, v2] 48], [bx b3 #[.i6 y1.2.Code, .i6 y1.2.Index] 25], c1, [bx b2 #[vnew_1] 41], [bx b1 #[vold_1] 41]] fr w := S
     refine wE (ev_pickT rfl hc10 rfl) F S rfl fun a F=>?_
     obtain rfl := sinj hm
     refine wpList_nil (then_n ?_); exact ⟨g9, F.sub ⟨rfl, trivial⟩, l9, S⟩
    ·refine wl_skip rfl rfl rfl rfl (ne_tf hc10) F rfl rfl ?_; clear F a; intro a F
     refine wE (ev_pickF rfl hc10 rfl) F S rfl fun a F=>?_
     obtain rfl := sinj hm
     refine wpList_nil (then_n ?_); exact ⟨g6, F.sub ⟨rfl, trivial⟩, (Le.refl _), S⟩
   clear F S; rintro a w ⟨g8, F, l8, S⟩
   refine wE (ev_assign rfl) F S rfl fun a F=>?_
   refine wpList_nil ?_
   refine then_n ?_
   refine wp_ret ?_
   refine then_r ?_
   obtain rfl := sinj hm
   refine post_r _ F rfl (ar_cons (resT rfl) ar_nil) ?_
   replace S : St g8 [] fr w := St.tail [] _ S
   exact ⟨_, rfl, g8, ((((l1.trans l3).trans l4).trans l6).trans l8), S, rfl⟩
  ·refine wp_condF F rfl hc9 ?_
   refine wp_skip ?_
   refine then_n ?_
   refine wp_cut (fun a w => ∃ (g10 : Gh), Fr 122 a [] ∧ Le g6 g10 ∧ St g10 [] fr w ∧ changeforgelaw2_RenameMaximal.j1 = some r) ?_ ?_
   ·refine wp_seq ?_
    refine wp_region_lit ?_
    refine wE (ev_assign rfl) F S rfl fun a F=>?_
    refine wpList_nil ?_
    refine then_n ?_
    refine wp_block ?_
    obtain ⟨r1, hr3, hm⟩ := bind_some hm
    have hmo1 := hm; clear hm
    refine wp_iter (σ := Int) (ρ := Bool ⊕ Unit) (m := fun s => changeforgelaw2_RenameMaximal.l1 y1 y3 y4 s) (I := fun x9 a w => ∃ (g11 : Gh), Fr 122 a [(17, .i6 x9), (14, bp b5 0), (13, bp b4 0), (11, v1)] ∧ Le g6 g11 ∧ St g11 [[bx b5 #[.string y4.Path, v3] 48], [bx b4 #[.string y3.Path, v2] 48], c1] fr w) hr3 ?_ ?_
    ·replace S : St g6 [[bx b5 #[.string y4.Path, v3] 48], [bx b4 #[.string y3.Path, v2] 48], c1] fr w := St.tail [[bx b5 #[.string y4.Path, v3] 48], [bx b4 #[.string y3.Path, v2] 48], c1] _ (((S.frontC 4 rfl).frontC 3 rfl).frontC 3 rfl)
     exact ⟨g6, F.sub ⟨rfl, rfl, rfl, rfl, trivial⟩, (Le.refl _), S⟩
    ·clear F S; rintro x9 a w x10 ⟨g11, F, l11, S⟩ hx9 hfin1
     have hm : changeforgelaw2_RenameMaximal.l1 y1 y3 y4 x9 = some x10 := hx9; clear hx9
     unfold changeforgelaw2_RenameMaximal.l1 at hm
     refine wp_seq ?_
     refine wp_seq ?_
     refine wp_region_lit ?_
     refine wE (ev_move rfl) F S rfl fun a F=>?_
     refine wE (ev_move rfl) F S rfl fun a F=>?_
     refine wE (ev_lenOw h1 rfl tu42) F S rfl fun a F=>?_
     refine wE (ev_int rfl rfl (bo_lss _ _ _ _)) F S rfl fun a F=>?_
     refine wpList_nil ?_
     refine then_n ?_
     obtain ⟨hc11, hm⟩ | ⟨hc11, hm⟩ := ite_or hm
     ·refine wp_condT F rfl hc11 ?_
      refine wp_skip ?_
      refine then_n ?_
      refine wp_seq ?_
      refine wp_block ?_
      refine wp_seq ?_
      refine wp_quiet mo (by kernel_rfl) S ?_
      refine wq_ev (wn rfl) (ev_move rfl) F rfl rfl ?_; clear F a; intro a F
      refine wq_ev (wn rfl) (ev_move rfl) F rfl rfl ?_; clear F a; intro a F
      obtain ⟨y9, hy9, hm⟩ := bind_some hm
      refine wq_ev (wn rfl) (ev_idxO (h1.mono (((l3.trans l4).trans l6).trans l11)) hy9 tu42 ts46 rfl rfl) F rfl rfl ?_; clear F a; intro a F
      refine wq_ev (wn rfl) (ev_idxArr (m := 0) tu46 ts9 (by decide) rfl rfl (elemO_ptr (h1.mono (((l3.trans l4).trans l6).trans l11)) hy9) rfl addP_zero) F rfl rfl ?_; clear F a; intro a F
      obtain ⟨cs3, hr4, hq1⟩ := elemO (h1.mono (((l3.trans l4).trans l6).trans l11)) hy9
      obtain rfl := rep_Arr2_ByteArray hr4
      refine wq_ev (wn rfl) (ev_load1 tu9 rfl rfl (fun w s => addP_zero ▸ fieldP (cells := [.string y9.e0]) 0 (hq1 _ _ 2 rfl w s) rfl (lb rfl))) F rfl rfl ?_; clear F a; intro a F
      refine wq_ev (wn rfl) (ev_fieldAddr' tu48 tf48_0 (z := 0) ts9 rfl ⟨_, rfl⟩ rfl) F rfl rfl ?_; clear F a; intro a F
      refine wq_ev (wn rfl) (ev_load1 tu9 rfl rfl (box_ptr (cells := [.string y3.Path]) 1 rfl 0 rfl (lb rfl))) F rfl rfl ?_; clear F a; intro a F
      refine wq_ev (wn rfl) (ev_str rfl rfl (bs_eql _ _ _)) F rfl rfl ?_; clear F a; intro a F
      refine wq_ev (wn rfl) (ev_move rfl) F rfl rfl ?_; clear F a; intro a F
      obtain ⟨x11, hx10, hm⟩ := bind_some hm
      refine wq_cut 9 (fun a => Fr 122 a [(120, .bool x11), (17, .i6 x9), (14, bp b5 0), (13, bp b4 0), (11, v1)]) ?_ ?_
      ·clear hm; obtain ⟨hc12, hm⟩ | ⟨hc12, hm⟩ := ite_or hx10
       ·refine wq_skip rfl rfl rfl rfl (ne_ft hc12) F rfl rfl ?_; clear F a; intro a F
        refine wq_skip rfl rfl rfl rfl (ne_ft hc12) F rfl rfl ?_; clear F a; intro a F
        refine wq_skip rfl rfl rfl rfl (ne_ft hc12) F rfl rfl ?_; clear F a; intro a F
        refine wq_skip rfl rfl rfl rfl (ne_ft hc12) F rfl rfl ?_; clear F a; intro a F
        refine wq_skip rfl rfl rfl rfl (ne_ft hc12) F rfl rfl ?_; clear F a; intro a F
        refine wq_skip rfl rfl rfl rfl (ne_ft hc12) F rfl rfl ?_; clear F a; intro a F
        refine wq_skip rfl rfl rfl rfl (ne_ft hc12) F rfl rfl ?_; clear F a; intro a F
        refine wq_skip rfl rfl rfl rfl (ne_ft hc12) F rfl rfl ?_; clear F a; intro a F
        refine wq_ev (wn rfl) (ev_pickT rfl hc12 rfl) F rfl rfl ?_; clear F a; intro a F
        obtain rfl := sinj hm
        refine wq_nil ?_; exact F.sub ⟨rfl, rfl, rfl, rfl, rfl, trivial⟩
       ·refine wq_ev (wg F rfl rfl rfl rfl hc12) (ev_move rfl) F rfl rfl ?_; clear F a; intro a F
        refine wq_ev (wg F rfl rfl rfl rfl hc12) (ev_move rfl) F rfl rfl ?_; clear F a; intro a F
        obtain ⟨y10, hy10, hm⟩ := bind_some hm
        refine wq_ev (wg F rfl rfl rfl rfl hc12) (ev_idxO (h1.mono (((l3.trans l4).trans l6).trans l11)) hy10 tu42 ts46 rfl rfl) F rfl rfl ?_; clear F a; intro a F
        refine wq_ev (wg F rfl rfl rfl rfl hc12) (ev_idxArr (m := 1) tu46 ts9 (by decide) rfl rfl (elemO_ptr (h1.mono (((l3.trans l4).trans l6).trans l11)) hy10) rfl rfl) F rfl rfl ?_; clear F a; intro a F
        obtain ⟨cs4, hr5, hq2⟩ := elemO (h1.mono (((l3.trans l4).trans l6).trans l11)) hy10
        obtain rfl := rep_Arr2_ByteArray hr5
        refine wq_ev (wg F rfl rfl rfl rfl hc12) (ev_load1 tu9 rfl rfl (fun w s => fieldP (cells := [.string y10.e1]) 1 (hq2 _ _ 2 rfl w s) rfl (lb rfl))) F rfl rfl ?_; clear F a; intro a F
        refine wq_ev (wg F rfl rfl rfl rfl hc12) (ev_fieldAddr' tu48 tf48_0 (z := 0) ts9 rfl ⟨_, rfl⟩ rfl) F rfl rfl ?_; clear F a; intro a F
        refine wq_ev (wg F rfl rfl rfl rfl hc12) (ev_load1 tu9 rfl rfl (box_ptr (cells := [.string y4.Path]) 0 rfl 0 rfl (lb rfl))) F rfl rfl ?_; clear F a; intro a F
        refine wq_ev (wg F rfl rfl rfl rfl hc12) (ev_str rfl rfl (bs_eql _ _ _)) F rfl rfl ?_; clear F a; intro a F
        refine wq_ev (wn rfl) (ev_pickF rfl hc12 rfl) F rfl rfl ?_; clear F a; intro a F
        obtain rfl := sinj hm
        refine wq_nil ?_; exact F.sub ⟨rfl, rfl, rfl, rfl, rfl, trivial⟩
      clear F; intro a F
      refine wq_nil ?_; clear S; intro w S
      refine then_n ?_
      obtain ⟨hc13, hm⟩ | ⟨hc13, hm⟩ := ite_or hm
      ·refine wp_condT F rfl hc13 ?_
       refine wp_seq ?_
       refine wp_region_lit ?_
       obtain ⟨y11, hy11, hm⟩ := bind_some hm
       refine wl_call0 (wn rfl) rfl F rfl (changeforgelaw2_half_ok (fr := (fl [[bx b5 #[.string y4.Path, v3] 48], [bx b4 #[.string y3.Path, v2] 48], c1] fr))  S hy11) rfl tc13 rfl rfl ?_; clear F a S
       rintro _ a w ⟨g12, l12, S, rfl⟩ F; replace S : St g12 [[bx b5 #[.string y4.Path, v3] 48], [bx b4 #[.string y3.Path, v2] 48], c1] fr w := S
       refine wE (ev_assign rfl) F S rfl fun a F=>?_
       refine wpList_nil ?_
       refine then_n ?_
       refine wp_ret ?_
       refine inb_r ?_
       refine then_r ?_
       refine then_r ?_
       refine inb_r ?_
       refine then_r ?_
       obtain rfl := sinj hm
       obtain rfl := hfin1 _ rfl
       clear hm
       have hm : (some y11 : Option Bool) = some _ := hmo1
       obtain rfl := sinj hm
       refine post_r _ F rfl (ar_cons (resT rfl) ar_nil) ?_
       replace S : St g12 [] fr w := St.tail [] _ S
       exact ⟨_, rfl, g12, (((((l1.trans l3).trans l4).trans l6).trans l11).trans l12), S, rfl⟩
      ·refine wp_condF F rfl hc13 ?_
       refine wp_skip ?_
       refine inb_n ?_
       refine then_n ?_
       refine wp_region_lit ?_
       refine wE (ev_move rfl) F S rfl fun a F=>?_
       obtain ⟨z1, hz1, hm⟩ := bind_some hm
       refine wE (ev_int rfl rfl (bo_add hz1)) F S rfl fun a F=>?_
       refine wE (ev_assign rfl) F S rfl fun a F=>?_
       refine wpList_nil ?_
       refine then_n ?_
       obtain rfl := sinj hm
       refine ⟨_, rfl, ?_⟩
       exact ⟨g11, F.sub ⟨rfl, rfl, rfl, rfl, trivial⟩, l11, S⟩
     ·refine wp_condF F rfl hc11 ?_
      refine wp_exit ?_
      refine then_e ?_
      refine then_e ?_
      refine inb_x ?_
      refine then_n ?_
      obtain rfl := sinj hm
      obtain rfl := hfin1 _ rfl
      clear hm
      have hm : (changeforgelaw2_RenameMaximal.j1 : Option Bool) = some _ := hmo1
      replace S : St g11 [] fr w := St.tail [] _ S
      exact ⟨g11, F.sub trivial, l11, S, hm⟩
   ·clear F S hm; rintro a w ⟨g10, F, l10, S, hm⟩
    refine wp_seq ?_
    refine wp_region_lit ?_
    refine wE (ev_assign rfl) F S rfl fun a F=>?_
    refine wpList_nil ?_
    refine then_n ?_
    refine wp_ret ?_
    obtain rfl := sinj hm
    refine post_r _ F rfl (ar_cons (resT rfl) ar_nil) ?_
    exact ⟨_, rfl, g10, ((((l1.trans l3).trans l4).trans l6).trans l10), S, rfl⟩
end Go.Dc
