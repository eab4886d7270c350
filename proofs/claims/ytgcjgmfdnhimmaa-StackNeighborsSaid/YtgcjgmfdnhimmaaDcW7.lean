/- Walks: each function comes to what its model says. -/
import Derived.Test.YtgcjgmfdnhimmaaDcTab
import Derived.Test.YtgcjgmfdnhimmaaDcM
import Derived.Test.YtgcjgmfdnhimmaaDcW1
import Derived.Test.YtgcjgmfdnhimmaaDcW3
namespace Go.Dc
open Go Go.Proofs
set_option maxRecDepth 100000
set_option maxHeartbeats 4000000
set_option linter.unusedVariables false
theorem lines_Occurs_ok {g : Gh} {fr : Hl} {w : World} {r : Bool} (text : (List ByteArray)) (vtext1 : Value) (htext1 : RepSl g text vtext1) (part : (List ByteArray)) (vpart1 : Value) (hpart1 : RepSl g part vpart1) (at_ : Int) (S : St g [] fr w) (hm : lines_Occurs text part at_ = some r) :
  Calls Try.prog 38 [vtext1, vpart1, .i6 at_].toArray w (fun en w' => ∃ v, en = .returned v ∧ ∃ (g' : Gh), Le g g' ∧ St g' [] fr w' ∧ .bool r = v) := by
 unfold lines_Occurs at hm
 refine calls_enter (fn := Try.f38) Try.func38 rfl Try.ntmps38 (lb rfl) ?_
 intro a F
 replace F : Fr 35 a [(0, vtext1), (1, vpart1), (2, .i6 at_)] := F
 refine wp_seq ?_
 refine wp_region_lit ?_
 refine wE (ev_assign rfl) F S rfl fun a F=>?_
 refine wpList_nil ?_
 refine then_n ?_
 refine wp_seq ?_
 refine wp_region_lit ?_
 refine wE (ev_move rfl) F S rfl fun a F=>?_
 refine wE (ev_int rfl rfl (bo_geq _ _ _ _)) F S rfl fun a F=>?_
 refine wE (ev_move rfl) F S rfl fun a F=>?_
 obtain ⟨x1, hx1, hm⟩ := bind_some hm
 refine wl_cut 5 (fun a w' => w = w' ∧ Fr 35 a [(14, .bool x1), (6, .bool false), (0, vtext1), (1, vpart1), (2, .i6 at_)]) ?_ ?_
 ·clear hm; obtain ⟨hc1, hm⟩ | ⟨hc1, hm⟩ := ite_or hx1
  ·refine wl_ev (wg F rfl rfl rfl rfl hc1) (ev_move rfl) F S rfl rfl ?_; clear F a; intro a F
   refine wl_ev (wg F rfl rfl rfl rfl hc1) (ev_move rfl) F S rfl rfl ?_; clear F a; intro a F
   refine wl_ev (wg F rfl rfl rfl rfl hc1) (ev_lenSh htext1 rfl tu31) F S rfl rfl ?_; clear F a; intro a F
   refine wl_ev (wg F rfl rfl rfl rfl hc1) (ev_int rfl rfl (bo_leq _ _ _ _)) F S rfl rfl ?_; clear F a; intro a F
   refine wE (ev_pickT rfl hc1 rfl) F S rfl fun a F=>?_
   obtain rfl := sinj hm
   refine wpList_nil (then_n ?_); exact ⟨rfl, F.sub ⟨rfl, rfl, rfl, rfl, rfl, trivial⟩⟩
  ·refine wl_skip rfl rfl rfl rfl (ne_tf hc1) F rfl rfl ?_; clear F a; intro a F
   refine wl_skip rfl rfl rfl rfl (ne_tf hc1) F rfl rfl ?_; clear F a; intro a F
   refine wl_skip rfl rfl rfl rfl (ne_tf hc1) F rfl rfl ?_; clear F a; intro a F
   refine wl_skip rfl rfl rfl rfl (ne_tf hc1) F rfl rfl ?_; clear F a; intro a F
   refine wE (ev_pickF rfl hc1 rfl) F S rfl fun a F=>?_
   obtain rfl := sinj hm
   refine wpList_nil (then_n ?_); exact ⟨rfl, F.sub ⟨rfl, rfl, rfl, rfl, rfl, trivial⟩⟩
 clear F; rintro a w' ⟨rfl, F⟩
 refine wE (ev_move rfl) F S rfl fun a F=>?_
 obtain ⟨x2, hx2, hm⟩ := bind_some hm
 refine wl_cut 8 (fun a w' => w = w' ∧ Fr 35 a [(23, .bool x2), (6, .bool false), (0, vtext1), (1, vpart1), (2, .i6 at_)]) ?_ ?_
 ·clear hm; obtain ⟨hc2, hm⟩ | ⟨hc2, hm⟩ := ite_or hx2
  ·refine wl_ev (wg F rfl rfl rfl rfl hc2) (ev_move rfl) F S rfl rfl ?_; clear F a; intro a F
   refine wl_ev (wg F rfl rfl rfl rfl hc2) (ev_lenSh hpart1 rfl tu31) F S rfl rfl ?_; clear F a; intro a F
   refine wl_ev (wg F rfl rfl rfl rfl hc2) (ev_move rfl) F S rfl rfl ?_; clear F a; intro a F
   refine wl_ev (wg F rfl rfl rfl rfl hc2) (ev_lenSh htext1 rfl tu31) F S rfl rfl ?_; clear F a; intro a F
   refine wl_ev (wg F rfl rfl rfl rfl hc2) (ev_move rfl) F S rfl rfl ?_; clear F a; intro a F
   obtain ⟨z1, hz1, hm⟩ := bind_some hm
   refine wl_ev (wg F rfl rfl rfl rfl hc2) (ev_int rfl rfl (bo_sub hz1)) F S rfl rfl ?_; clear F a; intro a F
   refine wl_ev (wg F rfl rfl rfl rfl hc2) (ev_int rfl rfl (bo_leq _ _ _ _)) F S rfl rfl ?_; clear F a; intro a F
   refine wE (ev_pickT rfl hc2 rfl) F S rfl fun a F=>?_
   obtain rfl := sinj hm
   refine wpList_nil (then_n ?_); exact ⟨rfl, F.sub ⟨rfl, rfl, rfl, rfl, rfl, trivial⟩⟩
  ·refine wl_skip rfl rfl rfl rfl (ne_tf hc2) F rfl rfl ?_; clear F a; intro a F
   refine wl_skip rfl rfl rfl rfl (ne_tf hc2) F rfl rfl ?_; clear F a; intro a F
   refine wl_skip rfl rfl rfl rfl (ne_tf hc2) F rfl rfl ?_; clear F a; intro a F
   refine wl_skip rfl rfl rfl rfl (ne_tf hc2) F rfl rfl ?_; clear F a; intro a F
   refine wl_skip rfl rfl rfl rfl (ne_tf hc2) F rfl rfl ?_; clear F a; intro a F
   refine wl_skip rfl rfl rfl rfl (ne_tf hc2) F rfl rfl ?_; clear F a; intro a F
   refine wl_skip rfl rfl rfl rfl (ne_tf hc2) F rfl rfl ?_; clear F a; intro a F
   refine wE (ev_pickF rfl hc2 rfl) F S rfl fun a F=>?_
   obtain rfl := sinj hm
   refine wpList_nil (then_n ?_); exact ⟨rfl, F.sub ⟨rfl, rfl, rfl, rfl, rfl, trivial⟩⟩
 clear F; rintro a w' ⟨rfl, F⟩
 refine wE (ev_move rfl) F S rfl fun a F=>?_
 obtain ⟨x3, hx3, hm⟩ := bind_some hm
 refine wl_cut 10 (fun a w => ∃ g1, Fr 35 a [(34, .bool x3), (6, .bool false)] ∧ Le g g1 ∧ St g1 [] fr w) ?_ ?_
 ·clear hm; obtain ⟨hc3, hm⟩ | ⟨hc3, hm⟩ := ite_or hx3
  ·refine wl_ev (wg F rfl rfl rfl rfl hc3) (ev_move rfl) F S rfl rfl ?_; clear F a; intro a F
   refine wl_ev (wg F rfl rfl rfl rfl hc3) (ev_move rfl) F S rfl rfl ?_; clear F a; intro a F
   refine wl_ev (wg F rfl rfl rfl rfl hc3) (ev_move rfl) F S rfl rfl ?_; clear F a; intro a F
   refine wl_ev (wg F rfl rfl rfl rfl hc3) (ev_move rfl) F S rfl rfl ?_; clear F a; intro a F
   refine wl_ev (wg F rfl rfl rfl rfl hc3) (ev_lenSh hpart1 rfl tu31) F S rfl rfl ?_; clear F a; intro a F
   obtain ⟨z2, hz2, hm⟩ := bind_some hm
   refine wl_ev (wg F rfl rfl rfl rfl hc3) (ev_int rfl rfl (bo_add hz2)) F S rfl rfl ?_; clear F a; intro a F
   obtain ⟨y1, hy1, hm⟩ := bind_some hm
   refine wl_cutS (wg F rfl rfl rfl rfl hc3) rfl htext1 hy1 tu31 ts9 rfl (bndV rfl) (bndV rfl) F rfl rfl ?_; clear F a; rintro v1 h1 a F
   refine wl_ev (wg F rfl rfl rfl rfl hc3) (ev_move rfl) F S rfl rfl ?_; clear F a; intro a F
   obtain ⟨y2, hy2, hm⟩ := bind_some hm
   refine wl_call0 (wg F rfl rfl rfl rfl hc3) rfl F rfl (slices_Equal_ok y1 v1 h1 part vpart1 hpart1 S hy2) rfl tc54 rfl rfl ?_; clear F a S
   rintro _ a w ⟨g2, l2, S, rfl⟩ F; replace S : St g2 [] fr w := S
   refine wE (ev_pickT rfl hc3 rfl) F S rfl fun a F=>?_
   obtain rfl := sinj hm
   refine wpList_nil (then_n ?_); exact ⟨g2, F.sub ⟨rfl, rfl, trivial⟩, l2, S⟩
  ·refine wl_skip rfl rfl rfl rfl (ne_tf hc3) F rfl rfl ?_; clear F a; intro a F
   refine wl_skip rfl rfl rfl rfl (ne_tf hc3) F rfl rfl ?_; clear F a; intro a F
   refine wl_skip rfl rfl rfl rfl (ne_tf hc3) F rfl rfl ?_; clear F a; intro a F
   refine wl_skip rfl rfl rfl rfl (ne_tf hc3) F rfl rfl ?_; clear F a; intro a F
   refine wl_skip rfl rfl rfl rfl (ne_tf hc3) F rfl rfl ?_; clear F a; intro a F
   refine wl_skip rfl rfl rfl rfl (ne_tf hc3) F rfl rfl ?_; clear F a; intro a F
   refine wl_skip rfl rfl rfl rfl (ne_tf hc3) F rfl rfl ?_; clear F a; intro a F
   refine wl_skip rfl rfl rfl rfl (ne_tf hc3) F rfl rfl ?_; clear F a; intro a F
   refine wl_skip rfl rfl rfl rfl (ne_tf hc3) F rfl rfl ?_; clear F a; intro a F
   refine wE (ev_pickF rfl hc3 rfl) F S rfl fun a F=>?_
   obtain rfl := sinj hm
   refine wpList_nil (then_n ?_); exact ⟨g, F.sub ⟨rfl, rfl, trivial⟩, (Le.refl _), S⟩
 clear F S; rintro a w ⟨g1, F, l1, S⟩
 refine wE (ev_assign rfl) F S rfl fun a F=>?_
 refine wpList_nil ?_
 refine then_n ?_
 refine wp_ret ?_
 obtain rfl := sinj hm
 refine post_r _ F rfl (ar_cons (resT rfl) ar_nil) ?_
 exact ⟨_, rfl, g1, l1, S, rfl⟩

theorem textpatch_Raw_ok {g : Gh} {fr : Hl} {w : World} {r : (List ByteArray)} (hunks : (List Hunk)) (vhunks1 : Value) (hhunks1 : RepSl g hunks vhunks1) (text : (List ByteArray)) (vtext1 : Value) (htext1 : RepSl g text vtext1) (low : Int) (high : Int) (S : St g [] fr w) (hm : textpatch_Raw hunks text low high = some r) :
  Calls Try.prog 39 [vhunks1, vtext1, .i6 low, .i6 high].toArray w (fun en w' => ∃ v, en = .returned v ∧ ∃ (g' : Gh) (v1 : Value) (c1 : Hl), Le g g' ∧ St g' [c1] fr w' ∧ OwnS g' r v1 c1 ∧ v1 = v) := by
 unfold textpatch_Raw at hm
 refine calls_enter (fn := Try.f39) Try.func39 rfl Try.ntmps39 (lb rfl) ?_
 intro a F
 replace F : Fr 37 a [(0, vhunks1), (1, vtext1), (2, .i6 low), (3, .i6 high)] := F
 refine wp_seq ?_
 refine wp_region_lit ?_
 refine wE (ev_assign rfl) F S rfl fun a F=>?_
 refine wpList_nil ?_
 refine then_n ?_
 refine wp_seq ?_
 refine wp_region_lit ?_
 refine wE (ev_assign rfl) F S rfl fun a F=>?_
 refine wpList_nil ?_
 refine then_n ?_
 refine wp_cut (fun a w => ∃ (x1 : List ByteArray) (x2 : Int) (v1 : Value) (c1 : Hl) (g1 : Gh), Fr 37 a [(9, v1), (1, vtext1), (2, .i6 x2), (3, .i6 high)] ∧ Le g g1 ∧ St g1 [c1] fr w ∧ OwnS g1 x1 v1 c1 ∧ textpatch_Raw.j1 text high x1 x2 = some r) ?_ ?_
 ·refine wp_seq ?_
  refine wp_region_lit ?_
  refine wE (ev_move rfl) F S rfl fun a F=>?_
  refine wE (ev_lenSh hhunks1 rfl tu36) F S rfl fun a F=>?_
  refine wE (ev_move rfl) F S rfl fun a F=>?_
  refine wpList_nil ?_
  refine then_n ?_
  refine wp_block ?_
  obtain ⟨r1, hr2, hm⟩ := bind_some hm
  have hmo1 := hm; clear hm
  refine wp_iter (σ := Int × (List ByteArray) × Int) (ρ := (List ByteArray) × Int) (m := fun s => textpatch_Raw.l1 hunks text s.1 s.2.1 s.2.2) (I := fun s a w => match s with | (x3, x4, x5) => ∃ (v4 : Value) (c3 : Hl) (g2 : Gh), Fr 37 a [(14, .i6 x3), (13, .i6 (hunks.length : Int)), (12, vhunks1), (9, v4), (1, vtext1), (2, .i6 x5), (3, .i6 high)] ∧ Le g g2 ∧ St g2 [c3] fr w ∧ OwnS g2 x4 v4 c3) hr2 ?_ ?_
  ·dsimp only
   replace S : St g [[]] fr w := S
   exact ⟨(nilS), [], g, F.sub ⟨rfl, rfl, rfl, rfl, rfl, rfl, rfl, trivial⟩, (Le.refl _), S, (OwnS.nil _)⟩
  ·clear F S; rintro ⟨x3, x4, x5⟩ a w x6 ⟨v4, c3, g2, F, l2, S, h4⟩ hx1 hfin1
   have hm : textpatch_Raw.l1 hunks text x3 x4 x5 = some x6 := hx1; clear hx1
   unfold textpatch_Raw.l1 at hm
   refine wp_seq ?_
   refine wp_region_lit ?_
   refine wE (ev_int rfl rfl (bo_lss _ _ _ _)) F S rfl fun a F=>?_
   refine wpList_nil ?_
   refine then_n ?_
   refine wp_seq ?_
   obtain ⟨hc1, hm⟩ | ⟨hc1, hm⟩ := ite_or hm
   ·refine wp_condT F rfl hc1 ?_
    refine wp_skip ?_
    refine then_n ?_
    refine wp_seq ?_
    refine wp_block ?_
    refine wp_seq ?_
    refine wp_region_lit ?_
    obtain ⟨y3, hy3, hm⟩ := bind_some hm
    obtain ⟨cs2, hr3, hp1⟩ := elemS (hhunks1.mono l2) hy3
    obtain ⟨v5, v6, rfl, h5, h6⟩ := rep_Hunk hr3
    refine wE (ev_idxS (hhunks1.mono l2) hy3 tu36 ts60 rfl rfl) F S rfl fun a F=>?_
    refine wE (ev_loadA tu60 rfl (cs := [.i6 y3.At, v5, v6]) ts60 rfl (ptr_mono (cks := [c3]) (fr := fr) hp1 (Le.refl _))) F S rfl fun a F=>?_
    refine wl_alloc (wn rfl) rfl tz60 (cs := [.i6 0, nilS, nilS]) rfl F S rfl rfl ?_; clear F a S; rintro b1 a w F S
    refine wl_storeC (wn rfl) rfl F S rfl rfl (vs := [.i6 y3.At, v5, v6]) rfl ts60 (one_cons rfl (one_cons h5.one (one_cons h6.one one_nil))) (k := 0) rfl (lb rfl) (c' := #[.i6 y3.At, v5, v6]) rfl rfl ?_; clear S; intro w S
    refine wpList_nil ?_
    refine then_n ?_
    refine wp_seq ?_
    refine wp_dv [10] mo S ?_; clear S; intro ok1 w S
    refine dv_et ok1 0 rfl (ev_move rfl) F rfl fun a F=>?_
    refine dv_et ok1 1 rfl (ev_move rfl) F rfl fun a F=>?_
    refine dv_et ok1 2 rfl (ev_move rfl) F rfl fun a F=>?_
    refine dv_et ok1 3 rfl (ev_fieldAddr' tu60 tf60_0 (z := 0) ts3 rfl ⟨_, rfl⟩ rfl) F rfl fun a F=>?_
    refine dv_ev ok1 4 rfl (ev_load1 tu3 rfl rfl (box_ptr (cells := [.i6 y3.At]) 0 rfl 0 rfl (lb rfl))) F S rfl fun a F=>?_
    obtain ⟨y4, hy4, hm⟩ := bind_some hm
    obtain ⟨v7, h7, he1⟩ := ev_cut (P := Try.prog) (n := 37) (e := [(22, .i6 y3.At), (21, bp b1 0), (20, .i6 x5), (19, vtext1), (18, v4), (11, bp b1 0), (17, .agg #[.i6 y3.At, v5, v6]), (16, (elemP vhunks1 x3 3)), (15, .bool (decide (x3 < (hunks.length : Int)))), (14, .i6 x3), (13, .i6 (hunks.length : Int)), (12, vhunks1), (9, v4), (1, vtext1), (2, .i6 x5), (3, .i6 high)]) (C := fun _ => True) (x := .tmp 19) (lo := some (.tmp 20)) (hi := some (.tmp 22)) (htext1.mono l2) hy4 tu31 ts9 rfl (bndV rfl) (bndV rfl)
    refine dv_et ok1 5 rfl he1 F rfl fun a F=>?_
    refine dv_et ok1 7 rfl (ev_fieldAddr' tu60 tf60_2 (z := 0) ts31 rfl ⟨_, rfl⟩ rfl) F rfl fun a F=>?_
    refine dv_ev ok1 8 rfl (ev_load1 tu31 rfl rfl (box_ptr (cells := [v6]) 0 rfl 2 rfl (lb rfl))) F S rfl fun a F=>?_
    refine dv_op ok1 6 rfl [(8, v6)] ?_
    obtain ⟨cs3, hk2, hr4⟩ := RepSl.reads h7
    obtain ⟨y5, hy5, hm⟩ := bind_some hm
    refine wl_append (wn rfl) rfl tu31 tu31 te9 (by decide) (by decide) F S rfl rfl (k := 1) rfl h4 hk2 rfl (hr4 _ _ S) hy5 rfl rfl ?_; clear F a S
    rintro v8 c4 a w h8 S F; replace S : St g2 [[bx b1 #[.i6 y3.At, v5, v6] 60], c4] fr w := S
    refine dv_nx ⟨yl_ev rfl rfl (ev_load1 tu31 rfl rfl (box_ptr (cells := [v6]) 0 rfl 2 rfl (lb rfl))) F S, trivial⟩ ?_
    refine dv_op ok1 9 rfl [] ?_
    obtain ⟨cs4, hk3, hr5⟩ := RepSl.reads h6
    obtain ⟨y6, hy6, hm⟩ := bind_some hm
    refine wl_append (wn rfl) rfl tu31 tu31 te9 (by decide) (by decide) F S rfl rfl (k := 1) rfl h8 hk3 rfl (hr5 _ _ S) hy6 rfl rfl ?_; clear F a S
    rintro v9 c5 a w h9 S F; replace S : St g2 [[bx b1 #[.i6 y3.At, v5, v6] 60], c5] fr w := S
    refine dv_nx trivial ?_
    refine dv_op ok1 10 rfl [] ?_
    refine wE (ev_assign rfl) F S rfl fun a F=>?_
    refine dv_nx trivial ?_
    refine dv_fin ok1 ?_
    refine then_n ?_
    refine wp_region_lit ?_
    refine wE (ev_loadA tu60 rfl (cs := [.i6 y3.At, v5, v6]) ts60 rfl (box_ptr (cells := [.i6 y3.At, v5, v6]) 0 rfl 0 rfl (lb rfl))) F S rfl fun a F=>?_
    obtain ⟨y7, hy7, hm⟩ := bind_some hm
    refine wl_call0 (wn rfl) rfl F rfl (textpatch_End_ok (fr := (fl [[bx b1 #[.i6 y3.At, v5, v6] 60], c5] fr)) y3 v5 h5 v6 h6 S hy7) rfl tc51 rfl rfl ?_; clear F a S
    rintro _ a w ⟨g3, l3, S, rfl⟩ F; replace S : St g3 [[bx b1 #[.i6 y3.At, v5, v6] 60], c5] fr w := S
    refine wE (ev_assign rfl) F S rfl fun a F=>?_
    refine wpList_nil ?_
    refine inb_n ?_
    refine then_n ?_
    refine wp_region_lit ?_
    obtain ⟨z1, hz1, hm⟩ := bind_some hm
    refine wE (ev_int rfl rfl (bo_add hz1)) F S rfl fun a F=>?_
    refine wE (ev_move rfl) F S rfl fun a F=>?_
    refine wpList_nil ?_
    refine then_n ?_
    obtain rfl := sinj hm
    refine ⟨_, rfl, ?_⟩
    dsimp only
    replace S : St g3 [c5] fr w := St.tail [c5] _ (S.frontC 1 rfl)
    exact ⟨v9, c5, g3, F.sub ⟨rfl, rfl, rfl, rfl, rfl, rfl, rfl, trivial⟩, (l2.trans l3), S, (h9.mono l3)⟩
   ·refine wp_condF F rfl hc1 ?_
    refine wp_exit ?_
    refine then_e ?_
    refine then_e ?_
    refine inb_x ?_
    refine then_n ?_
    obtain rfl := sinj hm
    obtain rfl := hfin1 _ rfl
    clear hm
    have hm : (textpatch_Raw.j1 text high x4 x5 : Option (List ByteArray)) = some _ := hmo1
    exact ⟨x4, x5, v4, c3, g2, F.sub ⟨rfl, rfl, rfl, rfl, trivial⟩, l2, S, h4, hm⟩
 ·clear F S hm; rintro a w ⟨x1, x2, v1, c1, g1, F, l1, S, h1, hm⟩
  refine wp_seq ?_
  refine wp_region_lit ?_
  refine wE (ev_move rfl) F S rfl fun a F=>?_
  refine wE (ev_move rfl) F S rfl fun a F=>?_
  refine wE (ev_move rfl) F S rfl fun a F=>?_
  refine wE (ev_move rfl) F S rfl fun a F=>?_
  obtain ⟨y1, hy1, hm⟩ := bind_some hm
  refine wl_cutS (wn rfl) rfl (htext1.mono l1) hy1 tu31 ts9 rfl (bndV rfl) (bndV rfl) F rfl rfl ?_; clear F a; rintro v2 h2 a F
  obtain ⟨cs1, hk1, hr1⟩ := RepSl.reads h2
  obtain ⟨y2, hy2, hm⟩ := bind_some hm
  refine wl_append (wn rfl) rfl tu31 tu31 te9 (by decide) (by decide) F S rfl rfl (k := 0) rfl h1 hk1 rfl (hr1 _ _ S) hy2 rfl rfl ?_; clear F a S
  rintro v3 c2 a w h3 S F; replace S : St g1 [c2] fr w := S
  refine wE (ev_assign rfl) F S rfl fun a F=>?_
  refine wpList_nil ?_
  refine then_n ?_
  refine wp_ret ?_
  obtain rfl := sinj hm
  refine post_r _ F rfl (ar_cons (resT rfl) ar_nil) ?_
  exact ⟨_, rfl, g1, v3, c2, l1, S, h3, rfl⟩

theorem textpatch_Apply_ok {g : Gh} {fr : Hl} {w : World} {r : (List ByteArray) × Fault} (p_ : Patch) (vp_1 : Value) (hp_1 : RepSl g p_.Hunks vp_1) (text : (List ByteArray)) (vtext1 : Value) (htext1 : RepSl g text vtext1) (S : St g [] fr w) (hm : textpatch_Apply p_ text = some r) :
  Calls Try.prog 19 [.agg #[vp_1], vtext1].toArray w (fun en w' => ∃ v, en = .returned v ∧ ∃ (g' : Gh) (v1 : Value) (c1 : Hl), Le g g' ∧ St g' [c1] fr w' ∧ OwnS g' r.1 v1 c1 ∧ .tuple #[v1, .agg #[.i6 r.2.Code, .i6 r.2.Index]] = v) := by
 unfold textpatch_Apply at hm
 refine calls_enter (fn := Try.f19) Try.func19 rfl Try.ntmps19 (lb rfl) ?_
 intro a F
 replace F : Fr 53 a [(0, .agg #[vp_1]), (1, vtext1)] := F
 refine wp_seq ?_
 refine wp_region_lit ?_
 refine wl_boxC (wn rfl) rfl rfl rfl F S rfl rfl ?_; clear F a S; rintro b1 a w F S
 refine wE (ev_assign rfl) F S rfl fun a F=>?_
 refine wl_alloc (wn rfl) rfl tz24 (cs := [.i6 0, .i6 0]) rfl F S rfl rfl ?_; clear F a S; rintro b2 a w F S
 refine wpList_nil ?_
 refine then_n ?_
 refine wp_seq ?_
 refine wp_seq ?_
 refine wp_region_lit ?_
 refine wE (ev_loadA tu38 rfl (cs := [vp_1]) ts38 rfl (box_ptr (cells := [vp_1]) 1 rfl 0 rfl (lb rfl))) F S rfl fun a F=>?_
 obtain ⟨y1, hy1, hm⟩ := bind_some hm
 refine wl_call0 (wn rfl) rfl F rfl (textpatch_Validate_ok (fr := (fl [[bx b2 #[.i6 0, .i6 0] 24], [bx b1 #[vp_1] 38]] fr)) p_ vp_1 hp_1 S hy1) rfl tc37 rfl rfl ?_; clear F a S
 rintro _ a w ⟨g1, l1, S, rfl⟩ F; replace S : St g1 [[bx b2 #[.i6 0, .i6 0] 24], [bx b1 #[vp_1] 38]] fr w := S
 refine wl_alloc (wn rfl) rfl tz24 (cs := [.i6 0, .i6 0]) rfl F S rfl rfl ?_; clear F a S; rintro b3 a w F S
 refine wl_storeC (wn rfl) rfl F S rfl rfl (vs := [.i6 y1.Code, .i6 y1.Index]) rfl ts24 (one_cons rfl (one_cons rfl one_nil)) (k := 0) rfl (lb rfl) (c' := #[.i6 y1.Code, .i6 y1.Index]) rfl rfl ?_; clear S; intro w S
 refine wpList_nil ?_
 refine then_n ?_
 refine wp_seq ?_
 refine wp_region_lit ?_
 refine wE (ev_loadA tu24 rfl (cs := [.i6 y1.Code, .i6 y1.Index]) ts24 rfl (box_ptr (cells := [.i6 y1.Code, .i6 y1.Index]) 0 rfl 0 rfl (lb rfl))) F S rfl fun a F=>?_
 refine wE (ev_build (parts := []) (vs := []) rfl (fun w => tb24_  w)) F S rfl fun a F=>?_
 refine wE (ev_neS tu24 tqa24 tqb24 tqc24 (xs := [.i6 y1.Code, .i6 y1.Index]) (ys := [.i6 0, .i6 0]) rfl rfl ⟨_, _, rfl, by decide, ⟨_, _, rfl, rfl, leaf_int tu3⟩, ⟨_, _, rfl, by decide, ⟨_, _, rfl, rfl, leaf_int tu3⟩, rfl⟩⟩) F S rfl fun a F=>?_
 refine wpList_nil ?_
 refine then_n ?_
 obtain ⟨hc1, hm⟩ | ⟨hc1, hm⟩ := ite_or hm
 ·refine wp_condT F rfl hc1 ?_
  refine wp_seq ?_
  refine wp_dv [] mo S ?_; clear S; intro ok1 w S
  refine dv_ev ok1 0 rfl (ev_loadA tu24 rfl (cs := [.i6 y1.Code, .i6 y1.Index]) ts24 rfl (box_ptr (cells := [.i6 y1.Code, .i6 y1.Index]) 0 rfl 0 rfl (lb rfl))) F S rfl fun a F=>?_
  refine dv_et ok1 1 rfl (ev_assign rfl) F rfl fun a F=>?_
  refine dv_op ok1 2 rfl [] ?_
  refine wl_storeC (wn rfl) rfl F S rfl rfl (vs := [.i6 y1.Code, .i6 y1.Index]) rfl ts24 (one_cons rfl (one_cons rfl one_nil)) (k := 1) rfl (lb rfl) (c' := #[.i6 y1.Code, .i6 y1.Index]) rfl rfl ?_; clear S; intro w S
  refine dv_nx trivial ?_
  refine dv_fin ok1 ?_
  refine then_n ?_
  refine wp_ret ?_
  refine then_r ?_
  obtain rfl := sinj hm
  replace S : St g1 [[], [bx b3 #[.i6 y1.Code, .i6 y1.Index] 24], [bx b2 #[.i6 y1.Code, .i6 y1.Index] 24], [bx b1 #[vp_1] 38]] fr w := S
  refine post_r _ F rfl (ar_cons (resT rfl) (ar_cons (resA rfl tu24 rfl (box_ptr (cells := [.i6 y1.Code, .i6 y1.Index]) 2 rfl 0 rfl (lb rfl) w S) ts24) ar_nil)) ?_
  replace S : St g1 [[]] fr w := St.tail [[]] _ (S.frontC 0 rfl)
  exact ⟨_, rfl, g1, (nilS), [], l1, S, (OwnS.nil _), rfl⟩
 ·refine wp_condF F rfl hc1 ?_
  refine wp_skip ?_
  refine then_n ?_
  refine wp_seq ?_
  refine wp_seq ?_
  refine wp_region_lit ?_
  refine wE (ev_move rfl) F S rfl fun a F=>?_
  obtain ⟨y2, hy2, hm⟩ := bind_some hm
  refine wl_call0 (wn rfl) rfl F rfl (lines_Second_ok (fr := (fl [[bx b3 #[.i6 y1.Code, .i6 y1.Index] 24], [bx b2 #[.i6 0, .i6 0] 24], [bx b1 #[vp_1] 38]] fr)) text vtext1 (htext1.mono l1) (-2) S hy2) rfl tc30 rfl rfl ?_; clear F a S
  rintro _ a w ⟨g2, l2, S, rfl⟩ F; replace S : St g2 [[bx b3 #[.i6 y1.Code, .i6 y1.Index] 24], [bx b2 #[.i6 0, .i6 0] 24], [bx b1 #[vp_1] 38]] fr w := S
  refine wl_alloc (wn rfl) rfl tz24 (cs := [.i6 0, .i6 0]) rfl F S rfl rfl ?_; clear F a S; rintro b4 a w F S
  refine wl_storeC (wn rfl) rfl F S rfl rfl (vs := [.i6 y2.Code, .i6 y2.Index]) rfl ts24 (one_cons rfl (one_cons rfl one_nil)) (k := 0) rfl (lb rfl) (c' := #[.i6 y2.Code, .i6 y2.Index]) rfl rfl ?_; clear S; intro w S
  refine wpList_nil ?_
  refine then_n ?_
  refine wp_seq ?_
  refine wp_region_lit ?_
  refine wE (ev_loadA tu24 rfl (cs := [.i6 y2.Code, .i6 y2.Index]) ts24 rfl (box_ptr (cells := [.i6 y2.Code, .i6 y2.Index]) 0 rfl 0 rfl (lb rfl))) F S rfl fun a F=>?_
  refine wE (ev_build (parts := []) (vs := []) rfl (fun w => tb24_  w)) F S rfl fun a F=>?_
  refine wE (ev_neS tu24 tqa24 tqb24 tqc24 (xs := [.i6 y2.Code, .i6 y2.Index]) (ys := [.i6 0, .i6 0]) rfl rfl ⟨_, _, rfl, by decide, ⟨_, _, rfl, rfl, leaf_int tu3⟩, ⟨_, _, rfl, by decide, ⟨_, _, rfl, rfl, leaf_int tu3⟩, rfl⟩⟩) F S rfl fun a F=>?_
  refine wpList_nil ?_
  refine then_n ?_
  obtain ⟨hc2, hm⟩ | ⟨hc2, hm⟩ := ite_or hm
  ·refine wp_condT F rfl hc2 ?_
   refine wp_seq ?_
   refine wp_dv [] mo S ?_; clear S; intro ok2 w S
   refine dv_ev ok2 0 rfl (ev_loadA tu24 rfl (cs := [.i6 y2.Code, .i6 y2.Index]) ts24 rfl (box_ptr (cells := [.i6 y2.Code, .i6 y2.Index]) 0 rfl 0 rfl (lb rfl))) F S rfl fun a F=>?_
   refine dv_et ok2 1 rfl (ev_assign rfl) F rfl fun a F=>?_
   refine dv_op ok2 2 rfl [] ?_
   refine wl_storeC (wn rfl) rfl F S rfl rfl (vs := [.i6 y2.Code, .i6 y2.Index]) rfl ts24 (one_cons rfl (one_cons rfl one_nil)) (k := 2) rfl (lb rfl) (c' := #[.i6 y2.Code, .i6 y2.Index]) rfl rfl ?_; clear S; intro w S
   refine dv_nx trivial ?_
   refine dv_fin ok2 ?_
   refine then_n ?_
   refine wp_ret ?_
   refine then_r ?_
   obtain rfl := sinj hm
   replace S : St g2 [[], [bx b4 #[.i6 y2.Code, .i6 y2.Index] 24], [bx b3 #[.i6 y1.Code, .i6 y1.Index] 24], [bx b2 #[.i6 y2.Code, .i6 y2.Index] 24], [bx b1 #[vp_1] 38]] fr w := S
   refine post_r _ F rfl (ar_cons (resT rfl) (ar_cons (resA rfl tu24 rfl (box_ptr (cells := [.i6 y2.Code, .i6 y2.Index]) 3 rfl 0 rfl (lb rfl) w S) ts24) ar_nil)) ?_
   replace S : St g2 [[]] fr w := St.tail [[]] _ (S.frontC 0 rfl)
   exact ⟨_, rfl, g2, (nilS), [], (l1.trans l2), S, (OwnS.nil _), rfl⟩
  ·refine wp_condF F rfl hc2 ?_
   refine wp_skip ?_
   refine then_n ?_
   refine wp_cut (fun a w => ∃ (g3 : Gh), Fr 53 a [(5, bp b2 0), (2, bp b1 0), (1, vtext1)] ∧ Le g2 g3 ∧ St g3 [[bx b2 #[.i6 0, .i6 0] 24], [bx b1 #[vp_1] 38]] fr w ∧ textpatch_Apply.j1 p_ text = some r) ?_ ?_
   ·refine wp_seq ?_
    refine wp_region_lit ?_
    refine wE (ev_fieldAddr' tu38 tf38_0 (z := 0) ts36 rfl ⟨_, rfl⟩ rfl) F S rfl fun a F=>?_
    refine wE (ev_load1 tu36 rfl rfl (box_ptr (cells := [vp_1]) 3 rfl 0 rfl (lb rfl))) F S rfl fun a F=>?_
    refine wE (ev_lenSh hp_1 rfl tu36) F S rfl fun a F=>?_
    refine wE (ev_move rfl) F S rfl fun a F=>?_
    refine wpList_nil ?_
    refine then_n ?_
    refine wp_block ?_
    obtain ⟨r1, hr1, hm⟩ := bind_some hm
    have hmo1 := hm; clear hm
    refine wp_iter (σ := Int) (ρ := ((List ByteArray) × Fault) ⊕ Unit) (m := fun s => textpatch_Apply.l1 p_ text s) (I := fun x1 a w => ∃ (g5 : Gh), Fr 53 a [(26, .i6 x1), (25, .i6 (p_.Hunks.length : Int)), (24, vp_1), (5, bp b2 0), (2, bp b1 0), (1, vtext1)] ∧ Le g2 g5 ∧ St g5 [[bx b2 #[.i6 0, .i6 0] 24], [bx b1 #[vp_1] 38]] fr w) hr1 ?_ ?_
    ·replace S : St g2 [[bx b2 #[.i6 0, .i6 0] 24], [bx b1 #[vp_1] 38]] fr w := St.tail [[bx b2 #[.i6 0, .i6 0] 24], [bx b1 #[vp_1] 38]] _ ((S.frontC 3 rfl).frontC 3 rfl)
     exact ⟨g2, F.sub ⟨rfl, rfl, rfl, rfl, rfl, rfl, trivial⟩, (Le.refl _), S⟩
    ·clear F S; rintro x1 a w x2 ⟨g5, F, l5, S⟩ hx1 hfin1
     have hm : textpatch_Apply.l1 p_ text x1 = some x2 := hx1; clear hx1
     unfold textpatch_Apply.l1 at hm
     refine wp_seq ?_
     refine wp_region_lit ?_
     refine wE (ev_int rfl rfl (bo_lss _ _ _ _)) F S rfl fun a F=>?_
     refine wpList_nil ?_
     refine then_n ?_
     refine wp_seq ?_
     obtain ⟨hc4, hm⟩ | ⟨hc4, hm⟩ := ite_or hm
     ·refine wp_condT F rfl hc4 ?_
      refine wp_skip ?_
      refine then_n ?_
      refine wp_seq ?_
      refine wp_block ?_
      refine wp_seq ?_
      refine wp_region_lit ?_
      refine wE (ev_move rfl) F S rfl fun a F=>?_
      obtain ⟨y4, hy4, hm⟩ := bind_some hm
      obtain ⟨cs1, hr2, hp1⟩ := elemS (hp_1.mono ((l1.trans l2).trans l5)) hy4
      obtain ⟨v2, v3, rfl, h2, h3⟩ := rep_Hunk hr2
      refine wE (ev_idxS (hp_1.mono ((l1.trans l2).trans l5)) hy4 tu36 ts60 rfl rfl) F S rfl fun a F=>?_
      refine wE (ev_loadA tu60 rfl (cs := [.i6 y4.At, v2, v3]) ts60 rfl (ptr_mono (cks := [[bx b2 #[.i6 0, .i6 0] 24], [bx b1 #[vp_1] 38]]) (fr := fr) hp1 (Le.refl _))) F S rfl fun a F=>?_
      refine wl_alloc (wn rfl) rfl tz60 (cs := [.i6 0, nilS, nilS]) rfl F S rfl rfl ?_; clear F a S; rintro b5 a w F S
      refine wE (ev_assign rfl) F S rfl fun a F=>?_
      refine wl_storeC (wn rfl) rfl F S rfl rfl (vs := [.i6 y4.At, v2, v3]) rfl ts60 (one_cons rfl (one_cons h2.one (one_cons h3.one one_nil))) (k := 0) rfl (lb rfl) (c' := #[.i6 y4.At, v2, v3]) rfl rfl ?_; clear S; intro w S
      refine wpList_nil ?_
      refine then_n ?_
      refine wp_seq ?_
      refine wp_region_lit ?_
      refine wE (ev_move rfl) F S rfl fun a F=>?_
      refine wE (ev_fieldAddr' tu60 tf60_1 (z := 0) ts31 rfl ⟨_, rfl⟩ rfl) F S rfl fun a F=>?_
      refine wE (ev_load1 tu31 rfl rfl (box_ptr (cells := [v2]) 0 rfl 1 rfl (lb rfl))) F S rfl fun a F=>?_
      refine wE (ev_fieldAddr' tu60 tf60_0 (z := 0) ts3 rfl ⟨_, rfl⟩ rfl) F S rfl fun a F=>?_
      refine wE (ev_load1 tu3 rfl rfl (box_ptr (cells := [.i6 y4.At]) 0 rfl 0 rfl (lb rfl))) F S rfl fun a F=>?_
      obtain ⟨y5, hy5, hm⟩ := bind_some hm
      refine wl_call0 (wn rfl) rfl F rfl (lines_Occurs_ok (fr := (fl [[bx b5 #[.i6 y4.At, v2, v3] 60], [bx b2 #[.i6 0, .i6 0] 24], [bx b1 #[vp_1] 38]] fr)) text vtext1 (htext1.mono ((l1.trans l2).trans l5)) y4.Old v2 h2 y4.At S hy5) rfl tc38 rfl rfl ?_; clear F a S
      rintro _ a w ⟨g6, l6, S, rfl⟩ F; replace S : St g6 [[bx b5 #[.i6 y4.At, v2, v3] 60], [bx b2 #[.i6 0, .i6 0] 24], [bx b1 #[vp_1] 38]] fr w := S
      refine wE (ev_not rfl) F S rfl fun a F=>?_
      refine wpList_nil ?_
      refine then_n ?_
      obtain ⟨hc5, hm⟩ | ⟨hc5, hm⟩ := ite_or hm
      ·refine wp_condT F rfl hc5 ?_
       refine wp_seq ?_
       refine wp_region_lit ?_
       refine wE (ev_move rfl) F S rfl fun a F=>?_
       refine wE (ev_build (parts := [(0, .const (.i6 19)), (1, .tmp 38)]) (vs := [(0, .i6 19), (1, .i6 x1)]) rfl (fun w => tb24_0_1 19 x1 w)) F S rfl fun a F=>?_
       refine wE (ev_assign rfl) F S rfl fun a F=>?_
       refine wl_storeC (wn rfl) rfl F S rfl rfl (vs := [.i6 19, .i6 x1]) rfl ts24 (one_cons rfl (one_cons rfl one_nil)) (k := 1) rfl (lb rfl) (c' := #[.i6 19, .i6 x1]) rfl rfl ?_; clear S; intro w S
       refine wpList_nil ?_
       refine then_n ?_
       refine wp_ret ?_
       refine inb_r ?_
       refine then_r ?_
       refine then_r ?_
       refine inb_r ?_
       refine then_r ?_
       obtain rfl := sinj hm
       obtain rfl := hfin1 _ rfl
       clear hm
       have hm : (some ([], ({ Code := 19, Index := x1 } : Fault)) : Option ((List ByteArray) × Fault)) = some _ := hmo1
       obtain rfl := sinj hm
       replace S : St g6 [[], [bx b5 #[.i6 y4.At, v2, v3] 60], [bx b2 #[.i6 19, .i6 x1] 24], [bx b1 #[vp_1] 38]] fr w := S
       refine post_r _ F rfl (ar_cons (resT rfl) (ar_cons (resA rfl tu24 rfl (box_ptr (cells := [.i6 19, .i6 x1]) 2 rfl 0 rfl (lb rfl) w S) ts24) ar_nil)) ?_
       replace S : St g6 [[]] fr w := St.tail [[]] _ (S.frontC 0 rfl)
       exact ⟨_, rfl, g6, (nilS), [], (((l1.trans l2).trans l5).trans l6), S, (OwnS.nil _), rfl⟩
      ·refine wp_condF F rfl hc5 ?_
       refine wp_skip ?_
       refine inb_n ?_
       refine then_n ?_
       refine wp_region_lit ?_
       obtain ⟨z1, hz1, hm⟩ := bind_some hm
       refine wE (ev_int rfl rfl (bo_add hz1)) F S rfl fun a F=>?_
       refine wE (ev_move rfl) F S rfl fun a F=>?_
       refine wpList_nil ?_
       refine then_n ?_
       obtain rfl := sinj hm
       refine ⟨_, rfl, ?_⟩
       replace S : St g6 [[bx b2 #[.i6 0, .i6 0] 24], [bx b1 #[vp_1] 38]] fr w := St.tail [[bx b2 #[.i6 0, .i6 0] 24], [bx b1 #[vp_1] 38]] _ ((S.frontC 2 rfl).frontC 2 rfl)
       exact ⟨g6, F.sub ⟨rfl, rfl, rfl, rfl, rfl, rfl, trivial⟩, (l5.trans l6), S⟩
     ·refine wp_condF F rfl hc4 ?_
      refine wp_exit ?_
      refine then_e ?_
      refine then_e ?_
      refine inb_x ?_
      refine then_n ?_
      obtain rfl := sinj hm
      obtain rfl := hfin1 _ rfl
      clear hm
      have hm : (textpatch_Apply.j1 p_ text : Option ((List ByteArray) × Fault)) = some _ := hmo1
      exact ⟨g5, F.sub ⟨rfl, rfl, rfl, trivial⟩, l5, S, hm⟩
   ·clear F S hm; rintro a w ⟨g3, F, l3, S, hm⟩
    refine wp_seq ?_
    refine wp_region_lit ?_
    refine wE (ev_fieldAddr' tu38 tf38_0 (z := 0) ts36 rfl ⟨_, rfl⟩ rfl) F S rfl fun a F=>?_
    refine wE (ev_load1 tu36 rfl rfl (box_ptr (cells := [vp_1]) 1 rfl 0 rfl (lb rfl))) F S rfl fun a F=>?_
    refine wE (ev_move rfl) F S rfl fun a F=>?_
    refine wE (ev_move rfl) F S rfl fun a F=>?_
    refine wE (ev_lenSh htext1 rfl tu31) F S rfl fun a F=>?_
    obtain ⟨y3, hy3, hm⟩ := bind_some hm
    refine wl_call0 (wn rfl) rfl F rfl (textpatch_Raw_ok (fr := (fl [[bx b2 #[.i6 0, .i6 0] 24], [bx b1 #[vp_1] 38]] fr)) p_.Hunks vp_1 (hp_1.mono ((l1.trans l2).trans l3)) text vtext1 (htext1.mono ((l1.trans l2).trans l3)) 0 (text.length : Int) S hy3) rfl tc39 rfl rfl ?_; clear F a S
    rintro _ a w ⟨g4, v1, c1, l4, S, h1, rfl⟩ F; replace S : St g4 [c1, [bx b2 #[.i6 0, .i6 0] 24], [bx b1 #[vp_1] 38]] fr w := S
    refine wE (ev_assign rfl) F S rfl fun a F=>?_
    refine wpList_nil ?_
    refine then_n ?_
    refine wp_seq ?_
    refine wp_seq ?_
    refine wp_region_lit ?_
    refine wE (ev_move rfl) F S rfl fun a F=>?_
    refine wE (ev_lenOw h1 rfl tu31) F S rfl fun a F=>?_
    refine wE (ev_int rfl rfl (bo_gtr _ _ _ _)) F S rfl fun a F=>?_
    refine wpList_nil ?_
    refine then_n ?_
    obtain ⟨hc3, hm⟩ | ⟨hc3, hm⟩ := ite_or hm
    ·refine wp_condT F rfl hc3 ?_
     refine wp_seq ?_
     refine wp_region_lit ?_
     refine wE (ev_build (parts := [(0, .const (.i6 10)), (1, .const (.i6 (-1)))]) (vs := [(0, .i6 10), (1, .i6 (-1))]) rfl (fun w => tb24_0_1 10 (-1) w)) F S rfl fun a F=>?_
     refine wE (ev_assign rfl) F S rfl fun a F=>?_
     refine wl_storeC (wn rfl) rfl F S rfl rfl (vs := [.i6 10, .i6 (-1)]) rfl ts24 (one_cons rfl (one_cons rfl one_nil)) (k := 1) rfl (lb rfl) (c' := #[.i6 10, .i6 (-1)]) rfl rfl ?_; clear S; intro w S
     refine wpList_nil ?_
     refine then_n ?_
     refine wp_ret ?_
     refine then_r ?_
     obtain rfl := sinj hm
     replace S : St g4 [[], c1, [bx b2 #[.i6 10, .i6 (-1)] 24], [bx b1 #[vp_1] 38]] fr w := S
     refine post_r _ F rfl (ar_cons (resT rfl) (ar_cons (resA rfl tu24 rfl (box_ptr (cells := [.i6 10, .i6 (-1)]) 2 rfl 0 rfl (lb rfl) w S) ts24) ar_nil)) ?_
     replace S : St g4 [[]] fr w := St.tail [[]] _ (S.frontC 0 rfl)
     exact ⟨_, rfl, g4, (nilS), [], (((l1.trans l2).trans l3).trans l4), S, (OwnS.nil _), rfl⟩
    ·refine wp_condF F rfl hc3 ?_
     refine wp_skip ?_
     refine then_n ?_
     refine wp_seq ?_
     refine wp_region_lit ?_
     refine wE (ev_move rfl) F S rfl fun a F=>?_
     refine wE (ev_build (parts := []) (vs := []) rfl (fun w => tb24_  w)) F S rfl fun a F=>?_
     refine wE (ev_assign rfl) F S rfl fun a F=>?_
     refine wl_storeC (wn rfl) rfl F S rfl rfl (vs := [.i6 0, .i6 0]) rfl ts24 (one_cons rfl (one_cons rfl one_nil)) (k := 1) rfl (lb rfl) (c' := #[.i6 0, .i6 0]) rfl rfl ?_; clear S; intro w S
     refine wpList_nil ?_
     refine then_n ?_
     refine wp_ret ?_
     obtain rfl := sinj hm
     refine post_r _ F rfl (ar_cons (resT rfl) (ar_cons (resA rfl tu24 rfl (box_ptr (cells := [.i6 0, .i6 0]) 1 rfl 0 rfl (lb rfl) w S) ts24) ar_nil)) ?_
     replace S : St g4 [c1] fr w := St.tail [c1] _ (S.frontC 0 rfl)
     exact ⟨_, rfl, g4, v1, c1, (((l1.trans l2).trans l3).trans l4), S, h1, rfl⟩

theorem stack_Apply_ok {g : Gh} {fr : Hl} {w : World} {r : (List ByteArray) × Fault} (base : (List ByteArray)) (vbase1 : Value) (hbase1 : RepSl g base vbase1) (patches : (List Patch)) (vpatches1 : Value) (hpatches1 : RepSl g patches vpatches1) (S : St g [] fr w) (hm : stack_Apply base patches = some r) :
  Calls Try.prog 16 [vbase1, vpatches1].toArray w (fun en w' => ∃ v, en = .returned v ∧ ∃ (g' : Gh) (v1 : Value) (c1 : Hl), Le g g' ∧ St g' [c1] fr w' ∧ OwnS g' r.1 v1 c1 ∧ .tuple #[v1, .agg #[.i6 r.2.Code, .i6 r.2.Index]] = v) := by
 unfold stack_Apply at hm
 refine calls_enter (fn := Try.f16) Try.func16 rfl Try.ntmps16 (lb rfl) ?_
 intro a F
 replace F : Fr 51 a [(0, vbase1), (1, vpatches1)] := F
 refine wp_seq ?_
 refine wp_region_lit ?_
 refine wE (ev_assign rfl) F S rfl fun a F=>?_
 refine wl_alloc (wn rfl) rfl tz24 (cs := [.i6 0, .i6 0]) rfl F S rfl rfl ?_; clear F a S; rintro b1 a w F S
 refine wpList_nil ?_
 refine then_n ?_
 refine wp_seq ?_
 refine wp_seq ?_
 refine wp_region_lit ?_
 refine wE (ev_move rfl) F S rfl fun a F=>?_
 obtain ⟨y1, hy1, hm⟩ := bind_some hm
 refine wl_call0 (wn rfl) rfl F rfl (stack_check_ok (fr := (fl [[bx b1 #[.i6 0, .i6 0] 24]] fr)) patches vpatches1 hpatches1 S hy1) rfl tc23 rfl rfl ?_; clear F a S
 rintro _ a w ⟨g1, l1, S, rfl⟩ F; replace S : St g1 [[bx b1 #[.i6 0, .i6 0] 24]] fr w := S
 refine wl_alloc (wn rfl) rfl tz24 (cs := [.i6 0, .i6 0]) rfl F S rfl rfl ?_; clear F a S; rintro b2 a w F S
 refine wl_storeC (wn rfl) rfl F S rfl rfl (vs := [.i6 y1.Code, .i6 y1.Index]) rfl ts24 (one_cons rfl (one_cons rfl one_nil)) (k := 0) rfl (lb rfl) (c' := #[.i6 y1.Code, .i6 y1.Index]) rfl rfl ?_; clear S; intro w S
 refine wpList_nil ?_
 refine then_n ?_
 refine wp_seq ?_
 refine wp_region_lit ?_
 refine wE (ev_loadA tu24 rfl (cs := [.i6 y1.Code, .i6 y1.Index]) ts24 rfl (box_ptr (cells := [.i6 y1.Code, .i6 y1.Index]) 0 rfl 0 rfl (lb rfl))) F S rfl fun a F=>?_
 refine wE (ev_build (parts := []) (vs := []) rfl (fun w => tb24_  w)) F S rfl fun a F=>?_
 refine wE (ev_neS tu24 tqa24 tqb24 tqc24 (xs := [.i6 y1.Code, .i6 y1.Index]) (ys := [.i6 0, .i6 0]) rfl rfl ⟨_, _, rfl, by decide, ⟨_, _, rfl, rfl, leaf_int tu3⟩, ⟨_, _, rfl, by decide, ⟨_, _, rfl, rfl, leaf_int tu3⟩, rfl⟩⟩) F S rfl fun a F=>?_
 refine wpList_nil ?_
 refine then_n ?_
 obtain ⟨hc1, hm⟩ | ⟨hc1, hm⟩ := ite_or hm
 ·refine wp_condT F rfl hc1 ?_
  refine wp_seq ?_
  refine wp_dv [] mo S ?_; clear S; intro ok1 w S
  refine dv_ev ok1 0 rfl (ev_loadA tu24 rfl (cs := [.i6 y1.Code, .i6 y1.Index]) ts24 rfl (box_ptr (cells := [.i6 y1.Code, .i6 y1.Index]) 0 rfl 0 rfl (lb rfl))) F S rfl fun a F=>?_
  refine dv_et ok1 1 rfl (ev_assign rfl) F rfl fun a F=>?_
  refine dv_op ok1 2 rfl [] ?_
  refine wl_storeC (wn rfl) rfl F S rfl rfl (vs := [.i6 y1.Code, .i6 y1.Index]) rfl ts24 (one_cons rfl (one_cons rfl one_nil)) (k := 1) rfl (lb rfl) (c' := #[.i6 y1.Code, .i6 y1.Index]) rfl rfl ?_; clear S; intro w S
  refine dv_nx trivial ?_
  refine dv_fin ok1 ?_
  refine then_n ?_
  refine wp_ret ?_
  refine then_r ?_
  obtain rfl := sinj hm
  replace S : St g1 [[], [bx b2 #[.i6 y1.Code, .i6 y1.Index] 24], [bx b1 #[.i6 y1.Code, .i6 y1.Index] 24]] fr w := S
  refine post_r _ F rfl (ar_cons (resT rfl) (ar_cons (resA rfl tu24 rfl (box_ptr (cells := [.i6 y1.Code, .i6 y1.Index]) 2 rfl 0 rfl (lb rfl) w S) ts24) ar_nil)) ?_
  replace S : St g1 [[]] fr w := St.tail [[]] _ (S.frontC 0 rfl)
  exact ⟨_, rfl, g1, (nilS), [], l1, S, (OwnS.nil _), rfl⟩
 ·refine wp_condF F rfl hc1 ?_
  refine wp_skip ?_
  refine then_n ?_
  refine wp_seq ?_
  refine wp_seq ?_
  refine wp_region_lit ?_
  refine wE (ev_move rfl) F S rfl fun a F=>?_
  obtain ⟨y2, hy2, hm⟩ := bind_some hm
  refine wl_call0 (wn rfl) rfl F rfl (lines_Second_ok (fr := (fl [[bx b2 #[.i6 y1.Code, .i6 y1.Index] 24], [bx b1 #[.i6 0, .i6 0] 24]] fr)) base vbase1 (hbase1.mono l1) (-2) S hy2) rfl tc30 rfl rfl ?_; clear F a S
  rintro _ a w ⟨g2, l2, S, rfl⟩ F; replace S : St g2 [[bx b2 #[.i6 y1.Code, .i6 y1.Index] 24], [bx b1 #[.i6 0, .i6 0] 24]] fr w := S
  refine wl_alloc (wn rfl) rfl tz24 (cs := [.i6 0, .i6 0]) rfl F S rfl rfl ?_; clear F a S; rintro b3 a w F S
  refine wl_storeC (wn rfl) rfl F S rfl rfl (vs := [.i6 y2.Code, .i6 y2.Index]) rfl ts24 (one_cons rfl (one_cons rfl one_nil)) (k := 0) rfl (lb rfl) (c' := #[.i6 y2.Code, .i6 y2.Index]) rfl rfl ?_; clear S; intro w S
  refine wpList_nil ?_
  refine then_n ?_
  refine wp_seq ?_
  refine wp_region_lit ?_
  refine wE (ev_loadA tu24 rfl (cs := [.i6 y2.Code, .i6 y2.Index]) ts24 rfl (box_ptr (cells := [.i6 y2.Code, .i6 y2.Index]) 0 rfl 0 rfl (lb rfl))) F S rfl fun a F=>?_
  refine wE (ev_build (parts := []) (vs := []) rfl (fun w => tb24_  w)) F S rfl fun a F=>?_
  refine wE (ev_neS tu24 tqa24 tqb24 tqc24 (xs := [.i6 y2.Code, .i6 y2.Index]) (ys := [.i6 0, .i6 0]) rfl rfl ⟨_, _, rfl, by decide, ⟨_, _, rfl, rfl, leaf_int tu3⟩, ⟨_, _, rfl, by decide, ⟨_, _, rfl, rfl, leaf_int tu3⟩, rfl⟩⟩) F S rfl fun a F=>?_
  refine wpList_nil ?_
  refine then_n ?_
  obtain ⟨hc2, hm⟩ | ⟨hc2, hm⟩ := ite_or hm
  ·refine wp_condT F rfl hc2 ?_
   refine wp_seq ?_
   refine wp_dv [] mo S ?_; clear S; intro ok2 w S
   refine dv_ev ok2 0 rfl (ev_loadA tu24 rfl (cs := [.i6 y2.Code, .i6 y2.Index]) ts24 rfl (box_ptr (cells := [.i6 y2.Code, .i6 y2.Index]) 0 rfl 0 rfl (lb rfl))) F S rfl fun a F=>?_
   refine dv_et ok2 1 rfl (ev_assign rfl) F rfl fun a F=>?_
   refine dv_op ok2 2 rfl [] ?_
   refine wl_storeC (wn rfl) rfl F S rfl rfl (vs := [.i6 y2.Code, .i6 y2.Index]) rfl ts24 (one_cons rfl (one_cons rfl one_nil)) (k := 2) rfl (lb rfl) (c' := #[.i6 y2.Code, .i6 y2.Index]) rfl rfl ?_; clear S; intro w S
   refine dv_nx trivial ?_
   refine dv_fin ok2 ?_
   refine then_n ?_
   refine wp_ret ?_
   refine then_r ?_
   obtain rfl := sinj hm
   replace S : St g2 [[], [bx b3 #[.i6 y2.Code, .i6 y2.Index] 24], [bx b2 #[.i6 y1.Code, .i6 y1.Index] 24], [bx b1 #[.i6 y2.Code, .i6 y2.Index] 24]] fr w := S
   refine post_r _ F rfl (ar_cons (resT rfl) (ar_cons (resA rfl tu24 rfl (box_ptr (cells := [.i6 y2.Code, .i6 y2.Index]) 3 rfl 0 rfl (lb rfl) w S) ts24) ar_nil)) ?_
   replace S : St g2 [[]] fr w := St.tail [[]] _ (S.frontC 0 rfl)
   exact ⟨_, rfl, g2, (nilS), [], (l1.trans l2), S, (OwnS.nil _), rfl⟩
  ·refine wp_condF F rfl hc2 ?_
   refine wp_skip ?_
   refine then_n ?_
   refine wp_seq ?_
   refine wp_region_lit ?_
   refine wE (ev_move rfl) F S rfl fun a F=>?_
   replace S : St g2 [[], [bx b3 #[.i6 y2.Code, .i6 y2.Index] 24], [bx b2 #[.i6 y1.Code, .i6 y1.Index] 24], [bx b1 #[.i6 0, .i6 0] 24]] fr w := S
   obtain ⟨cs1, hk1, hr1⟩ := RepSl.reads (hbase1.mono (l1.trans l2))
   obtain ⟨y3, hy3, hm⟩ := bind_some hm
   refine wl_append (wn rfl) rfl tu31 tu31 te9 (by decide) (by decide) F S rfl rfl (k := 0) rfl (OwnS.nil _) hk1 rfl (hr1 _ _ S) hy3 rfl rfl ?_; clear F a S
   rintro v1 c1 a w h1 S F; replace S : St g2 [c1, [bx b3 #[.i6 y2.Code, .i6 y2.Index] 24], [bx b2 #[.i6 y1.Code, .i6 y1.Index] 24], [bx b1 #[.i6 0, .i6 0] 24]] fr w := S
   refine wE (ev_assign rfl) F S rfl fun a F=>?_
   refine wpList_nil ?_
   refine then_n ?_
   refine wp_cut (fun a w => ∃ (x1 : List ByteArray) (v2 : Value) (c2 : Hl) (g3 : Gh), Fr 51 a [(8, v2), (5, bp b1 0)] ∧ Le g2 g3 ∧ St g3 [c2, [bx b1 #[.i6 0, .i6 0] 24]] fr w ∧ OwnS g3 x1 v2 c2 ∧ stack_Apply.j1 x1 = some r) ?_ ?_
   ·refine wp_seq ?_
    refine wp_region_lit ?_
    refine wE (ev_move rfl) F S rfl fun a F=>?_
    refine wE (ev_lenSh hpatches1 rfl tu22) F S rfl fun a F=>?_
    refine wE (ev_move rfl) F S rfl fun a F=>?_
    refine wpList_nil ?_
    refine then_n ?_
    refine wp_block ?_
    obtain ⟨r1, hr2, hm⟩ := bind_some hm
    have hmo1 := hm; clear hm
    refine wp_iter (σ := Int × (List ByteArray)) (ρ := ((List ByteArray) × Fault) ⊕ (List ByteArray)) (m := fun s => stack_Apply.l1 patches s.1 s.2) (I := fun s a w => match s with | (x2, x3) => ∃ (v3 : Value) (c3 : Hl) (g4 : Gh), Fr 51 a [(29, .i6 x2), (28, .i6 (patches.length : Int)), (27, vpatches1), (8, v3), (5, bp b1 0)] ∧ Le g2 g4 ∧ St g4 [c3, [bx b1 #[.i6 0, .i6 0] 24]] fr w ∧ OwnS g4 x3 v3 c3) hr2 ?_ ?_
    ·dsimp only
     replace S : St g2 [c1, [bx b1 #[.i6 0, .i6 0] 24]] fr w := St.tail [c1, [bx b1 #[.i6 0, .i6 0] 24]] _ ((S.frontC 3 rfl).frontC 1 rfl)
     exact ⟨v1, c1, g2, F.sub ⟨rfl, rfl, rfl, rfl, rfl, trivial⟩, (Le.refl _), S, h1⟩
    ·clear F S; rintro ⟨x2, x3⟩ a w x4 ⟨v3, c3, g4, F, l4, S, h3⟩ hx1 hfin1
     have hm : stack_Apply.l1 patches x2 x3 = some x4 := hx1; clear hx1
     unfold stack_Apply.l1 at hm
     refine wp_seq ?_
     refine wp_region_lit ?_
     refine wE (ev_int rfl rfl (bo_lss _ _ _ _)) F S rfl fun a F=>?_
     refine wpList_nil ?_
     refine then_n ?_
     refine wp_seq ?_
     obtain ⟨hc3, hm⟩ | ⟨hc3, hm⟩ := ite_or hm
     ·refine wp_condT F rfl hc3 ?_
      refine wp_skip ?_
      refine then_n ?_
      refine wp_seq ?_
      refine wp_block ?_
      refine wp_seq ?_
      refine wp_region_lit ?_
      refine wE (ev_move rfl) F S rfl fun a F=>?_
      obtain ⟨y4, hy4, hm⟩ := bind_some hm
      obtain ⟨cs2, hr3, hp1⟩ := elemS (hpatches1.mono ((l1.trans l2).trans l4)) hy4
      obtain ⟨v4, rfl, h4⟩ := rep_Patch hr3
      refine wE (ev_idxS (hpatches1.mono ((l1.trans l2).trans l4)) hy4 tu22 ts38 rfl rfl) F S rfl fun a F=>?_
      refine wE (ev_loadA tu38 rfl (cs := [v4]) ts38 rfl (ptr_mono (cks := [c3, [bx b1 #[.i6 0, .i6 0] 24]]) (fr := fr) hp1 (Le.refl _))) F S rfl fun a F=>?_
      refine wl_alloc (wn rfl) rfl tz38 (cs := [nilS]) rfl F S rfl rfl ?_; clear F a S; rintro b4 a w F S
      refine wE (ev_assign rfl) F S rfl fun a F=>?_
      refine wl_storeC (wn rfl) rfl F S rfl rfl (vs := [v4]) rfl ts38 (one_cons h4.one one_nil) (k := 0) rfl (lb rfl) (c' := #[v4]) rfl rfl ?_; clear S; intro w S
      refine wpList_nil ?_
      refine then_n ?_
      refine wp_seq ?_
      refine wp_region_lit ?_
      refine wE (ev_loadA tu38 rfl (cs := [v4]) ts38 rfl (box_ptr (cells := [v4]) 0 rfl 0 rfl (lb rfl))) F S rfl fun a F=>?_
      refine wE (ev_move rfl) F S rfl fun a F=>?_
      obtain ⟨g5, l5, S, h5⟩ : ∃ gz, Le g4 gz ∧ St gz [[bx b4 #[v4] 38], [bx b1 #[.i6 0, .i6 0] 24]] fr w ∧ RepSl gz x3 v3 := ⟨_, Le.add _ _, S.freeze 1 rfl, OwnS.freeze (S.front 1 rfl) h3⟩
      obtain ⟨y5, hy5, hm⟩ := bind_some hm
      refine wl_call0 (wn rfl) rfl F rfl (textpatch_Apply_ok (fr := (fl [[bx b4 #[v4] 38], [bx b1 #[.i6 0, .i6 0] 24]] fr)) y4 v4 (h4.mono l5) x3 v3 h5 S hy5) rfl tc19 rfl rfl ?_; clear F a S
      rintro _ a w ⟨g6, v5, c4, l6, S, h6, rfl⟩ F; replace S : St g6 [c4, [bx b4 #[v4] 38], [bx b1 #[.i6 0, .i6 0] 24]] fr w := S
      refine wE (ev_move rfl) F S rfl fun a F=>?_
      refine wE (ev_extract rfl rfl) F S rfl fun a F=>?_
      refine wE (ev_extract rfl rfl) F S rfl fun a F=>?_
      refine wl_alloc (wn rfl) rfl tz24 (cs := [.i6 0, .i6 0]) rfl F S rfl rfl ?_; clear F a S; rintro b5 a w F S
      refine wE (ev_assign rfl) F S rfl fun a F=>?_
      refine wl_storeC (wn rfl) rfl F S rfl rfl (vs := [.i6 y5.2.Code, .i6 y5.2.Index]) rfl ts24 (one_cons rfl (one_cons rfl one_nil)) (k := 0) rfl (lb rfl) (c' := #[.i6 y5.2.Code, .i6 y5.2.Index]) rfl rfl ?_; clear S; intro w S
      refine wpList_nil ?_
      refine then_n ?_
      refine wp_seq ?_
      refine wp_seq ?_
      refine wp_region_lit ?_
      refine wE (ev_loadA tu24 rfl (cs := [.i6 y5.2.Code, .i6 y5.2.Index]) ts24 rfl (box_ptr (cells := [.i6 y5.2.Code, .i6 y5.2.Index]) 0 rfl 0 rfl (lb rfl))) F S rfl fun a F=>?_
      refine wE (ev_build (parts := []) (vs := []) rfl (fun w => tb24_  w)) F S rfl fun a F=>?_
      refine wE (ev_neS tu24 tqa24 tqb24 tqc24 (xs := [.i6 y5.2.Code, .i6 y5.2.Index]) (ys := [.i6 0, .i6 0]) rfl rfl ⟨_, _, rfl, by decide, ⟨_, _, rfl, rfl, leaf_int tu3⟩, ⟨_, _, rfl, by decide, ⟨_, _, rfl, rfl, leaf_int tu3⟩, rfl⟩⟩) F S rfl fun a F=>?_
      refine wpList_nil ?_
      refine then_n ?_
      obtain ⟨hc4, hm⟩ | ⟨hc4, hm⟩ := ite_or hm
      ·refine wp_condT F rfl hc4 ?_
       refine wp_seq ?_
       refine wp_dv [] mo S ?_; clear S; intro ok3 w S
       refine dv_et ok3 0 rfl (ev_fieldAddr' tu24 tf24_0 (z := 0) ts3 rfl ⟨_, rfl⟩ rfl) F rfl fun a F=>?_
       refine dv_ev ok3 1 rfl (ev_load1 tu3 rfl rfl (box_ptr (cells := [.i6 y5.2.Code]) 0 rfl 0 rfl (lb rfl))) F S rfl fun a F=>?_
       refine dv_et ok3 2 rfl (ev_move rfl) F rfl fun a F=>?_
       refine dv_et ok3 3 rfl (ev_build (parts := [(0, .tmp 44), (1, .tmp 45)]) (vs := [(0, .i6 y5.2.Code), (1, .i6 x2)]) rfl (fun w => tb24_0_1 y5.2.Code x2 w)) F rfl fun a F=>?_
       refine dv_et ok3 4 rfl (ev_assign rfl) F rfl fun a F=>?_
       refine dv_op ok3 5 rfl [] ?_
       refine wl_storeC (wn rfl) rfl F S rfl rfl (vs := [.i6 y5.2.Code, .i6 x2]) rfl ts24 (one_cons rfl (one_cons rfl one_nil)) (k := 3) rfl (lb rfl) (c' := #[.i6 y5.2.Code, .i6 x2]) rfl rfl ?_; clear S; intro w S
       refine dv_nx trivial ?_
       refine dv_fin ok3 ?_
       refine then_n ?_
       refine wp_ret ?_
       refine then_r ?_
       refine inb_r ?_
       refine then_r ?_
       refine then_r ?_
       refine inb_r ?_
       refine then_r ?_
       obtain rfl := sinj hm
       obtain rfl := hfin1 _ rfl
       clear hm
       have hm : (some ([], ({ Code := y5.2.Code, Index := x2 } : Fault)) : Option ((List ByteArray) × Fault)) = some _ := hmo1
       obtain rfl := sinj hm
       replace S : St g6 [[], [bx b5 #[.i6 y5.2.Code, .i6 y5.2.Index] 24], c4, [bx b4 #[v4] 38], [bx b1 #[.i6 y5.2.Code, .i6 x2] 24]] fr w := S
       refine post_r _ F rfl (ar_cons (resT rfl) (ar_cons (resA rfl tu24 rfl (box_ptr (cells := [.i6 y5.2.Code, .i6 x2]) 4 rfl 0 rfl (lb rfl) w S) ts24) ar_nil)) ?_
       replace S : St g6 [[]] fr w := St.tail [[]] _ (S.frontC 0 rfl)
       exact ⟨_, rfl, g6, (nilS), [], ((((l1.trans l2).trans l4).trans l5).trans l6), S, (OwnS.nil _), rfl⟩
      ·refine wp_condF F rfl hc4 ?_
       refine wp_skip ?_
       refine then_n ?_
       refine wp_region_lit ?_
       refine wE (ev_move rfl) F S rfl fun a F=>?_
       refine wE (ev_assign rfl) F S rfl fun a F=>?_
       refine wpList_nil ?_
       refine inb_n ?_
       refine then_n ?_
       refine wp_region_lit ?_
       obtain ⟨z1, hz1, hm⟩ := bind_some hm
       refine wE (ev_int rfl rfl (bo_add hz1)) F S rfl fun a F=>?_
       refine wE (ev_move rfl) F S rfl fun a F=>?_
       refine wpList_nil ?_
       refine then_n ?_
       obtain rfl := sinj hm
       refine ⟨_, rfl, ?_⟩
       dsimp only
       replace S : St g6 [c4, [bx b1 #[.i6 0, .i6 0] 24]] fr w := St.tail [c4, [bx b1 #[.i6 0, .i6 0] 24]] _ ((S.frontC 3 rfl).frontC 2 rfl)
       exact ⟨v5, c4, g6, F.sub ⟨rfl, rfl, rfl, rfl, rfl, trivial⟩, ((l4.trans l5).trans l6), S, h6⟩
     ·refine wp_condF F rfl hc3 ?_
      refine wp_exit ?_
      refine then_e ?_
      refine then_e ?_
      refine inb_x ?_
      refine then_n ?_
      obtain rfl := sinj hm
      obtain rfl := hfin1 _ rfl
      clear hm
      have hm : (stack_Apply.j1 x3 : Option ((List ByteArray) × Fault)) = some _ := hmo1
      exact ⟨x3, v3, c3, g4, F.sub ⟨rfl, rfl, trivial⟩, l4, S, h3, hm⟩
   ·clear F S hm; rintro a w ⟨x1, v2, c2, g3, F, l3, S, h2, hm⟩
    refine wp_seq ?_
    refine wp_region_lit ?_
    refine wE (ev_move rfl) F S rfl fun a F=>?_
    refine wE (ev_build (parts := []) (vs := []) rfl (fun w => tb24_  w)) F S rfl fun a F=>?_
    refine wE (ev_assign rfl) F S rfl fun a F=>?_
    refine wl_storeC (wn rfl) rfl F S rfl rfl (vs := [.i6 0, .i6 0]) rfl ts24 (one_cons rfl (one_cons rfl one_nil)) (k := 1) rfl (lb rfl) (c' := #[.i6 0, .i6 0]) rfl rfl ?_; clear S; intro w S
    refine wpList_nil ?_
    refine then_n ?_
    refine wp_ret ?_
    obtain rfl := sinj hm
    refine post_r _ F rfl (ar_cons (resT rfl) (ar_cons (resA rfl tu24 rfl (box_ptr (cells := [.i6 0, .i6 0]) 1 rfl 0 rfl (lb rfl) w S) ts24) ar_nil)) ?_
    replace S : St g3 [c2] fr w := St.tail [c2] _ (S.frontC 0 rfl)
    exact ⟨_, rfl, g3, v2, c2, ((l1.trans l2).trans l3), S, h2, rfl⟩

theorem changeforgelaw2_single_ok {g : Gh} {fr : Hl} {w : World} {r : Patch} (at_ : Int) (old_ : (List ByteArray)) (vold_1 : Value) (hold_1 : RepSl g old_ vold_1) (new_ : (List ByteArray)) (vnew_1 : Value) (hnew_1 : RepSl g new_ vnew_1) (S : St g [] fr w) (hm : changeforgelaw2_single at_ old_ new_ = some r) :
  Calls Try.prog 29 [.i6 at_, vold_1, vnew_1].toArray w (fun en w' => ∃ v, en = .returned v ∧ ∃ (g' : Gh) (v1 : Value) (c1 : Hl), Le g g' ∧ St g' [c1] fr w' ∧ OwnS g' r.Hunks v1 c1 ∧ .agg #[v1] = v) := by
 unfold changeforgelaw2_single at hm
 refine calls_enter (fn := Try.f29) Try.func29 rfl Try.ntmps29 (lb rfl) ?_
 intro a F
 replace F : Fr 13 a [(0, .i6 at_), (1, vold_1), (2, vnew_1)] := F
 refine wp_seq ?_
 refine wp_region_lit ?_
 refine wl_alloc (wn rfl) rfl tz38 (cs := [nilS]) rfl F S rfl rfl ?_; clear F a S; rintro b1 a w F S
 refine wpList_nil ?_
 refine then_n ?_
 refine wp_seq ?_
 refine wp_region_lit ?_
 refine wE (ev_move rfl) F S rfl fun a F=>?_
 refine wE (ev_move rfl) F S rfl fun a F=>?_
 refine wE (ev_move rfl) F S rfl fun a F=>?_
 refine wE (ev_build (parts := [(0, .tmp 7), (1, .tmp 8), (2, .tmp 9)]) (vs := [(0, .i6 at_), (1, vold_1), (2, vnew_1)]) rfl (fun w => tb60_0_1_2 at_ vold_1 (RepSl.isSl hold_1) vnew_1 (RepSl.isSl hnew_1) w)) F S rfl fun a F=>?_
 refine wl_lit (l := ([({ At := at_, Old := old_, New := new_ } : Hunk)] : List Hunk)) (vs := [.agg #[.i6 at_, vold_1, vnew_1]]) (parts := [(0, .tmp 10)]) (wn rfl) rfl rfl rfl tu36 te60 (sz_cons rfl sz_nil) rfl (Cat.cons (rep_Hunk_mk (x := ({ At := at_, Old := old_, New := new_ } : Hunk)) hold_1 hnew_1) (Cat.nil _)) (coa_cons rfl coa_nil) rfl F S rfl rfl ?_; clear F a S
 rintro v1 c1 a w h1 F S
 refine wE (ev_build (parts := [(0, .tmp 11)]) (vs := [(0, v1)]) rfl (fun w => tb38_0 v1 (OwnS.isSl h1) w)) F S rfl fun a F=>?_
 refine wl_storeC (wn rfl) rfl F S rfl rfl (vs := [v1]) rfl ts38 (one_cons (OwnS.one h1) one_nil) (k := 1) rfl (lb rfl) (c' := #[v1]) rfl rfl ?_; clear S; intro w S
 refine wpList_nil ?_
 refine then_n ?_
 refine wp_ret ?_
 obtain rfl := sinj hm
 refine post_r _ F rfl (ar_cons (resA rfl tu38 rfl (box_ptr (cells := [v1]) 1 rfl 0 rfl (lb rfl) w S) ts38) ar_nil) ?_
 replace S : St g [c1] fr w := St.tail [c1] _ (S.frontC 0 rfl)
 exact ⟨_, rfl, g, v1, c1, (Le.refl _), S, h1, rfl⟩

theorem changeforgelaw2_dropped_ok {g : Gh} {fr : Hl} {w : World} {r : Bool}  (S : St g [] fr w) (hm : changeforgelaw2_dropped = some r) :
  Calls Try.prog 15 [].toArray w (fun en w' => ∃ v, en = .returned v ∧ ∃ (g' : Gh), Le g g' ∧ St g' [] fr w' ∧ .bool r = v) := by
 unfold changeforgelaw2_dropped at hm
 refine calls_enter (fn := Try.f15) Try.func15 rfl Try.ntmps15 (lb rfl) ?_
 intro a F
 replace F : Fr 46 a [] := F
 refine wp_seq ?_
 refine wp_region_lit ?_
 refine wE (ev_assign rfl) F S rfl fun a F=>?_
 refine wpList_nil ?_
 refine then_n ?_
 refine wp_seq ?_
 refine wp_region_lit ?_
 refine wl_lit (l := ([(⟨#[97]⟩ : ByteArray)] : List ByteArray)) (vs := [.string (⟨#[97]⟩ : ByteArray)]) (parts := [(0, .const (.string (⟨#[97]⟩ : ByteArray)))]) (wn rfl) rfl rfl rfl tu31 te9 (sz_cons rfl sz_nil) rfl (Cat.cons (show Rep.rep _ (⟨#[97]⟩ : ByteArray) _ from rfl) (Cat.nil _)) (coa_cons rfl coa_nil) rfl F S rfl rfl ?_; clear F a S
 rintro v1 c1 a w h1 F S
 obtain ⟨g1, l1, S, h2⟩ : ∃ gz, Le g gz ∧ St gz [] fr w ∧ RepSl gz ([(⟨#[97]⟩ : ByteArray)] : List ByteArray) v1 := ⟨_, Le.add _ _, S.freeze 0 rfl, OwnS.freeze (S.front 0 rfl) h1⟩
 obtain ⟨y1, hy1, hm⟩ := bind_some hm
 refine wl_call0 (wn rfl) rfl F rfl (changeforgelaw2_single_ok 0 ([] : List ByteArray) (nilS) (RepSl.nil _) ([(⟨#[97]⟩ : ByteArray)] : List ByteArray) v1 h2 S hy1) rfl tc29 rfl rfl ?_; clear F a S
 rintro _ a w ⟨g2, v2, c2, l2, S, h3, rfl⟩ F; replace S : St g2 [c2] fr w := S
 refine wl_alloc (wn rfl) rfl tz38 (cs := [nilS]) rfl F S rfl rfl ?_; clear F a S; rintro b1 a w F S
 refine wl_storeC (wn rfl) rfl F S rfl rfl (vs := [v2]) rfl ts38 (one_cons (OwnS.one h3) one_nil) (k := 0) rfl (lb rfl) (c' := #[v2]) rfl rfl ?_; clear S; intro w S
 refine wpList_nil ?_
 refine then_n ?_
 refine wp_seq ?_
 refine wp_dv [] mo S ?_; clear S; intro ok1 w S
 refine dv_ev ok1 0 rfl (ev_loadA tu38 rfl (cs := [v2]) ts38 rfl (box_ptr (cells := [v2]) 0 rfl 0 rfl (lb rfl))) F S rfl fun a F=>?_
 obtain ⟨y2, hy2, hm⟩ := bind_some hm
 obtain ⟨y3, hy3, hm⟩ := bind_some hm
 refine dv_cut [0, 1, 2, 3, 4, 5, 6, 7, 8, 9, 10, 11] [] (fun a w => ∃ (v7 v8 : Value) (b3 : Nat) (c7 : Hl) (g9 : Gh), Fr 46 a [(3, .bool y3.2.1), (2, v7), (4, bp b3 0), (17, .agg #[.i6 y3.2.2.Code, .i6 y3.2.2.Index]), (1, bp b1 0)] ∧ Le g2 g9 ∧ St g9 [c7, [bx b3 #[.i6 0, .i6 0] 24], [bx b1 #[v8] 38]] fr w ∧ OwnS g9 y3.1 v7 c7 ∧ RepSl g9 y1.Hunks v8 ∧ changeforgelaw2_dropped.j1 y1 y3 = some r) ?_ ?_
 ·intro HJ
  refine dv_fork ok1 1 [9] (fk 1 rfl [(0, .agg #[v2])] ?_ (fk 9 rfl [(0, .agg #[v2])] ?_ trivial))
  ·refine wl_lit (l := ([(⟨#[98]⟩ : ByteArray)] : List ByteArray)) (vs := [.string (⟨#[98]⟩ : ByteArray)]) (parts := [(0, .const (.string (⟨#[98]⟩ : ByteArray)))]) (wn rfl) rfl rfl rfl tu31 te9 (sz_cons rfl sz_nil) rfl (Cat.cons (show Rep.rep _ (⟨#[98]⟩ : ByteArray) _ from rfl) (Cat.nil _)) (coa_cons rfl coa_nil) rfl F S rfl rfl ?_; clear F a S
   rintro v3 c3 a w h4 F S
   refine dv_nx ⟨yl_ev rfl rfl (ev_loadA tu38 rfl (cs := [v2]) ts38 rfl (box_ptr (cells := [v2]) 1 rfl 0 rfl (lb rfl))) F S, trivial⟩ ?_
   refine dv_fork ok1 2 [9] (fk 2 rfl [(0, .agg #[v2])] ?_ (fk 9 rfl [(0, .agg #[v2])] ?_ trivial))
   ·obtain ⟨g3, l3, S, h5⟩ : ∃ gz, Le g2 gz ∧ St gz [[bx b1 #[v2] 38], c2] fr w ∧ RepSl gz ([(⟨#[98]⟩ : ByteArray)] : List ByteArray) v3 := ⟨_, Le.add _ _, S.freeze 0 rfl, OwnS.freeze (S.front 0 rfl) h4⟩
    refine wl_call0 (wn rfl) rfl F rfl (changeforgelaw2_single_ok (fr := (fl [[bx b1 #[v2] 38], c2] fr)) 1 ([] : List ByteArray) (nilS) (RepSl.nil _) ([(⟨#[98]⟩ : ByteArray)] : List ByteArray) v3 h5 S hy2) rfl tc29 rfl rfl ?_; clear F a S
    rintro _ a w ⟨g4, v4, c4, l4, S, h6, rfl⟩ F; replace S : St g4 [c4, [bx b1 #[v2] 38], c2] fr w := S
    refine dv_nx ⟨yl_ev rfl rfl (ev_loadA tu38 rfl (cs := [v2]) ts38 rfl (box_ptr (cells := [v2]) 1 rfl 0 rfl (lb rfl))) F S, trivial⟩ ?_
    refine dv_fork ok1 3 [9] (fk 3 rfl [] ?_ (fk 9 rfl [(0, .agg #[v2])] ?_ trivial))
    ·obtain ⟨g5, l5, S, h7⟩ : ∃ gz, Le g4 gz ∧ St gz [c4, [bx b1 #[v2] 38]] fr w ∧ RepSl gz y1.Hunks v2 := ⟨_, Le.add _ _, S.freeze 2 rfl, OwnS.freeze (S.front 2 rfl) (h3.mono (l3.trans l4))⟩
     obtain ⟨g6, l6, S, h8⟩ : ∃ gz, Le g5 gz ∧ St gz [[bx b1 #[v2] 38]] fr w ∧ RepSl gz y2.Hunks v4 := ⟨_, Le.add _ _, S.freeze 0 rfl, OwnS.freeze (S.front 0 rfl) (h6.mono l5)⟩
     refine wl_lit (l := ([y1, y2] : List Patch)) (vs := [.agg #[v2], .agg #[v4]]) (parts := [(0, .tmp 10), (1, .tmp 12)]) (wn rfl) rfl rfl rfl tu22 te38 (sz_cons rfl (sz_cons rfl sz_nil)) rfl (Cat.cons (rep_Patch_mk (x := y1) (h7.mono l6)) (Cat.cons (rep_Patch_mk (x := y2) h8) (Cat.nil _))) (coa_cons rfl (coa_cons rfl coa_nil)) rfl F S rfl rfl ?_; clear F a S
     rintro v5 c5 a w h9 F S
     refine dv_nx trivial ?_
     refine dv_fork ok1 4 [9] (fk 4 rfl [] ?_ (fk 9 rfl [] ?_ trivial))
     ·obtain ⟨g7, l7, S, h10⟩ : ∃ gz, Le g6 gz ∧ St gz [[bx b1 #[v2] 38]] fr w ∧ RepSl gz ([y1, y2] : List Patch) v5 := ⟨_, Le.add _ _, S.freeze 0 rfl, OwnS.freeze (S.front 0 rfl) h9⟩
      refine wl_call0 (wn rfl) rfl F rfl (stack_Drop_ok (fr := (fl [[bx b1 #[v2] 38]] fr)) ([y1, y2] : List Patch) v5 h10 1 S hy3) rfl tc12 rfl rfl ?_; clear F a S
      rintro _ a w ⟨g8, v6, c6, l8, S, h11, rfl⟩ F; replace S : St g8 [c6, [bx b1 #[v2] 38]] fr w := S
      refine dv_nx trivial ?_
      refine dv_et ok1 5 rfl (ev_move rfl) F rfl fun a F=>?_
      refine dv_et ok1 6 rfl (ev_extract rfl rfl) F rfl fun a F=>?_
      refine dv_et ok1 7 rfl (ev_extract rfl rfl) F rfl fun a F=>?_
      refine dv_et ok1 8 rfl (ev_extract rfl rfl) F rfl fun a F=>?_
      refine dv_op ok1 9 rfl [] ?_
      refine wl_alloc (wn rfl) rfl tz24 (cs := [.i6 0, .i6 0]) rfl F S rfl rfl ?_; clear F a S; rintro b2 a w F S
      refine dv_nx trivial ?_
      refine dv_et ok1 10 rfl (ev_assign rfl) F rfl fun a F=>?_
      refine dv_et ok1 11 rfl (ev_assign rfl) F rfl fun a F=>?_
      refine dv_join (HJ _ _ ?_)
      replace S : St g8 [c6, [bx b2 #[.i6 0, .i6 0] 24], [bx b1 #[v2] 38]] fr w := St.tail [c6, [bx b2 #[.i6 0, .i6 0] 24], [bx b1 #[v2] 38]] _ (((S.frontC 2 rfl).frontC 1 rfl).frontC 3 rfl)
      exact ⟨v6, v2, b2, c6, g8, F.sub ⟨rfl, rfl, rfl, rfl, rfl, trivial⟩, (((((l3.trans l4).trans l5).trans l6).trans l7).trans l8), S, h11, (h7.mono ((l6.trans l7).trans l8)), hm⟩
     ·refine wl_alloc (wn rfl) rfl tz24 (cs := [.i6 0, .i6 0]) rfl F S rfl rfl ?_; clear F a S; rintro b2 a w F S
      refine dv_nx trivial ?_
      refine dv_op ok1 4 rfl [] ?_
      obtain ⟨g7, l7, S, h10⟩ : ∃ gz, Le g6 gz ∧ St gz [[bx b2 #[.i6 0, .i6 0] 24], [bx b1 #[v2] 38]] fr w ∧ RepSl gz ([y1, y2] : List Patch) v5 := ⟨_, Le.add _ _, S.freeze 1 rfl, OwnS.freeze (S.front 1 rfl) h9⟩
      refine wl_call0 (wn rfl) rfl F rfl (stack_Drop_ok (fr := (fl [[bx b2 #[.i6 0, .i6 0] 24], [bx b1 #[v2] 38]] fr)) ([y1, y2] : List Patch) v5 h10 1 S hy3) rfl tc12 rfl rfl ?_; clear F a S
      rintro _ a w ⟨g8, v6, c6, l8, S, h11, rfl⟩ F; replace S : St g8 [c6, [bx b2 #[.i6 0, .i6 0] 24], [bx b1 #[v2] 38]] fr w := S
      refine dv_nx trivial ?_
      refine dv_et ok1 5 rfl (ev_move rfl) F rfl fun a F=>?_
      refine dv_et ok1 6 rfl (ev_extract rfl rfl) F rfl fun a F=>?_
      refine dv_et ok1 7 rfl (ev_extract rfl rfl) F rfl fun a F=>?_
      refine dv_et ok1 8 rfl (ev_extract rfl rfl) F rfl fun a F=>?_
      refine dv_et ok1 10 rfl (ev_assign rfl) F rfl fun a F=>?_
      refine dv_et ok1 11 rfl (ev_assign rfl) F rfl fun a F=>?_
      refine dv_join (HJ _ _ ?_)
      exact ⟨v6, v2, b2, c6, g8, F.sub ⟨rfl, rfl, rfl, rfl, rfl, trivial⟩, (((((l3.trans l4).trans l5).trans l6).trans l7).trans l8), S, h11, (h7.mono ((l6.trans l7).trans l8)), hm⟩
    ·refine wl_alloc (wn rfl) rfl tz24 (cs := [.i6 0, .i6 0]) rfl F S rfl rfl ?_; clear F a S; rintro b2 a w F S
     refine dv_nx ⟨yl_ev rfl rfl (ev_loadA tu38 rfl (cs := [v2]) ts38 rfl (box_ptr (cells := [v2]) 2 rfl 0 rfl (lb rfl))) F S, trivial⟩ ?_
     refine dv_op ok1 3 rfl [] ?_
     obtain ⟨g5, l5, S, h7⟩ : ∃ gz, Le g4 gz ∧ St gz [[bx b2 #[.i6 0, .i6 0] 24], c4, [bx b1 #[v2] 38]] fr w ∧ RepSl gz y1.Hunks v2 := ⟨_, Le.add _ _, S.freeze 3 rfl, OwnS.freeze (S.front 3 rfl) (h3.mono (l3.trans l4))⟩
     obtain ⟨g6, l6, S, h8⟩ : ∃ gz, Le g5 gz ∧ St gz [[bx b2 #[.i6 0, .i6 0] 24], [bx b1 #[v2] 38]] fr w ∧ RepSl gz y2.Hunks v4 := ⟨_, Le.add _ _, S.freeze 1 rfl, OwnS.freeze (S.front 1 rfl) (h6.mono l5)⟩
     refine wl_lit (l := ([y1, y2] : List Patch)) (vs := [.agg #[v2], .agg #[v4]]) (parts := [(0, .tmp 10), (1, .tmp 12)]) (wn rfl) rfl rfl rfl tu22 te38 (sz_cons rfl (sz_cons rfl sz_nil)) rfl (Cat.cons (rep_Patch_mk (x := y1) (h7.mono l6)) (Cat.cons (rep_Patch_mk (x := y2) h8) (Cat.nil _))) (coa_cons rfl (coa_cons rfl coa_nil)) rfl F S rfl rfl ?_; clear F a S
     rintro v5 c5 a w h9 F S
     refine dv_nx trivial ?_
     refine dv_op ok1 4 rfl [] ?_
     obtain ⟨g7, l7, S, h10⟩ : ∃ gz, Le g6 gz ∧ St gz [[bx b2 #[.i6 0, .i6 0] 24], [bx b1 #[v2] 38]] fr w ∧ RepSl gz ([y1, y2] : List Patch) v5 := ⟨_, Le.add _ _, S.freeze 0 rfl, OwnS.freeze (S.front 0 rfl) h9⟩
     refine wl_call0 (wn rfl) rfl F rfl (stack_Drop_ok (fr := (fl [[bx b2 #[.i6 0, .i6 0] 24], [bx b1 #[v2] 38]] fr)) ([y1, y2] : List Patch) v5 h10 1 S hy3) rfl tc12 rfl rfl ?_; clear F a S
     rintro _ a w ⟨g8, v6, c6, l8, S, h11, rfl⟩ F; replace S : St g8 [c6, [bx b2 #[.i6 0, .i6 0] 24], [bx b1 #[v2] 38]] fr w := S
     refine dv_nx trivial ?_
     refine dv_et ok1 5 rfl (ev_move rfl) F rfl fun a F=>?_
     refine dv_et ok1 6 rfl (ev_extract rfl rfl) F rfl fun a F=>?_
     refine dv_et ok1 7 rfl (ev_extract rfl rfl) F rfl fun a F=>?_
     refine dv_et ok1 8 rfl (ev_extract rfl rfl) F rfl fun a F=>?_
     refine dv_et ok1 10 rfl (ev_assign rfl) F rfl fun a F=>?_
     refine dv_et ok1 11 rfl (ev_assign rfl) F rfl fun a F=>?_
     refine dv_join (HJ _ _ ?_)
     exact ⟨v6, v2, b2, c6, g8, F.sub ⟨rfl, rfl, rfl, rfl, rfl, trivial⟩, (((((l3.trans l4).trans l5).trans l6).trans l7).trans l8), S, h11, (h7.mono ((l6.trans l7).trans l8)), hm⟩
   ·refine wl_alloc (wn rfl) rfl tz24 (cs := [.i6 0, .i6 0]) rfl F S rfl rfl ?_; clear F a S; rintro b2 a w F S
    refine dv_nx ⟨yl_ev rfl rfl (ev_loadA tu38 rfl (cs := [v2]) ts38 rfl (box_ptr (cells := [v2]) 2 rfl 0 rfl (lb rfl))) F S, trivial⟩ ?_
    refine dv_op ok1 2 rfl [(0, .agg #[v2])] ?_
    obtain ⟨g3, l3, S, h5⟩ : ∃ gz, Le g2 gz ∧ St gz [[bx b2 #[.i6 0, .i6 0] 24], [bx b1 #[v2] 38], c2] fr w ∧ RepSl gz ([(⟨#[98]⟩ : ByteArray)] : List ByteArray) v3 := ⟨_, Le.add _ _, S.freeze 1 rfl, OwnS.freeze (S.front 1 rfl) h4⟩
    refine wl_call0 (wn rfl) rfl F rfl (changeforgelaw2_single_ok (fr := (fl [[bx b2 #[.i6 0, .i6 0] 24], [bx b1 #[v2] 38], c2] fr)) 1 ([] : List ByteArray) (nilS) (RepSl.nil _) ([(⟨#[98]⟩ : ByteArray)] : List ByteArray) v3 h5 S hy2) rfl tc29 rfl rfl ?_; clear F a S
    rintro _ a w ⟨g4, v4, c4, l4, S, h6, rfl⟩ F; replace S : St g4 [c4, [bx b2 #[.i6 0, .i6 0] 24], [bx b1 #[v2] 38], c2] fr w := S
    refine dv_nx ⟨yl_ev rfl rfl (ev_loadA tu38 rfl (cs := [v2]) ts38 rfl (box_ptr (cells := [v2]) 2 rfl 0 rfl (lb rfl))) F S, trivial⟩ ?_
    refine dv_op ok1 3 rfl [] ?_
    obtain ⟨g5, l5, S, h7⟩ : ∃ gz, Le g4 gz ∧ St gz [c4, [bx b2 #[.i6 0, .i6 0] 24], [bx b1 #[v2] 38]] fr w ∧ RepSl gz y1.Hunks v2 := ⟨_, Le.add _ _, S.freeze 3 rfl, OwnS.freeze (S.front 3 rfl) (h3.mono (l3.trans l4))⟩
    obtain ⟨g6, l6, S, h8⟩ : ∃ gz, Le g5 gz ∧ St gz [[bx b2 #[.i6 0, .i6 0] 24], [bx b1 #[v2] 38]] fr w ∧ RepSl gz y2.Hunks v4 := ⟨_, Le.add _ _, S.freeze 0 rfl, OwnS.freeze (S.front 0 rfl) (h6.mono l5)⟩
    refine wl_lit (l := ([y1, y2] : List Patch)) (vs := [.agg #[v2], .agg #[v4]]) (parts := [(0, .tmp 10), (1, .tmp 12)]) (wn rfl) rfl rfl rfl tu22 te38 (sz_cons rfl (sz_cons rfl sz_nil)) rfl (Cat.cons (rep_Patch_mk (x := y1) (h7.mono l6)) (Cat.cons (rep_Patch_mk (x := y2) h8) (Cat.nil _))) (coa_cons rfl (coa_cons rfl coa_nil)) rfl F S rfl rfl ?_; clear F a S
    rintro v5 c5 a w h9 F S
    refine dv_nx trivial ?_
    refine dv_op ok1 4 rfl [] ?_
    obtain ⟨g7, l7, S, h10⟩ : ∃ gz, Le g6 gz ∧ St gz [[bx b2 #[.i6 0, .i6 0] 24], [bx b1 #[v2] 38]] fr w ∧ RepSl gz ([y1, y2] : List Patch) v5 := ⟨_, Le.add _ _, S.freeze 0 rfl, OwnS.freeze (S.front 0 rfl) h9⟩
    refine wl_call0 (wn rfl) rfl F rfl (stack_Drop_ok (fr := (fl [[bx b2 #[.i6 0, .i6 0] 24], [bx b1 #[v2] 38]] fr)) ([y1, y2] : List Patch) v5 h10 1 S hy3) rfl tc12 rfl rfl ?_; clear F a S
    rintro _ a w ⟨g8, v6, c6, l8, S, h11, rfl⟩ F; replace S : St g8 [c6, [bx b2 #[.i6 0, .i6 0] 24], [bx b1 #[v2] 38]] fr w := S
    refine dv_nx trivial ?_
    refine dv_et ok1 5 rfl (ev_move rfl) F rfl fun a F=>?_
    refine dv_et ok1 6 rfl (ev_extract rfl rfl) F rfl fun a F=>?_
    refine dv_et ok1 7 rfl (ev_extract rfl rfl) F rfl fun a F=>?_
    refine dv_et ok1 8 rfl (ev_extract rfl rfl) F rfl fun a F=>?_
    refine dv_et ok1 10 rfl (ev_assign rfl) F rfl fun a F=>?_
    refine dv_et ok1 11 rfl (ev_assign rfl) F rfl fun a F=>?_
    refine dv_join (HJ _ _ ?_)
    exact ⟨v6, v2, b2, c6, g8, F.sub ⟨rfl, rfl, rfl, rfl, rfl, trivial⟩, (((((l3.trans l4).trans l5).trans l6).trans l7).trans l8), S, h11, (h7.mono ((l6.trans l7).trans l8)), hm⟩
  ·refine wl_alloc (wn rfl) rfl tz24 (cs := [.i6 0, .i6 0]) rfl F S rfl rfl ?_; clear F a S; rintro b2 a w F S
   refine dv_nx ⟨yl_ev rfl rfl (ev_loadA tu38 rfl (cs := [v2]) ts38 rfl (box_ptr (cells := [v2]) 1 rfl 0 rfl (lb rfl))) F S, trivial⟩ ?_
   refine dv_op ok1 1 rfl [(0, .agg #[v2])] ?_
   refine wl_lit (l := ([(⟨#[98]⟩ : ByteArray)] : List ByteArray)) (vs := [.string (⟨#[98]⟩ : ByteArray)]) (parts := [(0, .const (.string (⟨#[98]⟩ : ByteArray)))]) (wn rfl) rfl rfl rfl tu31 te9 (sz_cons rfl sz_nil) rfl (Cat.cons (show Rep.rep _ (⟨#[98]⟩ : ByteArray) _ from rfl) (Cat.nil _)) (coa_cons rfl coa_nil) rfl F S rfl rfl ?_; clear F a S
   rintro v3 c3 a w h4 F S
   refine dv_nx ⟨yl_ev rfl rfl (ev_loadA tu38 rfl (cs := [v2]) ts38 rfl (box_ptr (cells := [v2]) 2 rfl 0 rfl (lb rfl))) F S, trivial⟩ ?_
   refine dv_op ok1 2 rfl [(0, .agg #[v2])] ?_
   obtain ⟨g3, l3, S, h5⟩ : ∃ gz, Le g2 gz ∧ St gz [[bx b2 #[.i6 0, .i6 0] 24], [bx b1 #[v2] 38], c2] fr w ∧ RepSl gz ([(⟨#[98]⟩ : ByteArray)] : List ByteArray) v3 := ⟨_, Le.add _ _, S.freeze 0 rfl, OwnS.freeze (S.front 0 rfl) h4⟩
   refine wl_call0 (wn rfl) rfl F rfl (changeforgelaw2_single_ok (fr := (fl [[bx b2 #[.i6 0, .i6 0] 24], [bx b1 #[v2] 38], c2] fr)) 1 ([] : List ByteArray) (nilS) (RepSl.nil _) ([(⟨#[98]⟩ : ByteArray)] : List ByteArray) v3 h5 S hy2) rfl tc29 rfl rfl ?_; clear F a S
   rintro _ a w ⟨g4, v4, c4, l4, S, h6, rfl⟩ F; replace S : St g4 [c4, [bx b2 #[.i6 0, .i6 0] 24], [bx b1 #[v2] 38], c2] fr w := S
   refine dv_nx ⟨yl_ev rfl rfl (ev_loadA tu38 rfl (cs := [v2]) ts38 rfl (box_ptr (cells := [v2]) 2 rfl 0 rfl (lb rfl))) F S, trivial⟩ ?_
   refine dv_op ok1 3 rfl [] ?_
   obtain ⟨g5, l5, S, h7⟩ : ∃ gz, Le g4 gz ∧ St gz [c4, [bx b2 #[.i6 0, .i6 0] 24], [bx b1 #[v2] 38]] fr w ∧ RepSl gz y1.Hunks v2 := ⟨_, Le.add _ _, S.freeze 3 rfl, OwnS.freeze (S.front 3 rfl) (h3.mono (l3.trans l4))⟩
   obtain ⟨g6, l6, S, h8⟩ : ∃ gz, Le g5 gz ∧ St gz [[bx b2 #[.i6 0, .i6 0] 24], [bx b1 #[v2] 38]] fr w ∧ RepSl gz y2.Hunks v4 := ⟨_, Le.add _ _, S.freeze 0 rfl, OwnS.freeze (S.front 0 rfl) (h6.mono l5)⟩
   refine wl_lit (l := ([y1, y2] : List Patch)) (vs := [.agg #[v2], .agg #[v4]]) (parts := [(0, .tmp 10), (1, .tmp 12)]) (wn rfl) rfl rfl rfl tu22 te38 (sz_cons rfl (sz_cons rfl sz_nil)) rfl (Cat.cons (rep_Patch_mk (x := y1) (h7.mono l6)) (Cat.cons (rep_Patch_mk (x := y2) h8) (Cat.nil _))) (coa_cons rfl (coa_cons rfl coa_nil)) rfl F S rfl rfl ?_; clear F a S
   rintro v5 c5 a w h9 F S
   refine dv_nx trivial ?_
   refine dv_op ok1 4 rfl [] ?_
   obtain ⟨g7, l7, S, h10⟩ : ∃ gz, Le g6 gz ∧ St gz [[bx b2 #[.i6 0, .i6 0] 24], [bx b1 #[v2] 38]] fr w ∧ RepSl gz ([y1, y2] : List Patch) v5 := ⟨_, Le.add _ _, S.freeze 0 rfl, OwnS.freeze (S.front 0 rfl) h9⟩
   refine wl_call0 (wn rfl) rfl F rfl (stack_Drop_ok (fr := (fl [[bx b2 #[.i6 0, .i6 0] 24], [bx b1 #[v2] 38]] fr)) ([y1, y2] : List Patch) v5 h10 1 S hy3) rfl tc12 rfl rfl ?_; clear F a S
   rintro _ a w ⟨g8, v6, c6, l8, S, h11, rfl⟩ F; replace S : St g8 [c6, [bx b2 #[.i6 0, .i6 0] 24], [bx b1 #[v2] 38]] fr w := S
   refine dv_nx trivial ?_
   refine dv_et ok1 5 rfl (ev_move rfl) F rfl fun a F=>?_
   refine dv_et ok1 6 rfl (ev_extract rfl rfl) F rfl fun a F=>?_
   refine dv_et ok1 7 rfl (ev_extract rfl rfl) F rfl fun a F=>?_
   refine dv_et ok1 8 rfl (ev_extract rfl rfl) F rfl fun a F=>?_
   refine dv_et ok1 10 rfl (ev_assign rfl) F rfl fun a F=>?_
   refine dv_et ok1 11 rfl (ev_assign rfl) F rfl fun a F=>?_
   refine dv_join (HJ _ _ ?_)
   exact ⟨v6, v2, b2, c6, g8, F.sub ⟨rfl, rfl, rfl, rfl, rfl, trivial⟩, (((((l3.trans l4).trans l5).trans l6).trans l7).trans l8), S, h11, (h7.mono ((l6.trans l7).trans l8)), hm⟩
 ·clear F S hm; rintro a w ⟨v7, v8, b3, c7, g9, F, l9, S, h12, h13, hm⟩
  refine dv_op ok1 12 rfl [] ?_
  refine wl_storeC (wn rfl) rfl F S rfl rfl (vs := [.i6 y3.2.2.Code, .i6 y3.2.2.Index]) rfl ts24 (one_cons rfl (one_cons rfl one_nil)) (k := 1) rfl (lb rfl) (c' := #[.i6 y3.2.2.Code, .i6 y3.2.2.Index]) rfl rfl ?_; clear S; intro w S
  refine dv_nx trivial ?_
  refine dv_fin ok1 ?_
  refine then_n ?_
  refine wp_seq ?_
  refine wp_region_lit ?_
  refine wE (ev_loadA tu38 rfl (cs := [v8]) ts38 rfl (box_ptr (cells := [v8]) 2 rfl 0 rfl (lb rfl))) F S rfl fun a F=>?_
  refine wl_lit (l := ([y1] : List Patch)) (vs := [.agg #[v8]]) (parts := [(0, .tmp 19)]) (wn rfl) rfl rfl rfl tu22 te38 (sz_cons rfl sz_nil) rfl (Cat.cons (rep_Patch_mk (x := y1) h13) (Cat.nil _)) (coa_cons rfl coa_nil) rfl F S rfl rfl ?_; clear F a S
  rintro v9 c8 a w h14 F S
  obtain ⟨g10, l10, S, h15⟩ : ∃ gz, Le g9 gz ∧ St gz [c7, [bx b3 #[.i6 y3.2.2.Code, .i6 y3.2.2.Index] 24], [bx b1 #[v8] 38]] fr w ∧ RepSl gz ([y1] : List Patch) v9 := ⟨_, Le.add _ _, S.freeze 0 rfl, OwnS.freeze (S.front 0 rfl) h14⟩
  obtain ⟨y4, hy4, hm⟩ := bind_some hm
  refine wl_call0 (wn rfl) rfl F rfl (stack_Apply_ok (fr := (fl [c7, [bx b3 #[.i6 y3.2.2.Code, .i6 y3.2.2.Index] 24], [bx b1 #[v8] 38]] fr)) ([] : List ByteArray) (nilS) (RepSl.nil _) ([y1] : List Patch) v9 h15 S hy4) rfl tc16 rfl rfl ?_; clear F a S
  rintro _ a w ⟨g11, v10, c9, l11, S, h16, rfl⟩ F; replace S : St g11 [c9, c7, [bx b3 #[.i6 y3.2.2.Code, .i6 y3.2.2.Index] 24], [bx b1 #[v8] 38]] fr w := S
  refine wE (ev_move rfl) F S rfl fun a F=>?_
  refine wE (ev_extract rfl rfl) F S rfl fun a F=>?_
  refine wE (ev_extract rfl rfl) F S rfl fun a F=>?_
  refine wl_alloc (wn rfl) rfl tz24 (cs := [.i6 0, .i6 0]) rfl F S rfl rfl ?_; clear F a S; rintro b4 a w F S
  refine wE (ev_assign rfl) F S rfl fun a F=>?_
  refine wl_storeC (wn rfl) rfl F S rfl rfl (vs := [.i6 y4.2.Code, .i6 y4.2.Index]) rfl ts24 (one_cons rfl (one_cons rfl one_nil)) (k := 0) rfl (lb rfl) (c' := #[.i6 y4.2.Code, .i6 y4.2.Index]) rfl rfl ?_; clear S; intro w S
  refine wpList_nil ?_
  refine then_n ?_
  refine wp_seq ?_
  refine wp_region_lit ?_
  refine wE (ev_fieldAddr' tu24 tf24_0 (z := 0) ts3 rfl ⟨_, rfl⟩ rfl) F S rfl fun a F=>?_
  refine wE (ev_load1 tu3 rfl rfl (box_ptr (cells := [.i6 y3.2.2.Code]) 3 rfl 0 rfl (lb rfl))) F S rfl fun a F=>?_
  refine wE (ev_int rfl rfl (bo_eql _ _ _ _)) F S rfl fun a F=>?_
  refine wE (ev_move rfl) F S rfl fun a F=>?_
  obtain ⟨x3, hx1, hm⟩ := bind_some hm
  refine wl_cut 4 (fun a w' => w = w' ∧ Fr 46 a [(31, .bool x3), (5, v10), (3, .bool y3.2.1), (2, v7), (1, bp b1 0)]) ?_ ?_
  ·clear hm; obtain ⟨hc1, hm⟩ | ⟨hc1, hm⟩ := ite_or hx1
   ·refine wl_ev (wg F rfl rfl rfl rfl hc1) (ev_fieldAddr' tu24 tf24_0 (z := 0) ts3 rfl ⟨_, rfl⟩ rfl) F S rfl rfl ?_; clear F a; intro a F
    refine wl_ev (wg F rfl rfl rfl rfl hc1) (ev_load1 tu3 rfl rfl (box_ptr (cells := [.i6 y4.2.Code]) 0 rfl 0 rfl (lb rfl))) F S rfl rfl ?_; clear F a; intro a F
    refine wl_ev (wg F rfl rfl rfl rfl hc1) (ev_int rfl rfl (bo_eql _ _ _ _)) F S rfl rfl ?_; clear F a; intro a F
    refine wE (ev_pickT rfl hc1 rfl) F S rfl fun a F=>?_
    obtain rfl := sinj hm
    refine wpList_nil (then_n ?_); exact ⟨rfl, F.sub ⟨rfl, rfl, rfl, rfl, rfl, trivial⟩⟩
   ·refine wl_skip rfl rfl rfl rfl (ne_tf hc1) F rfl rfl ?_; clear F a; intro a F
    refine wl_skip rfl rfl rfl rfl (ne_tf hc1) F rfl rfl ?_; clear F a; intro a F
    refine wl_skip rfl rfl rfl rfl (ne_tf hc1) F rfl rfl ?_; clear F a; intro a F
    refine wE (ev_pickF rfl hc1 rfl) F S rfl fun a F=>?_
    obtain rfl := sinj hm
    refine wpList_nil (then_n ?_); exact ⟨rfl, F.sub ⟨rfl, rfl, rfl, rfl, rfl, trivial⟩⟩
  clear F; rintro a w' ⟨rfl, F⟩
  refine wE (ev_move rfl) F S rfl fun a F=>?_
  obtain ⟨x4, hx2, hm⟩ := bind_some hm
  refine wl_cut 2 (fun a w' => w = w' ∧ Fr 46 a [(34, .bool x4), (5, v10), (2, v7), (1, bp b1 0)]) ?_ ?_
  ·clear hm; obtain ⟨hc2, hm⟩ | ⟨hc2, hm⟩ := ite_or hx2
   ·refine wl_ev (wg F rfl rfl rfl rfl hc2) (ev_move rfl) F S rfl rfl ?_; clear F a; intro a F
    refine wE (ev_pickT rfl hc2 rfl) F S rfl fun a F=>?_
    obtain rfl := sinj hm
    refine wpList_nil (then_n ?_); exact ⟨rfl, F.sub ⟨rfl, rfl, rfl, rfl, trivial⟩⟩
   ·refine wl_skip rfl rfl rfl rfl (ne_tf hc2) F rfl rfl ?_; clear F a; intro a F
    refine wE (ev_pickF rfl hc2 rfl) F S rfl fun a F=>?_
    obtain rfl := sinj hm
    refine wpList_nil (then_n ?_); exact ⟨rfl, F.sub ⟨rfl, rfl, rfl, rfl, trivial⟩⟩
  clear F; rintro a w' ⟨rfl, F⟩
  refine wE (ev_move rfl) F S rfl fun a F=>?_
  obtain ⟨g12, l12, S, h17⟩ : ∃ gz, Le g11 gz ∧ St gz [[bx b4 #[.i6 y4.2.Code, .i6 y4.2.Index] 24], c9, [bx b3 #[.i6 y3.2.2.Code, .i6 y3.2.2.Index] 24], [bx b1 #[v8] 38]] fr w ∧ RepSl gz y3.1 v7 := ⟨_, Le.add _ _, S.freeze 2 rfl, OwnS.freeze (S.front 2 rfl) (h12.mono (l10.trans l11))⟩
  obtain ⟨x5, hx3, hm⟩ := bind_some hm
  refine wl_cut 5 (fun a w => ∃ g13, Fr 46 a [(40, .bool x5), (5, v10)] ∧ Le g12 g13 ∧ St g13 [[bx b4 #[.i6 y4.2.Code, .i6 y4.2.Index] 24], c9, [bx b3 #[.i6 y3.2.2.Code, .i6 y3.2.2.Index] 24], [bx b1 #[v8] 38]] fr w) ?_ ?_
  ·clear hm; obtain ⟨hc3, hm⟩ | ⟨hc3, hm⟩ := ite_or hx3
   ·refine wl_ev (wg F rfl rfl rfl rfl hc3) (ev_move rfl) F S rfl rfl ?_; clear F a; intro a F
    refine wl_ev (wg F rfl rfl rfl rfl hc3) (ev_loadA tu38 rfl (cs := [v8]) ts38 rfl (box_ptr (cells := [v8]) 3 rfl 0 rfl (lb rfl))) F S rfl rfl ?_; clear F a; intro a F
    refine wl_lit (l := ([y1] : List Patch)) (vs := [.agg #[v8]]) (parts := [(0, .tmp 37)]) (wg F rfl rfl rfl rfl hc3) rfl rfl rfl tu22 te38 (sz_cons rfl sz_nil) rfl (Cat.cons (rep_Patch_mk (x := y1) (h13.mono ((l10.trans l11).trans l12))) (Cat.nil _)) (coa_cons rfl coa_nil) rfl F S rfl rfl ?_; clear F a S
    rintro v11 c10 a w h18 F S
    obtain ⟨g14, l14, S, h19⟩ : ∃ gz, Le g12 gz ∧ St gz [[bx b4 #[.i6 y4.2.Code, .i6 y4.2.Index] 24], c9, [bx b3 #[.i6 y3.2.2.Code, .i6 y3.2.2.Index] 24], [bx b1 #[v8] 38]] fr w ∧ RepSl gz ([y1] : List Patch) v11 := ⟨_, Le.add _ _, S.freeze 0 rfl, OwnS.freeze (S.front 0 rfl) h18⟩
    obtain ⟨y5, hy5, hm⟩ := bind_some hm
    refine wl_call0 (wg F rfl rfl rfl rfl hc3) rfl F rfl (changeforgeequal_Patches_ok (fr := (fl [[bx b4 #[.i6 y4.2.Code, .i6 y4.2.Index] 24], c9, [bx b3 #[.i6 y3.2.2.Code, .i6 y3.2.2.Index] 24], [bx b1 #[v8] 38]] fr)) y3.1 v7 (h17.mono l14) ([y1] : List Patch) v11 h19 S hy5) rfl tc14 rfl rfl ?_; clear F a S
    rintro _ a w ⟨g15, l15, S, rfl⟩ F; replace S : St g15 [[bx b4 #[.i6 y4.2.Code, .i6 y4.2.Index] 24], c9, [bx b3 #[.i6 y3.2.2.Code, .i6 y3.2.2.Index] 24], [bx b1 #[v8] 38]] fr w := S
    refine wE (ev_pickT rfl hc3 rfl) F S rfl fun a F=>?_
    obtain rfl := sinj hm
    refine wpList_nil (then_n ?_); exact ⟨g15, F.sub ⟨rfl, rfl, trivial⟩, (l14.trans l15), S⟩
   ·refine wl_skip rfl rfl rfl rfl (ne_tf hc3) F rfl rfl ?_; clear F a; intro a F
    refine wl_skip rfl rfl rfl rfl (ne_tf hc3) F rfl rfl ?_; clear F a; intro a F
    refine wl_skip rfl rfl rfl rfl (ne_tf hc3) F rfl rfl ?_; clear F a; intro a F
    refine wl_skip rfl rfl rfl rfl (ne_tf hc3) F rfl rfl ?_; clear F a; intro a F
    refine wE (ev_pickF rfl hc3 rfl) F S rfl fun a F=>?_
    obtain rfl := sinj hm
    refine wpList_nil (then_n ?_); exact ⟨g12, F.sub ⟨rfl, rfl, trivial⟩, (Le.refl _), S⟩
  clear F S; rintro a w ⟨g13, F, l13, S⟩
  refine wE (ev_move rfl) F S rfl fun a F=>?_
  obtain ⟨g16, l16, S, h20⟩ : ∃ gz, Le g13 gz ∧ St gz [[bx b4 #[.i6 y4.2.Code, .i6 y4.2.Index] 24], [bx b3 #[.i6 y3.2.2.Code, .i6 y3.2.2.Index] 24], [bx b1 #[v8] 38]] fr w ∧ RepSl gz y4.1 v10 := ⟨_, Le.add _ _, S.freeze 1 rfl, OwnS.freeze (S.front 1 rfl) (h16.mono (l12.trans l13))⟩
  obtain ⟨x6, hx4, hm⟩ := bind_some hm
  refine wl_cut 4 (fun a w => ∃ g17, Fr 46 a [(45, .bool x6)] ∧ Le g16 g17 ∧ St g17 [[bx b4 #[.i6 y4.2.Code, .i6 y4.2.Index] 24], [bx b3 #[.i6 y3.2.2.Code, .i6 y3.2.2.Index] 24], [bx b1 #[v8] 38]] fr w) ?_ ?_
  ·clear hm; obtain ⟨hc4, hm⟩ | ⟨hc4, hm⟩ := ite_or hx4
   ·refine wl_ev (wg F rfl rfl rfl rfl hc4) (ev_move rfl) F S rfl rfl ?_; clear F a; intro a F
    refine wl_lit (l := ([(⟨#[97]⟩ : ByteArray)] : List ByteArray)) (vs := [.string (⟨#[97]⟩ : ByteArray)]) (parts := [(0, .const (.string (⟨#[97]⟩ : ByteArray)))]) (wg F rfl rfl rfl rfl hc4) rfl rfl rfl tu31 te9 (sz_cons rfl sz_nil) rfl (Cat.cons (show Rep.rep _ (⟨#[97]⟩ : ByteArray) _ from rfl) (Cat.nil _)) (coa_cons rfl coa_nil) rfl F S rfl rfl ?_; clear F a S
    rintro v12 c11 a w h21 F S
    obtain ⟨g18, l18, S, h22⟩ : ∃ gz, Le g16 gz ∧ St gz [[bx b4 #[.i6 y4.2.Code, .i6 y4.2.Index] 24], [bx b3 #[.i6 y3.2.2.Code, .i6 y3.2.2.Index] 24], [bx b1 #[v8] 38]] fr w ∧ RepSl gz ([(⟨#[97]⟩ : ByteArray)] : List ByteArray) v12 := ⟨_, Le.add _ _, S.freeze 0 rfl, OwnS.freeze (S.front 0 rfl) h21⟩
    obtain ⟨y6, hy6, hm⟩ := bind_some hm
    refine wl_call0 (wg F rfl rfl rfl rfl hc4) rfl F rfl (changeforgeequal_Strings_ok (fr := (fl [[bx b4 #[.i6 y4.2.Code, .i6 y4.2.Index] 24], [bx b3 #[.i6 y3.2.2.Code, .i6 y3.2.2.Index] 24], [bx b1 #[v8] 38]] fr)) y4.1 v10 (h20.mono l18) ([(⟨#[97]⟩ : ByteArray)] : List ByteArray) v12 h22 S hy6) rfl tc17 rfl rfl ?_; clear F a S
    rintro _ a w ⟨g19, l19, S, rfl⟩ F; replace S : St g19 [[bx b4 #[.i6 y4.2.Code, .i6 y4.2.Index] 24], [bx b3 #[.i6 y3.2.2.Code, .i6 y3.2.2.Index] 24], [bx b1 #[v8] 38]] fr w := S
    refine wE (ev_pickT rfl hc4 rfl) F S rfl fun a F=>?_
    obtain rfl := sinj hm
    refine wpList_nil (then_n ?_); exact ⟨g19, F.sub ⟨rfl, trivial⟩, (l18.trans l19), S⟩
   ·refine wl_skip rfl rfl rfl rfl (ne_tf hc4) F rfl rfl ?_; clear F a; intro a F
    refine wl_skip rfl rfl rfl rfl (ne_tf hc4) F rfl rfl ?_; clear F a; intro a F
    refine wl_skip rfl rfl rfl rfl (ne_tf hc4) F rfl rfl ?_; clear F a; intro a F
    refine wE (ev_pickF rfl hc4 rfl) F S rfl fun a F=>?_
    obtain rfl := sinj hm
    refine wpList_nil (then_n ?_); exact ⟨g16, F.sub ⟨rfl, trivial⟩, (Le.refl _), S⟩
  clear F S; rintro a w ⟨g17, F, l17, S⟩
  refine wE (ev_assign rfl) F S rfl fun a F=>?_
  refine wpList_nil ?_
  refine then_n ?_
  refine wp_ret ?_
  obtain rfl := sinj hm
  refine post_r _ F rfl (ar_cons (resT rfl) ar_nil) ?_
  replace S : St g17 [] fr w := St.tail [] _ S
  exact ⟨_, rfl, g17, ((((((((l1.trans l2).trans l9).trans l10).trans l11).trans l12).trans l13).trans l16).trans l17), S, rfl⟩
end Go.Dc
