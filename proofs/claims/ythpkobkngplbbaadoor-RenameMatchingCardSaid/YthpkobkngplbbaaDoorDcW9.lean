/- Walks: each function comes to what its model says. -/
import Derived.Test.YthpkobkngplbbaaDoorDcTab
import Derived.Test.YthpkobkngplbbaaDoorDcM
import Derived.Test.YthpkobkngplbbaaDoorDcW4
import Derived.Test.YthpkobkngplbbaaDoorDcW8
namespace Go.Dc
open Go Go.Proofs
set_option maxRecDepth 100000
set_option maxHeartbeats 4000000
set_option linter.unusedVariables false
theorem changeforgelaw2_RenameMatching_ok {g : Gh} {fr : Hl} {w : World} {r : Bool} (old_ : FileTree) (vold_1 : Value) (hold_1 : RepSl g old_.Files vold_1) (new_ : FileTree) (vnew_1 : Value) (hnew_1 : RepSl g new_.Files vnew_1) (percent : Int) (S : St g [] fr w) (hm : changeforgelaw2_RenameMatching old_ new_ percent = some r) :
  Calls Tryd.prog 4 [.agg #[vold_1], .agg #[vnew_1], .i6 percent].toArray w (fun en w' => ∃ v, en = .returned v ∧ ∃ (g' : Gh), Le g g' ∧ St g' [] fr w' ∧ .bool r = v) := by
 unfold changeforgelaw2_RenameMatching at hm
 refine calls_enter (fn := Tryd.f4) Tryd.func4 rfl Tryd.ntmps4 (lb rfl) ?_
 intro a F
 replace F : Fr 126 a [(0, .agg #[vold_1]), (1, .agg #[vnew_1]), (2, .i6 percent)] := F
 refine wp_seq ?_
 refine wp_region_lit ?_
 refine wl_boxC (wn rfl) rfl rfl rfl F S rfl rfl ?_; clear F a S; rintro b1 a w F S
 refine wl_boxC (wn rfl) rfl rfl rfl F S rfl rfl ?_; clear F a S; rintro b2 a w F S
 refine wE (ev_assign rfl) F S rfl fun a F=>?_
 refine wpList_nil ?_
 refine then_n ?_
 refine wp_seq ?_
 refine wp_region_lit ?_
 refine wE (ev_loadA tu41 rfl (cs := [vold_1]) ts41 rfl (box_ptr (cells := [vold_1]) 1 rfl 0 rfl (lb rfl))) F S rfl fun a F=>?_
 refine wE (ev_loadA tu41 rfl (cs := [vnew_1]) ts41 rfl (box_ptr (cells := [vnew_1]) 0 rfl 0 rfl (lb rfl))) F S rfl fun a F=>?_
 refine wE (ev_move rfl) F S rfl fun a F=>?_
 obtain ⟨y1, hy1, hm⟩ := bind_some hm
 refine wl_call0 (wn rfl) rfl F rfl (rename_Detect_ok (fr := (fl [[bx b2 #[vnew_1] 41], [bx b1 #[vold_1] 41]] fr)) old_ vold_1 hold_1 new_ vnew_1 hnew_1 percent S hy1) rfl tc12 rfl rfl ?_; clear F a S
 rintro _ a w ⟨g1, v1, c1, l1, S, h1, rfl⟩ F; replace S : St g1 [c1, [bx b2 #[vnew_1] 41], [bx b1 #[vold_1] 41]] fr w := S
 refine wE (ev_move rfl) F S rfl fun a F=>?_
 refine wE (ev_extract rfl rfl) F S rfl fun a F=>?_
 refine wE (ev_extract rfl rfl) F S rfl fun a F=>?_
 refine wl_alloc (wn rfl) rfl tz25 (cs := [.i6 0, .i6 0]) rfl F S rfl rfl ?_; clear F a S; rintro b3 a w F S
 refine wE (ev_assign rfl) F S rfl fun a F=>?_
 refine wl_storeC (wn rfl) rfl F S rfl rfl (vs := [.i6 y1.2.Code, .i6 y1.2.Index]) rfl ts25 (one_cons rfl (one_cons rfl one_nil)) (k := 0) rfl (lb rfl) (c' := #[.i6 y1.2.Code, .i6 y1.2.Index]) rfl rfl ?_; clear S; intro w S
 refine wpList_nil ?_
 refine then_n ?_
 refine wp_seq ?_
 refine wp_seq ?_
 refine wp_region_lit ?_
 refine wE (ev_fieldAddr' tu25 tf25_0 (z := 0) ts3 rfl ⟨_, rfl⟩ rfl) F S rfl fun a F=>?_
 refine wE (ev_load1 tu3 rfl rfl (box_ptr (cells := [.i6 y1.2.Code]) 0 rfl 0 rfl (lb rfl))) F S rfl fun a F=>?_
 refine wE (ev_int rfl rfl (bo_neq _ _ _ _)) F S rfl fun a F=>?_
 refine wpList_nil ?_
 refine then_n ?_
 obtain ⟨hc1, hm⟩ | ⟨hc1, hm⟩ := ite_or hm
 ·refine wp_condT F rfl hc1 ?_
  refine wp_seq ?_
  refine wp_region_lit ?_
  obtain ⟨y2, hy2, hm⟩ := bind_some hm
  refine wl_call0 (wn rfl) rfl F rfl (changeforgelaw2_half_ok (fr := (fl [[bx b3 #[.i6 y1.2.Code, .i6 y1.2.Index] 25], c1, [bx b2 #[vnew_1] 41], [bx b1 #[vold_1] 41]] fr))  S hy2) rfl tc13 rfl rfl ?_; clear F a S
  rintro _ a w ⟨g2, l2, S, rfl⟩ F; replace S : St g2 [[bx b3 #[.i6 y1.2.Code, .i6 y1.2.Index] 25], c1, [bx b2 #[vnew_1] 41], [bx b1 #[vold_1] 41]] fr w := S
  refine wE (ev_assign rfl) F S rfl fun a F=>?_
  refine wpList_nil ?_
  refine then_n ?_
  refine wp_ret ?_
  refine then_r ?_
  obtain rfl := sinj hm
  refine post_r _ F rfl (ar_cons (resT rfl) ar_nil) ?_
  replace S : St g2 [] fr w := St.tail [] _ S
  exact ⟨_, rfl, g2, (l1.trans l2), S, rfl⟩
 ·refine wp_condF F rfl hc1 ?_
  refine wp_skip ?_
  refine then_n ?_
  refine wp_cut (fun a w => ∃ (g3 : Gh), Fr 126 a [] ∧ Le g1 g3 ∧ St g3 [] fr w ∧ changeforgelaw2_RenameMatching.j1 = some r) ?_ ?_
  ·refine wp_seq ?_
   refine wp_region_lit ?_
   refine wE (ev_assign rfl) F S rfl fun a F=>?_
   refine wpList_nil ?_
   refine then_n ?_
   refine wp_block ?_
   obtain ⟨r1, hr1, hm⟩ := bind_some hm
   have hmo1 := hm; clear hm
   refine wp_iter (σ := Int) (ρ := Bool ⊕ Unit) (m := fun s => changeforgelaw2_RenameMatching.l1 old_ new_ percent y1 s) (I := fun x1 a w => ∃ (g5 : Gh), Fr 126 a [(9, .i6 x1), (7, v1), (4, bp b2 0), (3, bp b1 0), (2, .i6 percent)] ∧ Le g1 g5 ∧ St g5 [c1, [bx b2 #[vnew_1] 41], [bx b1 #[vold_1] 41]] fr w) hr1 ?_ ?_
   ·replace S : St g1 [c1, [bx b2 #[vnew_1] 41], [bx b1 #[vold_1] 41]] fr w := St.tail [c1, [bx b2 #[vnew_1] 41], [bx b1 #[vold_1] 41]] _ (((S.frontC 3 rfl).frontC 3 rfl).frontC 3 rfl)
    exact ⟨g1, F.sub ⟨rfl, rfl, rfl, rfl, rfl, trivial⟩, (Le.refl _), S⟩
   ·clear F S; rintro x1 a w x2 ⟨g5, F, l5, S⟩ hx1 hfin1
    have hm : changeforgelaw2_RenameMatching.l1 old_ new_ percent y1 x1 = some x2 := hx1; clear hx1
    unfold changeforgelaw2_RenameMatching.l1 at hm
    refine wp_seq ?_
    refine wp_seq ?_
    refine wp_region_lit ?_
    refine wE (ev_move rfl) F S rfl fun a F=>?_
    refine wE (ev_move rfl) F S rfl fun a F=>?_
    refine wE (ev_lenOw h1 rfl tu42) F S rfl fun a F=>?_
    refine wE (ev_int rfl rfl (bo_lss _ _ _ _)) F S rfl fun a F=>?_
    refine wpList_nil ?_
    refine then_n ?_
    obtain ⟨hc2, hm⟩ | ⟨hc2, hm⟩ := ite_or hm
    ·refine wp_condT F rfl hc2 ?_
     refine wp_skip ?_
     refine then_n ?_
     refine wp_cut (fun a w => ∃ (g6 : Gh), Fr 126 a [(9, .i6 x1), (7, v1), (4, bp b2 0), (3, bp b1 0), (2, .i6 percent)] ∧ Le g5 g6 ∧ St g6 [c1, [bx b2 #[vnew_1] 41], [bx b1 #[vold_1] 41]] fr w ∧ changeforgelaw2_RenameMatching.j2 x1 = some x2) ?_ ?_
     ·refine wp_block ?_
      refine wp_seq ?_
      refine wp_quiet mo (by kernel_rfl) S ?_
      refine wq_ev (wn rfl) (ev_loadA tu41 rfl (cs := [vold_1]) ts41 rfl (box_ptr (cells := [vold_1]) 2 rfl 0 rfl (lb rfl))) F rfl rfl ?_; clear F a; intro a F
      refine wq_ev (wn rfl) (ev_move rfl) F rfl rfl ?_; clear F a; intro a F
      refine wq_ev (wn rfl) (ev_move rfl) F rfl rfl ?_; clear F a; intro a F
      obtain ⟨y4, hy4, hm⟩ := bind_some hm
      refine wq_ev (wn rfl) (ev_idxO (h1.mono l5) hy4 tu42 ts46 rfl rfl) F rfl rfl ?_; clear F a; intro a F
      refine wq_ev (wn rfl) (ev_idxArr (m := 0) tu46 ts9 (by decide) rfl rfl (elemO_ptr (h1.mono l5) hy4) rfl addP_zero) F rfl rfl ?_; clear F a; intro a F
      obtain ⟨cs1, hr2, hq1⟩ := elemO (h1.mono l5) hy4
      obtain rfl := rep_Arr2_ByteArray hr2
      refine wq_ev (wn rfl) (ev_load1 tu9 rfl rfl (fun w s => addP_zero ▸ fieldP (cells := [.string y4.e0]) 0 (hq1 _ _ 0 rfl w s) rfl (lb rfl))) F rfl rfl ?_; clear F a; intro a F
      obtain ⟨y5, hy5, hm⟩ := bind_some hm
      refine wq_call (wn rfl) rfl (xs := [.tmp 32, .tmp 37]) (vs := [.agg #[vold_1], .string y4.e0]) (cap := []) F rfl rfl tc14 (v := .i6 y5) (fun w S => (changeforgeref2_FileAt_ok (g := g5) (fr := (fl [c1, [bx b2 #[vnew_1] 41], [bx b1 #[vold_1] 41]] fr)) (w := w) old_ vold_1 (hold_1.mono (l1.trans l5)) y4.e0 S hy5).mono (by rintro en w' ⟨_, rfl, g2, l2, S2, rfl⟩; exact ⟨rfl, S2.weak l2⟩)) rfl rfl ?_; clear F a; intro a F
      refine wq_ev (wn rfl) (ev_assign rfl) F rfl rfl ?_; clear F a; intro a F
      refine wq_nil ?_; clear S; intro w S
      refine then_n ?_
      refine wp_seq ?_
      refine wp_quiet mo (by kernel_rfl) S ?_
      refine wq_ev (wn rfl) (ev_loadA tu41 rfl (cs := [vnew_1]) ts41 rfl (box_ptr (cells := [vnew_1]) 1 rfl 0 rfl (lb rfl))) F rfl rfl ?_; clear F a; intro a F
      refine wq_ev (wn rfl) (ev_move rfl) F rfl rfl ?_; clear F a; intro a F
      refine wq_ev (wn rfl) (ev_move rfl) F rfl rfl ?_; clear F a; intro a F
      obtain ⟨y6, hy6, hm⟩ := bind_some hm
      refine wq_ev (wn rfl) (ev_idxO (h1.mono l5) hy6 tu42 ts46 rfl rfl) F rfl rfl ?_; clear F a; intro a F
      refine wq_ev (wn rfl) (ev_idxArr (m := 1) tu46 ts9 (by decide) rfl rfl (elemO_ptr (h1.mono l5) hy6) rfl rfl) F rfl rfl ?_; clear F a; intro a F
      obtain ⟨cs2, hr3, hq2⟩ := elemO (h1.mono l5) hy6
      obtain rfl := rep_Arr2_ByteArray hr3
      refine wq_ev (wn rfl) (ev_load1 tu9 rfl rfl (fun w s => fieldP (cells := [.string y6.e1]) 1 (hq2 _ _ 0 rfl w s) rfl (lb rfl))) F rfl rfl ?_; clear F a; intro a F
      obtain ⟨y7, hy7, hm⟩ := bind_some hm
      refine wq_call (wn rfl) rfl (xs := [.tmp 39, .tmp 44]) (vs := [.agg #[vnew_1], .string y6.e1]) (cap := []) F rfl rfl tc14 (v := .i6 y7) (fun w S => (changeforgeref2_FileAt_ok (g := g5) (fr := (fl [c1, [bx b2 #[vnew_1] 41], [bx b1 #[vold_1] 41]] fr)) (w := w) new_ vnew_1 (hnew_1.mono (l1.trans l5)) y6.e1 S hy7).mono (by rintro en w' ⟨_, rfl, g2, l2, S2, rfl⟩; exact ⟨rfl, S2.weak l2⟩)) rfl rfl ?_; clear F a; intro a F
      refine wq_ev (wn rfl) (ev_assign rfl) F rfl rfl ?_; clear F a; intro a F
      refine wq_nil ?_; clear S; intro w S
      refine then_n ?_
      refine wp_seq ?_
      refine wp_seq ?_
      refine wp_quiet mo (by kernel_rfl) S ?_
      refine wq_ev (wn rfl) (ev_move rfl) F rfl rfl ?_; clear F a; intro a F
      refine wq_ev (wn rfl) (ev_int rfl rfl (bo_lss _ _ _ _)) F rfl rfl ?_; clear F a; intro a F
      refine wq_ev (wn rfl) (ev_move rfl) F rfl rfl ?_; clear F a; intro a F
      obtain ⟨x3, hx2, hm⟩ := bind_some hm
      refine wq_cut 3 (fun a => Fr 126 a [(51, .bool x3), (11, .i6 y7), (10, .i6 y5), (9, .i6 x1), (7, v1), (4, bp b2 0), (3, bp b1 0), (2, .i6 percent)]) ?_ ?_
      ·clear hm; obtain ⟨hc3, hm⟩ | ⟨hc3, hm⟩ := ite_or hx2
       ·refine wq_skip rfl rfl rfl rfl (ne_ft hc3) F rfl rfl ?_; clear F a; intro a F
        refine wq_skip rfl rfl rfl rfl (ne_ft hc3) F rfl rfl ?_; clear F a; intro a F
        refine wq_ev (wn rfl) (ev_pickT rfl hc3 rfl) F rfl rfl ?_; clear F a; intro a F
        obtain rfl := sinj hm
        refine wq_nil ?_; exact F.sub ⟨rfl, rfl, rfl, rfl, rfl, rfl, rfl, rfl, trivial⟩
       ·refine wq_ev (wg F rfl rfl rfl rfl hc3) (ev_move rfl) F rfl rfl ?_; clear F a; intro a F
        refine wq_ev (wg F rfl rfl rfl rfl hc3) (ev_int rfl rfl (bo_lss _ _ _ _)) F rfl rfl ?_; clear F a; intro a F
        refine wq_ev (wn rfl) (ev_pickF rfl hc3 rfl) F rfl rfl ?_; clear F a; intro a F
        obtain rfl := sinj hm
        refine wq_nil ?_; exact F.sub ⟨rfl, rfl, rfl, rfl, rfl, rfl, rfl, rfl, trivial⟩
      clear F; intro a F
      refine wq_ev (wn rfl) (ev_move rfl) F rfl rfl ?_; clear F a; intro a F
      obtain ⟨x4, hx3, hm⟩ := bind_some hm
      refine wq_cut 9 (fun a => Fr 126 a [(61, .bool x4), (11, .i6 y7), (10, .i6 y5), (9, .i6 x1), (7, v1), (4, bp b2 0), (3, bp b1 0), (2, .i6 percent)]) ?_ ?_
      ·clear hm; obtain ⟨hc4, hm⟩ | ⟨hc4, hm⟩ := ite_or hx3
       ·refine wq_skip rfl rfl rfl rfl (ne_ft hc4) F rfl rfl ?_; clear F a; intro a F
        refine wq_skip rfl rfl rfl rfl (ne_ft hc4) F rfl rfl ?_; clear F a; intro a F
        refine wq_skip rfl rfl rfl rfl (ne_ft hc4) F rfl rfl ?_; clear F a; intro a F
        refine wq_skip rfl rfl rfl rfl (ne_ft hc4) F rfl rfl ?_; clear F a; intro a F
        refine wq_skip rfl rfl rfl rfl (ne_ft hc4) F rfl rfl ?_; clear F a; intro a F
        refine wq_skip rfl rfl rfl rfl (ne_ft hc4) F rfl rfl ?_; clear F a; intro a F
        refine wq_skip rfl rfl rfl rfl (ne_ft hc4) F rfl rfl ?_; clear F a; intro a F
        refine wq_skip rfl rfl rfl rfl (ne_ft hc4) F rfl rfl ?_; clear F a; intro a F
        refine wq_ev (wn rfl) (ev_pickT rfl hc4 rfl) F rfl rfl ?_; clear F a; intro a F
        obtain rfl := sinj hm
        refine wq_nil ?_; exact F.sub ⟨rfl, rfl, rfl, rfl, rfl, rfl, rfl, rfl, trivial⟩
       ·refine wq_ev (wg F rfl rfl rfl rfl hc4) (ev_loadA tu41 rfl (cs := [vnew_1]) ts41 rfl (box_ptr (cells := [vnew_1]) 1 rfl 0 rfl (lb rfl))) F rfl rfl ?_; clear F a; intro a F
        refine wq_ev (wg F rfl rfl rfl rfl hc4) (ev_move rfl) F rfl rfl ?_; clear F a; intro a F
        refine wq_ev (wg F rfl rfl rfl rfl hc4) (ev_move rfl) F rfl rfl ?_; clear F a; intro a F
        obtain ⟨y8, hy8, hm⟩ := bind_some hm
        refine wq_ev (wg F rfl rfl rfl rfl hc4) (ev_idxO (h1.mono l5) hy8 tu42 ts46 rfl rfl) F rfl rfl ?_; clear F a; intro a F
        refine wq_ev (wg F rfl rfl rfl rfl hc4) (ev_idxArr (m := 0) tu46 ts9 (by decide) rfl rfl (elemO_ptr (h1.mono l5) hy8) rfl addP_zero) F rfl rfl ?_; clear F a; intro a F
        obtain ⟨cs3, hr4, hq3⟩ := elemO (h1.mono l5) hy8
        obtain rfl := rep_Arr2_ByteArray hr4
        refine wq_ev (wg F rfl rfl rfl rfl hc4) (ev_load1 tu9 rfl rfl (fun w s => addP_zero ▸ fieldP (cells := [.string y8.e0]) 0 (hq3 _ _ 0 rfl w s) rfl (lb rfl))) F rfl rfl ?_; clear F a; intro a F
        obtain ⟨y9, hy9, hm⟩ := bind_some hm
        refine wq_call (wg F rfl rfl rfl rfl hc4) rfl (xs := [.tmp 53, .tmp 58]) (vs := [.agg #[vnew_1], .string y8.e0]) (cap := []) F rfl rfl tc14 (v := .i6 y9) (fun w S => (changeforgeref2_FileAt_ok (g := g5) (fr := (fl [c1, [bx b2 #[vnew_1] 41], [bx b1 #[vold_1] 41]] fr)) (w := w) new_ vnew_1 (hnew_1.mono (l1.trans l5)) y8.e0 S hy9).mono (by rintro en w' ⟨_, rfl, g2, l2, S2, rfl⟩; exact ⟨rfl, S2.weak l2⟩)) rfl rfl ?_; clear F a; intro a F
        refine wq_ev (wg F rfl rfl rfl rfl hc4) (ev_int rfl rfl (bo_geq _ _ _ _)) F rfl rfl ?_; clear F a; intro a F
        refine wq_ev (wn rfl) (ev_pickF rfl hc4 rfl) F rfl rfl ?_; clear F a; intro a F
        obtain rfl := sinj hm
        refine wq_nil ?_; exact F.sub ⟨rfl, rfl, rfl, rfl, rfl, rfl, rfl, rfl, trivial⟩
      clear F; intro a F
      refine wq_ev (wn rfl) (ev_move rfl) F rfl rfl ?_; clear F a; intro a F
      obtain ⟨x5, hx4, hm⟩ := bind_some hm
      refine wq_cut 9 (fun a => Fr 126 a [(71, .bool x5), (11, .i6 y7), (10, .i6 y5), (9, .i6 x1), (7, v1), (4, bp b2 0), (3, bp b1 0), (2, .i6 percent)]) ?_ ?_
      ·clear hm; obtain ⟨hc5, hm⟩ | ⟨hc5, hm⟩ := ite_or hx4
       ·refine wq_skip rfl rfl rfl rfl (ne_ft hc5) F rfl rfl ?_; clear F a; intro a F
        refine wq_skip rfl rfl rfl rfl (ne_ft hc5) F rfl rfl ?_; clear F a; intro a F
        refine wq_skip rfl rfl rfl rfl (ne_ft hc5) F rfl rfl ?_; clear F a; intro a F
        refine wq_skip rfl rfl rfl rfl (ne_ft hc5) F rfl rfl ?_; clear F a; intro a F
        refine wq_skip rfl rfl rfl rfl (ne_ft hc5) F rfl rfl ?_; clear F a; intro a F
        refine wq_skip rfl rfl rfl rfl (ne_ft hc5) F rfl rfl ?_; clear F a; intro a F
        refine wq_skip rfl rfl rfl rfl (ne_ft hc5) F rfl rfl ?_; clear F a; intro a F
        refine wq_skip rfl rfl rfl rfl (ne_ft hc5) F rfl rfl ?_; clear F a; intro a F
        refine wq_ev (wn rfl) (ev_pickT rfl hc5 rfl) F rfl rfl ?_; clear F a; intro a F
        obtain rfl := sinj hm
        refine wq_nil ?_; exact F.sub ⟨rfl, rfl, rfl, rfl, rfl, rfl, rfl, rfl, trivial⟩
       ·refine wq_ev (wg F rfl rfl rfl rfl hc5) (ev_loadA tu41 rfl (cs := [vold_1]) ts41 rfl (box_ptr (cells := [vold_1]) 2 rfl 0 rfl (lb rfl))) F rfl rfl ?_; clear F a; intro a F
        refine wq_ev (wg F rfl rfl rfl rfl hc5) (ev_move rfl) F rfl rfl ?_; clear F a; intro a F
        refine wq_ev (wg F rfl rfl rfl rfl hc5) (ev_move rfl) F rfl rfl ?_; clear F a; intro a F
        obtain ⟨y10, hy10, hm⟩ := bind_some hm
        refine wq_ev (wg F rfl rfl rfl rfl hc5) (ev_idxO (h1.mono l5) hy10 tu42 ts46 rfl rfl) F rfl rfl ?_; clear F a; intro a F
        refine wq_ev (wg F rfl rfl rfl rfl hc5) (ev_idxArr (m := 1) tu46 ts9 (by decide) rfl rfl (elemO_ptr (h1.mono l5) hy10) rfl rfl) F rfl rfl ?_; clear F a; intro a F
        obtain ⟨cs4, hr5, hq4⟩ := elemO (h1.mono l5) hy10
        obtain rfl := rep_Arr2_ByteArray hr5
        refine wq_ev (wg F rfl rfl rfl rfl hc5) (ev_load1 tu9 rfl rfl (fun w s => fieldP (cells := [.string y10.e1]) 1 (hq4 _ _ 0 rfl w s) rfl (lb rfl))) F rfl rfl ?_; clear F a; intro a F
        obtain ⟨y11, hy11, hm⟩ := bind_some hm
        refine wq_call (wg F rfl rfl rfl rfl hc5) rfl (xs := [.tmp 63, .tmp 68]) (vs := [.agg #[vold_1], .string y10.e1]) (cap := []) F rfl rfl tc14 (v := .i6 y11) (fun w S => (changeforgeref2_FileAt_ok (g := g5) (fr := (fl [c1, [bx b2 #[vnew_1] 41], [bx b1 #[vold_1] 41]] fr)) (w := w) old_ vold_1 (hold_1.mono (l1.trans l5)) y10.e1 S hy11).mono (by rintro en w' ⟨_, rfl, g2, l2, S2, rfl⟩; exact ⟨rfl, S2.weak l2⟩)) rfl rfl ?_; clear F a; intro a F
        refine wq_ev (wg F rfl rfl rfl rfl hc5) (ev_int rfl rfl (bo_geq _ _ _ _)) F rfl rfl ?_; clear F a; intro a F
        refine wq_ev (wn rfl) (ev_pickF rfl hc5 rfl) F rfl rfl ?_; clear F a; intro a F
        obtain rfl := sinj hm
        refine wq_nil ?_; exact F.sub ⟨rfl, rfl, rfl, rfl, rfl, rfl, rfl, rfl, trivial⟩
      clear F; intro a F
      refine wq_nil ?_; clear S; intro w S
      refine then_n ?_
      obtain ⟨hc6, hm⟩ | ⟨hc6, hm⟩ := ite_or hm
      ·refine wp_condT F rfl hc6 ?_
       refine wp_seq ?_
       refine wp_region_lit ?_
       refine wE (ev_assign rfl) F S rfl fun a F=>?_
       refine wpList_nil ?_
       refine then_n ?_
       refine wp_ret ?_
       refine then_r ?_
       refine inb_r ?_
       refine then_r ?_
       refine then_r ?_
       refine inb_r ?_
       refine then_r ?_
       obtain rfl := sinj hm
       obtain rfl := hfin1 _ rfl
       clear hm
       have hm : (some false : Option Bool) = some _ := hmo1
       obtain rfl := sinj hm
       refine post_r _ F rfl (ar_cons (resT rfl) ar_nil) ?_
       replace S : St g5 [] fr w := St.tail [] _ S
       exact ⟨_, rfl, g5, (l1.trans l5), S, rfl⟩
      ·refine wp_condF F rfl hc6 ?_
       refine wp_skip ?_
       refine then_n ?_
       refine wp_seq ?_
       refine wp_dv [] mo S ?_; clear S; intro ok1 w S
       refine dv_et ok1 0 rfl (ev_fieldAddr' tu41 tf41_0 (z := 0) ts39 rfl ⟨_, rfl⟩ rfl) F rfl fun a F=>?_
       refine dv_ev ok1 1 rfl (ev_load1 tu39 rfl rfl (box_ptr (cells := [vold_1]) 2 rfl 0 rfl (lb rfl))) F S rfl fun a F=>?_
       refine dv_et ok1 2 rfl (ev_move rfl) F rfl fun a F=>?_
       obtain ⟨y12, hy12, hm⟩ := bind_some hm
       obtain ⟨cs5, hr6, hp1⟩ := elemS (hold_1.mono (l1.trans l5)) hy12
       obtain ⟨v2, rfl, h2⟩ := rep_File hr6
       refine dv_et ok1 3 rfl (ev_idxS (hold_1.mono (l1.trans l5)) hy12 tu39 ts48 rfl rfl) F rfl fun a F=>?_
       have hp2 := PtrC.field hp1 1 1 (lb rfl)
       have hp2 : PtrC g5 (addP (elemP vold_1 y5 2) 1) [v2] := hp2
       refine dv_et ok1 4 rfl (ev_fieldAddr' tu48 tf48_1 (z := 0) ts22 rfl hp1.ptr rfl) F rfl fun a F=>?_
       refine dv_ev ok1 5 rfl (ev_load1 tu22 rfl rfl (ptr_mono (cks := [c1, [bx b2 #[vnew_1] 41], [bx b1 #[vold_1] 41]]) (fr := fr) hp2 (Le.refl _))) F S rfl fun a F=>?_
       refine dv_et ok1 6 rfl (ev_fieldAddr' tu41 tf41_0 (z := 0) ts39 rfl ⟨_, rfl⟩ rfl) F rfl fun a F=>?_
       refine dv_ev ok1 7 rfl (ev_load1 tu39 rfl rfl (box_ptr (cells := [vnew_1]) 1 rfl 0 rfl (lb rfl))) F S rfl fun a F=>?_
       refine dv_et ok1 8 rfl (ev_move rfl) F rfl fun a F=>?_
       obtain ⟨y13, hy13, hm⟩ := bind_some hm
       obtain ⟨cs6, hr7, hp3⟩ := elemS (hnew_1.mono (l1.trans l5)) hy13
       obtain ⟨v3, rfl, h3⟩ := rep_File hr7
       refine dv_et ok1 9 rfl (ev_idxS (hnew_1.mono (l1.trans l5)) hy13 tu39 ts48 rfl rfl) F rfl fun a F=>?_
       have hp4 := PtrC.field hp3 1 1 (lb rfl)
       have hp4 : PtrC g5 (addP (elemP vnew_1 y7 2) 1) [v3] := hp4
       refine dv_et ok1 10 rfl (ev_fieldAddr' tu48 tf48_1 (z := 0) ts22 rfl hp3.ptr rfl) F rfl fun a F=>?_
       refine dv_ev ok1 11 rfl (ev_load1 tu22 rfl rfl (ptr_mono (cks := [c1, [bx b2 #[vnew_1] 41], [bx b1 #[vold_1] 41]]) (fr := fr) hp4 (Le.refl _))) F S rfl fun a F=>?_
       obtain ⟨y14, hy14, hm⟩ := bind_some hm
       refine dv_cut [0, 1, 2, 3, 4, 5, 6, 7, 8, 9, 10, 11, 12, 13, 14, 15, 16, 17] [] (fun a w => ∃ (b5 : Nat) (g12 : Gh), Fr 126 a [(12, .i6 y14.1), (13, bp b5 0), (87, .agg #[.i6 y14.2.Code, .i6 y14.2.Index]), (9, .i6 x1), (7, v1), (4, bp b2 0), (3, bp b1 0), (2, .i6 percent)] ∧ Le g5 g12 ∧ St g12 [[bx b5 #[.i6 0, .i6 0] 25], c1, [bx b2 #[vnew_1] 41], [bx b1 #[vold_1] 41]] fr w ∧ changeforgelaw2_RenameMatching.j3 percent y1 x1 y14 = some x2) ?_ ?_
       ·intro HJ
        refine dv_fork ok1 12 [16] (fk 12 rfl [] ?_ (fk 16 rfl [(11, v3), (7, vnew_1), (5, v2), (1, vold_1)] ?_ trivial))
        ·refine wl_call0 (wn rfl) rfl F rfl (rename_Similarity_ok (fr := (fl [c1, [bx b2 #[vnew_1] 41], [bx b1 #[vold_1] 41]] fr)) y12.Lines v2 h2 y13.Lines v3 h3 S hy14) rfl tc15 rfl rfl ?_; clear F a S
         rintro _ a w ⟨g11, l11, S, rfl⟩ F; replace S : St g11 [c1, [bx b2 #[vnew_1] 41], [bx b1 #[vold_1] 41]] fr w := S
         refine dv_nx trivial ?_
         refine dv_et ok1 13 rfl (ev_move rfl) F rfl fun a F=>?_
         refine dv_et ok1 14 rfl (ev_extract rfl rfl) F rfl fun a F=>?_
         refine dv_et ok1 15 rfl (ev_extract rfl rfl) F rfl fun a F=>?_
         refine dv_op ok1 16 rfl [] ?_
         refine wl_alloc (wn rfl) rfl tz25 (cs := [.i6 0, .i6 0]) rfl F S rfl rfl ?_; clear F a S; rintro b4 a w F S
         refine dv_nx trivial ?_
         refine dv_et ok1 17 rfl (ev_assign rfl) F rfl fun a F=>?_
         refine dv_join (HJ _ _ ?_)
         exact ⟨b4, g11, F.sub ⟨rfl, rfl, rfl, rfl, rfl, rfl, rfl, rfl, trivial⟩, l11, S, hm⟩
        ·refine wl_alloc (wn rfl) rfl tz25 (cs := [.i6 0, .i6 0]) rfl F S rfl rfl ?_; clear F a S; rintro b4 a w F S
         refine dv_nx ⟨yl_ev rfl rfl (ev_load1 tu22 rfl rfl (ptr_mono (cks := [[bx b4 #[.i6 0, .i6 0] 25], c1, [bx b2 #[vnew_1] 41], [bx b1 #[vold_1] 41]]) (fr := fr) hp4 (Le.refl _))) F S, yl_ev rfl rfl (ev_load1 tu39 rfl rfl (box_ptr (cells := [vnew_1]) 2 rfl 0 rfl (lb rfl))) F S, yl_ev rfl rfl (ev_load1 tu22 rfl rfl (ptr_mono (cks := [[bx b4 #[.i6 0, .i6 0] 25], c1, [bx b2 #[vnew_1] 41], [bx b1 #[vold_1] 41]]) (fr := fr) hp2 (Le.refl _))) F S, yl_ev rfl rfl (ev_load1 tu39 rfl rfl (box_ptr (cells := [vold_1]) 3 rfl 0 rfl (lb rfl))) F S, trivial⟩ ?_
         refine dv_op ok1 12 rfl [] ?_
         refine wl_call0 (wn rfl) rfl F rfl (rename_Similarity_ok (fr := (fl [[bx b4 #[.i6 0, .i6 0] 25], c1, [bx b2 #[vnew_1] 41], [bx b1 #[vold_1] 41]] fr)) y12.Lines v2 h2 y13.Lines v3 h3 S hy14) rfl tc15 rfl rfl ?_; clear F a S
         rintro _ a w ⟨g11, l11, S, rfl⟩ F; replace S : St g11 [[bx b4 #[.i6 0, .i6 0] 25], c1, [bx b2 #[vnew_1] 41], [bx b1 #[vold_1] 41]] fr w := S
         refine dv_nx trivial ?_
         refine dv_et ok1 13 rfl (ev_move rfl) F rfl fun a F=>?_
         refine dv_et ok1 14 rfl (ev_extract rfl rfl) F rfl fun a F=>?_
         refine dv_et ok1 15 rfl (ev_extract rfl rfl) F rfl fun a F=>?_
         refine dv_et ok1 17 rfl (ev_assign rfl) F rfl fun a F=>?_
         refine dv_join (HJ _ _ ?_)
         exact ⟨b4, g11, F.sub ⟨rfl, rfl, rfl, rfl, rfl, rfl, rfl, rfl, trivial⟩, l11, S, hm⟩
       ·clear F S hm; rintro a w ⟨b5, g12, F, l12, S, hm⟩
        refine dv_op ok1 18 rfl [] ?_
        refine wl_storeC (wn rfl) rfl F S rfl rfl (vs := [.i6 y14.2.Code, .i6 y14.2.Index]) rfl ts25 (one_cons rfl (one_cons rfl one_nil)) (k := 0) rfl (lb rfl) (c' := #[.i6 y14.2.Code, .i6 y14.2.Index]) rfl rfl ?_; clear S; intro w S
        refine dv_nx trivial ?_
        refine dv_fin ok1 ?_
        refine then_n ?_
        refine wp_seq ?_
        refine wp_seq ?_
        refine wp_region_lit ?_
        refine wE (ev_fieldAddr' tu25 tf25_0 (z := 0) ts3 rfl ⟨_, rfl⟩ rfl) F S rfl fun a F=>?_
        refine wE (ev_load1 tu3 rfl rfl (box_ptr (cells := [.i6 y14.2.Code]) 0 rfl 0 rfl (lb rfl))) F S rfl fun a F=>?_
        refine wE (ev_int rfl rfl (bo_neq _ _ _ _)) F S rfl fun a F=>?_
        refine wE (ev_move rfl) F S rfl fun a F=>?_
        obtain ⟨x6, hx5, hm⟩ := bind_some hm
        refine wl_cut 4 (fun a w' => w = w' ∧ Fr 126 a [(95, .bool x6), (9, .i6 x1), (7, v1), (4, bp b2 0), (3, bp b1 0), (2, .i6 percent)]) ?_ ?_
        ·clear hm; obtain ⟨hc7, hm⟩ | ⟨hc7, hm⟩ := ite_or hx5
         ·refine wl_skip rfl rfl rfl rfl (ne_ft hc7) F rfl rfl ?_; clear F a; intro a F
          refine wl_skip rfl rfl rfl rfl (ne_ft hc7) F rfl rfl ?_; clear F a; intro a F
          refine wl_skip rfl rfl rfl rfl (ne_ft hc7) F rfl rfl ?_; clear F a; intro a F
          refine wE (ev_pickT rfl hc7 rfl) F S rfl fun a F=>?_
          obtain rfl := sinj hm
          refine wpList_nil (then_n ?_); exact ⟨rfl, F.sub ⟨rfl, rfl, rfl, rfl, rfl, rfl, trivial⟩⟩
         ·refine wl_ev (wg F rfl rfl rfl rfl hc7) (ev_move rfl) F S rfl rfl ?_; clear F a; intro a F
          refine wl_ev (wg F rfl rfl rfl rfl hc7) (ev_move rfl) F S rfl rfl ?_; clear F a; intro a F
          refine wl_ev (wg F rfl rfl rfl rfl hc7) (ev_int rfl rfl (bo_lss _ _ _ _)) F S rfl rfl ?_; clear F a; intro a F
          refine wE (ev_pickF rfl hc7 rfl) F S rfl fun a F=>?_
          obtain rfl := sinj hm
          refine wpList_nil (then_n ?_); exact ⟨rfl, F.sub ⟨rfl, rfl, rfl, rfl, rfl, rfl, trivial⟩⟩
        clear F; rintro a w' ⟨rfl, F⟩
        refine wpList_nil ?_
        refine then_n ?_
        obtain ⟨hc8, hm⟩ | ⟨hc8, hm⟩ := ite_or hm
        ·refine wp_condT F rfl hc8 ?_
         refine wp_seq ?_
         refine wp_region_lit ?_
         refine wE (ev_assign rfl) F S rfl fun a F=>?_
         refine wpList_nil ?_
         refine then_n ?_
         refine wp_ret ?_
         refine then_r ?_
         refine inb_r ?_
         refine then_r ?_
         refine then_r ?_
         refine inb_r ?_
         refine then_r ?_
         obtain rfl := sinj hm
         obtain rfl := hfin1 _ rfl
         clear hm
         have hm : (some false : Option Bool) = some _ := hmo1
         obtain rfl := sinj hm
         refine post_r _ F rfl (ar_cons (resT rfl) ar_nil) ?_
         replace S : St g12 [] fr w := St.tail [] _ S
         exact ⟨_, rfl, g12, ((l1.trans l5).trans l12), S, rfl⟩
        ·refine wp_condF F rfl hc8 ?_
         refine wp_skip ?_
         refine then_n ?_
         refine wp_seq ?_
         refine wp_region_lit ?_
         refine wE (ev_assign rfl) F S rfl fun a F=>?_
         refine wpList_nil ?_
         refine then_n ?_
         refine wp_cut1 (fun a w => ∃ (g13 : Gh), Fr 126 a [(9, .i6 x1), (7, v1), (4, bp b2 0), (3, bp b1 0), (2, .i6 percent)] ∧ Le g12 g13 ∧ St g13 [c1, [bx b2 #[vnew_1] 41], [bx b1 #[vold_1] 41]] fr w ∧ changeforgelaw2_RenameMatching.j4 x1 = some x2) ?_ ?_
         ·refine wp_block ?_
          obtain ⟨r2, hr8, hm⟩ := bind_some hm
          have hmo2 := hm; clear hm
          refine wp_iter (σ := Int) (ρ := Bool ⊕ Unit) (m := fun s => changeforgelaw2_RenameMatching.l2 y1 x1 s) (I := fun x7 a w => ∃ (g14 : Gh), Fr 126 a [(14, .i6 x7), (9, .i6 x1), (7, v1), (4, bp b2 0), (3, bp b1 0), (2, .i6 percent)] ∧ Le g12 g14 ∧ St g14 [c1, [bx b2 #[vnew_1] 41], [bx b1 #[vold_1] 41]] fr w) hr8 ?_ ?_
          ·replace S : St g12 [c1, [bx b2 #[vnew_1] 41], [bx b1 #[vold_1] 41]] fr w := St.tail [c1, [bx b2 #[vnew_1] 41], [bx b1 #[vold_1] 41]] _ (((S.frontC 3 rfl).frontC 3 rfl).frontC 3 rfl)
           exact ⟨g12, F.sub ⟨rfl, rfl, rfl, rfl, rfl, rfl, trivial⟩, (Le.refl _), S⟩
          ·clear F S; rintro x7 a w x8 ⟨g14, F, l14, S⟩ hx6 hfin2
           have hm : changeforgelaw2_RenameMatching.l2 y1 x1 x7 = some x8 := hx6; clear hx6
           unfold changeforgelaw2_RenameMatching.l2 at hm
           refine wp_seq ?_
           refine wp_seq ?_
           refine wp_region_lit ?_
           refine wE (ev_move rfl) F S rfl fun a F=>?_
           refine wE (ev_move rfl) F S rfl fun a F=>?_
           refine wE (ev_int rfl rfl (bo_lss _ _ _ _)) F S rfl fun a F=>?_
           refine wpList_nil ?_
           refine then_n ?_
           obtain ⟨hc9, hm⟩ | ⟨hc9, hm⟩ := ite_or hm
           ·refine wp_condT F rfl hc9 ?_
            refine wp_skip ?_
            refine then_n ?_
            refine wp_seq ?_
            refine wp_block ?_
            refine wp_seq ?_
            refine wp_quiet mo (by kernel_rfl) S ?_
            refine wq_ev (wn rfl) (ev_move rfl) F rfl rfl ?_; clear F a; intro a F
            refine wq_ev (wn rfl) (ev_move rfl) F rfl rfl ?_; clear F a; intro a F
            obtain ⟨y15, hy15, hm⟩ := bind_some hm
            refine wq_ev (wn rfl) (ev_idxO (h1.mono ((l5.trans l12).trans l14)) hy15 tu42 ts46 rfl rfl) F rfl rfl ?_; clear F a; intro a F
            refine wq_ev (wn rfl) (ev_idxArr (m := 0) tu46 ts9 (by decide) rfl rfl (elemO_ptr (h1.mono ((l5.trans l12).trans l14)) hy15) rfl addP_zero) F rfl rfl ?_; clear F a; intro a F
            obtain ⟨cs7, hr9, hq5⟩ := elemO (h1.mono ((l5.trans l12).trans l14)) hy15
            obtain rfl := rep_Arr2_ByteArray hr9
            refine wq_ev (wn rfl) (ev_load1 tu9 rfl rfl (fun w s => addP_zero ▸ fieldP (cells := [.string y15.e0]) 0 (hq5 _ _ 0 rfl w s) rfl (lb rfl))) F rfl rfl ?_; clear F a; intro a F
            refine wq_ev (wn rfl) (ev_move rfl) F rfl rfl ?_; clear F a; intro a F
            refine wq_ev (wn rfl) (ev_move rfl) F rfl rfl ?_; clear F a; intro a F
            obtain ⟨y16, hy16, hm⟩ := bind_some hm
            refine wq_ev (wn rfl) (ev_idxO (h1.mono ((l5.trans l12).trans l14)) hy16 tu42 ts46 rfl rfl) F rfl rfl ?_; clear F a; intro a F
            refine wq_ev (wn rfl) (ev_idxArr (m := 0) tu46 ts9 (by decide) rfl rfl (elemO_ptr (h1.mono ((l5.trans l12).trans l14)) hy16) rfl addP_zero) F rfl rfl ?_; clear F a; intro a F
            obtain ⟨cs8, hr10, hq6⟩ := elemO (h1.mono ((l5.trans l12).trans l14)) hy16
            obtain rfl := rep_Arr2_ByteArray hr10
            refine wq_ev (wn rfl) (ev_load1 tu9 rfl rfl (fun w s => addP_zero ▸ fieldP (cells := [.string y16.e0]) 0 (hq6 _ _ 0 rfl w s) rfl (lb rfl))) F rfl rfl ?_; clear F a; intro a F
            refine wq_ev (wn rfl) (ev_str rfl rfl (bs_eql _ _ _)) F rfl rfl ?_; clear F a; intro a F
            refine wq_ev (wn rfl) (ev_move rfl) F rfl rfl ?_; clear F a; intro a F
            obtain ⟨x9, hx7, hm⟩ := bind_some hm
            refine wq_cut 12 (fun a => Fr 126 a [(124, .bool x9), (14, .i6 x7), (9, .i6 x1), (7, v1), (4, bp b2 0), (3, bp b1 0), (2, .i6 percent)]) ?_ ?_
            ·clear hm; obtain ⟨hc10, hm⟩ | ⟨hc10, hm⟩ := ite_or hx7
             ·refine wq_skip rfl rfl rfl rfl (ne_ft hc10) F rfl rfl ?_; clear F a; intro a F
              refine wq_skip rfl rfl rfl rfl (ne_ft hc10) F rfl rfl ?_; clear F a; intro a F
              refine wq_skip rfl rfl rfl rfl (ne_ft hc10) F rfl rfl ?_; clear F a; intro a F
              refine wq_skip rfl rfl rfl rfl (ne_ft hc10) F rfl rfl ?_; clear F a; intro a F
              refine wq_skip rfl rfl rfl rfl (ne_ft hc10) F rfl rfl ?_; clear F a; intro a F
              refine wq_skip rfl rfl rfl rfl (ne_ft hc10) F rfl rfl ?_; clear F a; intro a F
              refine wq_skip rfl rfl rfl rfl (ne_ft hc10) F rfl rfl ?_; clear F a; intro a F
              refine wq_skip rfl rfl rfl rfl (ne_ft hc10) F rfl rfl ?_; clear F a; intro a F
              refine wq_skip rfl rfl rfl rfl (ne_ft hc10) F rfl rfl ?_; clear F a; intro a F
              refine wq_skip rfl rfl rfl rfl (ne_ft hc10) F rfl rfl ?_; clear F a; intro a F
              refine wq_skip rfl rfl rfl rfl (ne_ft hc10) F rfl rfl ?_; clear F a; intro a F
              refine wq_ev (wn rfl) (ev_pickT rfl hc10 rfl) F rfl rfl ?_; clear F a; intro a F
              obtain rfl := sinj hm
              refine wq_nil ?_; exact F.sub ⟨rfl, rfl, rfl, rfl, rfl, rfl, rfl, trivial⟩
             ·refine wq_ev (wg F rfl rfl rfl rfl hc10) (ev_move rfl) F rfl rfl ?_; clear F a; intro a F
              refine wq_ev (wg F rfl rfl rfl rfl hc10) (ev_move rfl) F rfl rfl ?_; clear F a; intro a F
              obtain ⟨y17, hy17, hm⟩ := bind_some hm
              refine wq_ev (wg F rfl rfl rfl rfl hc10) (ev_idxO (h1.mono ((l5.trans l12).trans l14)) hy17 tu42 ts46 rfl rfl) F rfl rfl ?_; clear F a; intro a F
              refine wq_ev (wg F rfl rfl rfl rfl hc10) (ev_idxArr (m := 1) tu46 ts9 (by decide) rfl rfl (elemO_ptr (h1.mono ((l5.trans l12).trans l14)) hy17) rfl rfl) F rfl rfl ?_; clear F a; intro a F
              obtain ⟨cs9, hr11, hq7⟩ := elemO (h1.mono ((l5.trans l12).trans l14)) hy17
              obtain rfl := rep_Arr2_ByteArray hr11
              refine wq_ev (wg F rfl rfl rfl rfl hc10) (ev_load1 tu9 rfl rfl (fun w s => fieldP (cells := [.string y17.e1]) 1 (hq7 _ _ 0 rfl w s) rfl (lb rfl))) F rfl rfl ?_; clear F a; intro a F
              refine wq_ev (wg F rfl rfl rfl rfl hc10) (ev_move rfl) F rfl rfl ?_; clear F a; intro a F
              refine wq_ev (wg F rfl rfl rfl rfl hc10) (ev_move rfl) F rfl rfl ?_; clear F a; intro a F
              obtain ⟨y18, hy18, hm⟩ := bind_some hm
              refine wq_ev (wg F rfl rfl rfl rfl hc10) (ev_idxO (h1.mono ((l5.trans l12).trans l14)) hy18 tu42 ts46 rfl rfl) F rfl rfl ?_; clear F a; intro a F
              refine wq_ev (wg F rfl rfl rfl rfl hc10) (ev_idxArr (m := 1) tu46 ts9 (by decide) rfl rfl (elemO_ptr (h1.mono ((l5.trans l12).trans l14)) hy18) rfl rfl) F rfl rfl ?_; clear F a; intro a F
              obtain ⟨cs10, hr12, hq8⟩ := elemO (h1.mono ((l5.trans l12).trans l14)) hy18
              obtain rfl := rep_Arr2_ByteArray hr12
              refine wq_ev (wg F rfl rfl rfl rfl hc10) (ev_load1 tu9 rfl rfl (fun w s => fieldP (cells := [.string y18.e1]) 1 (hq8 _ _ 0 rfl w s) rfl (lb rfl))) F rfl rfl ?_; clear F a; intro a F
              refine wq_ev (wg F rfl rfl rfl rfl hc10) (ev_str rfl rfl (bs_eql _ _ _)) F rfl rfl ?_; clear F a; intro a F
              refine wq_ev (wn rfl) (ev_pickF rfl hc10 rfl) F rfl rfl ?_; clear F a; intro a F
              obtain rfl := sinj hm
              refine wq_nil ?_; exact F.sub ⟨rfl, rfl, rfl, rfl, rfl, rfl, rfl, trivial⟩
            clear F; intro a F
            refine wq_nil ?_; clear S; intro w S
            refine then_n ?_
            obtain ⟨hc11, hm⟩ | ⟨hc11, hm⟩ := ite_or hm
            ·refine wp_condT F rfl hc11 ?_
             refine wp_seq ?_
             refine wp_region_lit ?_
             refine wE (ev_assign rfl) F S rfl fun a F=>?_
             refine wpList_nil ?_
             refine then_n ?_
             refine wp_ret ?_
             refine inb_r ?_
             refine then_r ?_
             refine then_r ?_
             refine inb_r ?_
             refine then_r ?_
             refine inb_r ?_
             refine then_r ?_
             refine then_r ?_
             refine inb_r ?_
             refine then_r ?_
             obtain rfl := sinj hm
             obtain rfl := hfin2 _ rfl
             clear hm
             have hm : (some (Step.done (Sum.inl false)) : Option (Step Int (Bool ⊕ Unit))) = some _ := hmo2
             obtain rfl := sinj hm
             obtain rfl := hfin1 _ rfl
             clear hm
             have hm : (some false : Option Bool) = some _ := hmo1
             obtain rfl := sinj hm
             refine post_r _ F rfl (ar_cons (resT rfl) ar_nil) ?_
             replace S : St g14 [] fr w := St.tail [] _ S
             exact ⟨_, rfl, g14, (((l1.trans l5).trans l12).trans l14), S, rfl⟩
            ·refine wp_condF F rfl hc11 ?_
             refine wp_skip ?_
             refine inb_n ?_
             refine then_n ?_
             refine wp_region_lit ?_
             refine wE (ev_move rfl) F S rfl fun a F=>?_
             obtain ⟨z2, hz2, hm⟩ := bind_some hm
             refine wE (ev_int rfl rfl (bo_add hz2)) F S rfl fun a F=>?_
             refine wE (ev_assign rfl) F S rfl fun a F=>?_
             refine wpList_nil ?_
             refine then_n ?_
             obtain rfl := sinj hm
             refine ⟨_, rfl, ?_⟩
             exact ⟨g14, F.sub ⟨rfl, rfl, rfl, rfl, rfl, rfl, trivial⟩, l14, S⟩
           ·refine wp_condF F rfl hc9 ?_
            refine wp_exit ?_
            refine then_e ?_
            refine then_e ?_
            refine inb_x ?_
            refine then_n ?_
            obtain rfl := sinj hm
            obtain rfl := hfin2 _ rfl
            clear hm
            have hm : (changeforgelaw2_RenameMatching.j4 x1 : Option (Step Int (Bool ⊕ Unit))) = some _ := hmo2
            exact ⟨g14, F.sub ⟨rfl, rfl, rfl, rfl, rfl, trivial⟩, l14, S, hm⟩
         ·clear F S hm; rintro a w ⟨g13, F, l13, S, hm⟩
          refine inb_n ?_
          refine then_n ?_
          exact ⟨g13, F.sub ⟨rfl, rfl, rfl, rfl, rfl, trivial⟩, (l12.trans l13), S, hm⟩
     ·clear F S hm; rintro a w ⟨g6, F, l6, S, hm⟩
      refine wp_region_lit ?_
      refine wE (ev_move rfl) F S rfl fun a F=>?_
      obtain ⟨z1, hz1, hm⟩ := bind_some hm
      refine wE (ev_int rfl rfl (bo_add hz1)) F S rfl fun a F=>?_
      refine wE (ev_assign rfl) F S rfl fun a F=>?_
      refine wpList_nil ?_
      refine then_n ?_
      obtain rfl := sinj hm
      refine ⟨_, rfl, ?_⟩
      exact ⟨g6, F.sub ⟨rfl, rfl, rfl, rfl, rfl, trivial⟩, (l5.trans l6), S⟩
    ·refine wp_condF F rfl hc2 ?_
     refine wp_exit ?_
     refine then_e ?_
     refine then_e ?_
     refine inb_x ?_
     refine then_n ?_
     obtain rfl := sinj hm
     obtain rfl := hfin1 _ rfl
     clear hm
     have hm : (changeforgelaw2_RenameMatching.j1 : Option Bool) = some _ := hmo1
     replace S : St g5 [] fr w := St.tail [] _ S
     exact ⟨g5, F.sub trivial, l5, S, hm⟩
  ·clear F S hm; rintro a w ⟨g3, F, l3, S, hm⟩
   refine wp_seq ?_
   refine wp_region_lit ?_
   obtain ⟨y3, hy3, hm⟩ := bind_some hm
   refine wl_call0 (wn rfl) rfl F rfl (changeforgelaw2_half_ok  S hy3) rfl tc13 rfl rfl ?_; clear F a S
   rintro _ a w ⟨g4, l4, S, rfl⟩ F; replace S : St g4 [] fr w := S
   refine wE (ev_assign rfl) F S rfl fun a F=>?_
   refine wpList_nil ?_
   refine then_n ?_
   refine wp_ret ?_
   obtain rfl := sinj hm
   refine post_r _ F rfl (ar_cons (resT rfl) ar_nil) ?_
   exact ⟨_, rfl, g4, ((l1.trans l3).trans l4), S, rfl⟩
end Go.Dc
