/- Walks: each function comes to what its model says. -/
import Derived.Test.YtgcjgmfdnhimmaaDcTab
import Derived.Test.YtgcjgmfdnhimmaaDcM
import Derived.Test.YtgcjgmfdnhimmaaDcW1
import Derived.Test.YtgcjgmfdnhimmaaDcW2
namespace Go.Dc
open Go Go.Proofs
set_option maxRecDepth 100000
set_option maxHeartbeats 4000000
set_option linter.unusedVariables false
theorem stack_move_ok {g : Gh} {fr : Hl} {w : World} {r : (List Patch) × Bool × Fault} (patches : (List Patch)) (vpatches1 : Value) (hpatches1 : RepSl g patches vpatches1) (from_ : Int) (to : Int) (S : St g [] fr w) (hm : stack_move patches from_ to = some r) :
  Calls Try.prog 24 [vpatches1, .i6 from_, .i6 to].toArray w (fun en w' => ∃ v, en = .returned v ∧ ∃ (g' : Gh) (v1 : Value) (c1 : Hl), Le g g' ∧ St g' [c1] fr w' ∧ OwnS g' r.1 v1 c1 ∧ .tuple #[v1, .bool r.2.1, .agg #[.i6 r.2.2.Code, .i6 r.2.2.Index]] = v) := by
 unfold stack_move at hm
 refine calls_enter (fn := Try.f24) Try.func24 rfl Try.ntmps24 (lb rfl) ?_
 intro a F
 replace F : Fr 69 a [(0, vpatches1), (1, .i6 from_), (2, .i6 to)] := F
 refine wp_seq ?_
 refine wp_region_lit ?_
 refine wE (ev_assign rfl) F S rfl fun a F=>?_
 refine wE (ev_assign rfl) F S rfl fun a F=>?_
 refine wl_alloc (wn rfl) rfl tz24 (cs := [.i6 0, .i6 0]) rfl F S rfl rfl ?_; clear F a S; rintro b1 a w F S
 refine wpList_nil ?_
 refine then_n ?_
 refine wp_seq ?_
 refine wp_region_lit ?_
 refine wE (ev_move rfl) F S rfl fun a F=>?_
 obtain ⟨y1, hy1, hm⟩ := bind_some hm
 refine wl_call0 (wn rfl) rfl F rfl (stack_clone_ok (fr := (fl [[bx b1 #[.i6 0, .i6 0] 24]] fr)) patches vpatches1 hpatches1 S hy1) rfl tc43 rfl rfl ?_; clear F a S
 rintro _ a w ⟨g1, v1, c1, l1, S, h1, rfl⟩ F; replace S : St g1 [c1, [bx b1 #[.i6 0, .i6 0] 24]] fr w := S
 refine wE (ev_assign rfl) F S rfl fun a F=>?_
 refine wpList_nil ?_
 refine then_n ?_
 refine wp_cut (fun a w => ∃ (x1 : List Patch) (v2 : Value) (c2 : Hl) (g2 : Gh), Fr 69 a [(9, v2), (8, bp b1 0)] ∧ Le g1 g2 ∧ St g2 [c2, [bx b1 #[.i6 0, .i6 0] 24]] fr w ∧ OwnS g2 x1 v2 c2 ∧ stack_move.j1 x1 = some r) ?_ ?_
 ·refine wp_seq ?_
  refine wp_region_lit ?_
  refine wE (ev_move rfl) F S rfl fun a F=>?_
  refine wE (ev_assign rfl) F S rfl fun a F=>?_
  refine wpList_nil ?_
  refine then_n ?_
  refine wp_block ?_
  obtain ⟨r1, hr1, hm⟩ := bind_some hm
  have hmo1 := hm; clear hm
  refine wp_iter (σ := Int × (List Patch)) (ρ := ((List Patch) × Bool × Fault) ⊕ (List Patch)) (m := fun s => stack_move.l1 to s.1 s.2) (I := fun s a w => match s with | (x2, x3) => ∃ (v3 : Value) (c3 : Hl) (g3 : Gh), Fr 69 a [(10, .i6 x2), (9, v3), (8, bp b1 0), (2, .i6 to)] ∧ Le g1 g3 ∧ St g3 [c3, [bx b1 #[.i6 0, .i6 0] 24]] fr w ∧ OwnS g3 x3 v3 c3) hr1 ?_ ?_
  ·dsimp only
   exact ⟨v1, c1, g1, F.sub ⟨rfl, rfl, rfl, rfl, trivial⟩, (Le.refl _), S, h1⟩
  ·clear F S; rintro ⟨x2, x3⟩ a w x4 ⟨v3, c3, g3, F, l3, S, h3⟩ hx1 hfin1
   have hm : stack_move.l1 to x2 x3 = some x4 := hx1; clear hx1
   unfold stack_move.l1 at hm
   refine wp_seq ?_
   refine wp_seq ?_
   refine wp_region_lit ?_
   refine wE (ev_move rfl) F S rfl fun a F=>?_
   refine wE (ev_move rfl) F S rfl fun a F=>?_
   refine wE (ev_int rfl rfl (bo_neq _ _ _ _)) F S rfl fun a F=>?_
   refine wpList_nil ?_
   refine then_n ?_
   obtain ⟨hc1, hm⟩ | ⟨hc1, hm⟩ := ite_or hm
   ·refine wp_condT F rfl hc1 ?_
    refine wp_skip ?_
    refine then_n ?_
    refine wp_block ?_
    refine wp_seq ?_
    refine wp_region_lit ?_
    refine wE (ev_move rfl) F S rfl fun a F=>?_
    refine wE (ev_move rfl) F S rfl fun a F=>?_
    obtain ⟨z1, hz1, hm⟩ := bind_some hm
    refine wE (ev_int rfl rfl (bo_add hz1)) F S rfl fun a F=>?_
    refine wE (ev_assign rfl) F S rfl fun a F=>?_
    refine wE (ev_assign rfl) F S rfl fun a F=>?_
    refine wpList_nil ?_
    refine then_n ?_
    refine wp_cut (fun a w => ∃ (x5 : Int) (x6 : Int) (g4 : Gh), Fr 69 a [(12, .i6 x5), (11, .i6 x6), (9, v3), (8, bp b1 0), (2, .i6 to)] ∧ Le g3 g4 ∧ St g4 [c3, [bx b1 #[.i6 0, .i6 0] 24]] fr w ∧ stack_move.j2 x3 x5 x6 = some x4) ?_ ?_
    ·refine wp_seq ?_
     refine wp_region_lit ?_
     refine wE (ev_move rfl) F S rfl fun a F=>?_
     refine wE (ev_move rfl) F S rfl fun a F=>?_
     refine wE (ev_int rfl rfl (bo_lss _ _ _ _)) F S rfl fun a F=>?_
     refine wpList_nil ?_
     refine then_n ?_
     obtain ⟨hc4, hm⟩ | ⟨hc4, hm⟩ := ite_or hm
     ·refine wp_condT F rfl hc4 ?_
      refine wp_region_lit ?_
      refine wE (ev_move rfl) F S rfl fun a F=>?_
      obtain ⟨z4, hz4, hm⟩ := bind_some hm
      refine wE (ev_int rfl rfl (bo_sub hz4)) F S rfl fun a F=>?_
      refine wE (ev_move rfl) F S rfl fun a F=>?_
      obtain ⟨z5, hz5, hm⟩ := bind_some hm
      refine wE (ev_int rfl rfl (bo_sub hz5)) F S rfl fun a F=>?_
      refine wE (ev_assign rfl) F S rfl fun a F=>?_
      refine wE (ev_assign rfl) F S rfl fun a F=>?_
      refine wpList_nil ?_
      refine then_n ?_
      exact ⟨z5, z4, g3, F.sub ⟨rfl, rfl, rfl, rfl, rfl, trivial⟩, (Le.refl _), S, hm⟩
     ·refine wp_condF F rfl hc4 ?_
      refine wp_skip ?_
      refine then_n ?_
      exact ⟨z1, x2, g3, F.sub ⟨rfl, rfl, rfl, rfl, rfl, trivial⟩, (Le.refl _), S, hm⟩
    ·clear F S hm; rintro a w ⟨x5, x6, g4, F, l4, S, hm⟩
     refine wp_seq ?_
     refine wp_dv [] mo S ?_; clear S; intro ok1 w S
     refine dv_et ok1 0 rfl (ev_move rfl) F rfl fun a F=>?_
     refine dv_et ok1 1 rfl (ev_move rfl) F rfl fun a F=>?_
     obtain ⟨y2, hy2, hm⟩ := bind_some hm
     refine dv_et ok1 2 rfl (ev_idxO (h3.mono l4) hy2 tu22 ts38 rfl rfl) F rfl fun a F=>?_
     obtain ⟨cs1, hr2, hq1⟩ := elemO (h3.mono l4) hy2
     obtain ⟨v4, rfl, h4⟩ := rep_Patch hr2
     refine dv_ev ok1 3 rfl (ev_loadA tu38 rfl (cs := [v4]) ts38 rfl (hq1 _ _ 0 rfl)) F S rfl fun a F=>?_
     refine dv_et ok1 4 rfl (ev_move rfl) F rfl fun a F=>?_
     refine dv_et ok1 5 rfl (ev_move rfl) F rfl fun a F=>?_
     obtain ⟨z2, hz2, hm⟩ := bind_some hm
     refine dv_et ok1 6 rfl (ev_int rfl rfl (bo_add hz2)) F rfl fun a F=>?_
     obtain ⟨y3, hy3, hm⟩ := bind_some hm
     refine dv_et ok1 7 rfl (ev_idxO (h3.mono l4) hy3 tu22 ts38 rfl rfl) F rfl fun a F=>?_
     obtain ⟨cs2, hr3, hq2⟩ := elemO (h3.mono l4) hy3
     obtain ⟨v5, rfl, h5⟩ := rep_Patch hr3
     refine dv_ev ok1 8 rfl (ev_loadA tu38 rfl (cs := [v5]) ts38 rfl (hq2 _ _ 0 rfl)) F S rfl fun a F=>?_
     obtain ⟨y4, hy4, hm⟩ := bind_some hm
     refine dv_cut [0, 1, 2, 3, 4, 5, 6, 7, 8, 9, 10, 11, 12, 13, 14, 15, 16, 17] [] (fun a w => ∃ (v8 v9 : Value) (b5 b6 b7 : Nat) (g6 : Gh), Fr 69 a [(16, bp b5 0), (14, bp b6 0), (13, bp b7 0), (47, .agg #[.i6 y4.2.2.2.Code, .i6 y4.2.2.2.Index]), (46, .bool y4.2.2.1), (45, .agg #[v8]), (44, .agg #[v9]), (12, .i6 x5), (11, .i6 x6), (9, v3), (8, bp b1 0), (2, .i6 to)] ∧ Le g4 g6 ∧ St g6 [[bx b5 #[.i6 0, .i6 0] 24], [bx b6 #[nilS] 38], [bx b7 #[nilS] 38], c3, [bx b1 #[.i6 0, .i6 0] 24]] fr w ∧ RepSl g6 y4.2.1.Hunks v8 ∧ RepSl g6 y4.1.Hunks v9 ∧ stack_move.j3 x3 x5 x6 y4 = some x4) ?_ ?_
     ·intro HJ
      refine dv_fork ok1 9 [15, 16, 17] (fk 9 rfl [] ?_ (fk 15 rfl [(8, .agg #[v5]), (3, .agg #[v4])] ?_ (fk 16 rfl [(8, .agg #[v5]), (3, .agg #[v4])] ?_ (fk 17 rfl [(8, .agg #[v5]), (3, .agg #[v4])] ?_ trivial))))
      ·refine wl_call0 (wn rfl) rfl F rfl (commute_Commute_ok (fr := (fl [c3, [bx b1 #[.i6 0, .i6 0] 24]] fr)) y2 v4 h4 y3 v5 h5 S hy4) rfl tc18 rfl rfl ?_; clear F a S
       rintro _ a w ⟨g5, v6, v7, l5, S, h6, h7, rfl⟩ F; replace S : St g5 [c3, [bx b1 #[.i6 0, .i6 0] 24]] fr w := S
       refine dv_nx trivial ?_
       refine dv_et ok1 10 rfl (ev_move rfl) F rfl fun a F=>?_
       refine dv_et ok1 11 rfl (ev_extract rfl rfl) F rfl fun a F=>?_
       refine dv_et ok1 12 rfl (ev_extract rfl rfl) F rfl fun a F=>?_
       refine dv_et ok1 13 rfl (ev_extract rfl rfl) F rfl fun a F=>?_
       refine dv_et ok1 14 rfl (ev_extract rfl rfl) F rfl fun a F=>?_
       refine dv_fork ok1 15 [16, 17] (fk 15 rfl [] ?_ (fk 16 rfl [] ?_ (fk 17 rfl [] ?_ trivial)))
       ·refine wl_alloc (wn rfl) rfl tz38 (cs := [nilS]) rfl F S rfl rfl ?_; clear F a S; rintro b2 a w F S
        refine dv_nx trivial ?_
        refine dv_fork ok1 16 [17] (fk 16 rfl [] ?_ (fk 17 rfl [] ?_ trivial))
        ·refine wl_alloc (wn rfl) rfl tz38 (cs := [nilS]) rfl F S rfl rfl ?_; clear F a S; rintro b3 a w F S
         refine dv_nx trivial ?_
         refine dv_op ok1 17 rfl [] ?_
         refine wl_alloc (wn rfl) rfl tz24 (cs := [.i6 0, .i6 0]) rfl F S rfl rfl ?_; clear F a S; rintro b4 a w F S
         refine dv_nx trivial ?_
         refine dv_join (HJ _ _ ?_)
         exact ⟨v7, v6, b4, b3, b2, g5, F.sub ⟨rfl, rfl, rfl, rfl, rfl, rfl, rfl, rfl, rfl, rfl, rfl, rfl, trivial⟩, l5, S, h7, h6, hm⟩
        ·refine wl_alloc (wn rfl) rfl tz24 (cs := [.i6 0, .i6 0]) rfl F S rfl rfl ?_; clear F a S; rintro b4 a w F S
         refine dv_nx trivial ?_
         refine dv_op ok1 16 rfl [] ?_
         refine wl_alloc (wn rfl) rfl tz38 (cs := [nilS]) rfl F S rfl rfl ?_; clear F a S; rintro b3 a w F S
         refine dv_nx trivial ?_
         refine dv_join (HJ _ _ ?_)
         replace S : St g5 [[bx b4 #[.i6 0, .i6 0] 24], [bx b3 #[nilS] 38], [bx b2 #[nilS] 38], c3, [bx b1 #[.i6 0, .i6 0] 24]] fr w := St.tail [[bx b4 #[.i6 0, .i6 0] 24], [bx b3 #[nilS] 38], [bx b2 #[nilS] 38], c3, [bx b1 #[.i6 0, .i6 0] 24]] _ (((((S.frontC 4 rfl).frontC 4 rfl).frontC 4 rfl).frontC 3 rfl).frontC 5 rfl)
         exact ⟨v7, v6, b4, b3, b2, g5, F.sub ⟨rfl, rfl, rfl, rfl, rfl, rfl, rfl, rfl, rfl, rfl, rfl, rfl, trivial⟩, l5, S, h7, h6, hm⟩
       ·refine wl_alloc (wn rfl) rfl tz38 (cs := [nilS]) rfl F S rfl rfl ?_; clear F a S; rintro b3 a w F S
        refine dv_nx trivial ?_
        refine dv_fork ok1 15 [17] (fk 15 rfl [] ?_ (fk 17 rfl [] ?_ trivial))
        ·refine wl_alloc (wn rfl) rfl tz38 (cs := [nilS]) rfl F S rfl rfl ?_; clear F a S; rintro b2 a w F S
         refine dv_nx trivial ?_
         refine dv_op ok1 17 rfl [] ?_
         refine wl_alloc (wn rfl) rfl tz24 (cs := [.i6 0, .i6 0]) rfl F S rfl rfl ?_; clear F a S; rintro b4 a w F S
         refine dv_nx trivial ?_
         refine dv_join (HJ _ _ ?_)
         replace S : St g5 [[bx b4 #[.i6 0, .i6 0] 24], [bx b3 #[nilS] 38], [bx b2 #[nilS] 38], c3, [bx b1 #[.i6 0, .i6 0] 24]] fr w := St.tail [[bx b4 #[.i6 0, .i6 0] 24], [bx b3 #[nilS] 38], [bx b2 #[nilS] 38], c3, [bx b1 #[.i6 0, .i6 0] 24]] _ (((((S.frontC 4 rfl).frontC 4 rfl).frontC 3 rfl).frontC 5 rfl).frontC 4 rfl)
         exact ⟨v7, v6, b4, b3, b2, g5, F.sub ⟨rfl, rfl, rfl, rfl, rfl, rfl, rfl, rfl, rfl, rfl, rfl, rfl, trivial⟩, l5, S, h7, h6, hm⟩
        ·refine wl_alloc (wn rfl) rfl tz24 (cs := [.i6 0, .i6 0]) rfl F S rfl rfl ?_; clear F a S; rintro b4 a w F S
         refine dv_nx trivial ?_
         refine dv_op ok1 15 rfl [] ?_
         refine wl_alloc (wn rfl) rfl tz38 (cs := [nilS]) rfl F S rfl rfl ?_; clear F a S; rintro b2 a w F S
         refine dv_nx trivial ?_
         refine dv_join (HJ _ _ ?_)
         replace S : St g5 [[bx b4 #[.i6 0, .i6 0] 24], [bx b3 #[nilS] 38], [bx b2 #[nilS] 38], c3, [bx b1 #[.i6 0, .i6 0] 24]] fr w := St.tail [[bx b4 #[.i6 0, .i6 0] 24], [bx b3 #[nilS] 38], [bx b2 #[nilS] 38], c3, [bx b1 #[.i6 0, .i6 0] 24]] _ (((((S.frontC 4 rfl).frontC 4 rfl).frontC 2 rfl).frontC 5 rfl).frontC 5 rfl)
         exact ⟨v7, v6, b4, b3, b2, g5, F.sub ⟨rfl, rfl, rfl, rfl, rfl, rfl, rfl, rfl, rfl, rfl, rfl, rfl, trivial⟩, l5, S, h7, h6, hm⟩
       ·refine wl_alloc (wn rfl) rfl tz24 (cs := [.i6 0, .i6 0]) rfl F S rfl rfl ?_; clear F a S; rintro b4 a w F S
        refine dv_nx trivial ?_
        refine dv_fork ok1 15 [16] (fk 15 rfl [] ?_ (fk 16 rfl [] ?_ trivial))
        ·refine wl_alloc (wn rfl) rfl tz38 (cs := [nilS]) rfl F S rfl rfl ?_; clear F a S; rintro b2 a w F S
         refine dv_nx trivial ?_
         refine dv_op ok1 16 rfl [] ?_
         refine wl_alloc (wn rfl) rfl tz38 (cs := [nilS]) rfl F S rfl rfl ?_; clear F a S; rintro b3 a w F S
         refine dv_nx trivial ?_
         refine dv_join (HJ _ _ ?_)
         replace S : St g5 [[bx b4 #[.i6 0, .i6 0] 24], [bx b3 #[nilS] 38], [bx b2 #[nilS] 38], c3, [bx b1 #[.i6 0, .i6 0] 24]] fr w := St.tail [[bx b4 #[.i6 0, .i6 0] 24], [bx b3 #[nilS] 38], [bx b2 #[nilS] 38], c3, [bx b1 #[.i6 0, .i6 0] 24]] _ (((((S.frontC 4 rfl).frontC 4 rfl).frontC 3 rfl).frontC 3 rfl).frontC 6 rfl)
         exact ⟨v7, v6, b4, b3, b2, g5, F.sub ⟨rfl, rfl, rfl, rfl, rfl, rfl, rfl, rfl, rfl, rfl, rfl, rfl, trivial⟩, l5, S, h7, h6, hm⟩
        ·refine wl_alloc (wn rfl) rfl tz38 (cs := [nilS]) rfl F S rfl rfl ?_; clear F a S; rintro b3 a w F S
         refine dv_nx trivial ?_
         refine dv_op ok1 15 rfl [] ?_
         refine wl_alloc (wn rfl) rfl tz38 (cs := [nilS]) rfl F S rfl rfl ?_; clear F a S; rintro b2 a w F S
         refine dv_nx trivial ?_
         refine dv_join (HJ _ _ ?_)
         replace S : St g5 [[bx b4 #[.i6 0, .i6 0] 24], [bx b3 #[nilS] 38], [bx b2 #[nilS] 38], c3, [bx b1 #[.i6 0, .i6 0] 24]] fr w := St.tail [[bx b4 #[.i6 0, .i6 0] 24], [bx b3 #[nilS] 38], [bx b2 #[nilS] 38], c3, [bx b1 #[.i6 0, .i6 0] 24]] _ (((((S.frontC 4 rfl).frontC 4 rfl).frontC 2 rfl).frontC 4 rfl).frontC 6 rfl)
         exact ⟨v7, v6, b4, b3, b2, g5, F.sub ⟨rfl, rfl, rfl, rfl, rfl, rfl, rfl, rfl, rfl, rfl, rfl, rfl, trivial⟩, l5, S, h7, h6, hm⟩
      ·refine wl_alloc (wn rfl) rfl tz38 (cs := [nilS]) rfl F S rfl rfl ?_; clear F a S; rintro b2 a w F S
       refine dv_nx ⟨yl_ev rfl rfl (ev_loadA tu38 rfl (cs := [v5]) ts38 rfl (hq2 _ _ 1 rfl)) F S, yl_ev rfl rfl (ev_loadA tu38 rfl (cs := [v4]) ts38 rfl (hq1 _ _ 1 rfl)) F S, trivial⟩ ?_
       refine dv_fork ok1 9 [16, 17] (fk 9 rfl [] ?_ (fk 16 rfl [(8, .agg #[v5]), (3, .agg #[v4])] ?_ (fk 17 rfl [(8, .agg #[v5]), (3, .agg #[v4])] ?_ trivial)))
       ·refine wl_call0 (wn rfl) rfl F rfl (commute_Commute_ok (fr := (fl [[bx b2 #[nilS] 38], c3, [bx b1 #[.i6 0, .i6 0] 24]] fr)) y2 v4 h4 y3 v5 h5 S hy4) rfl tc18 rfl rfl ?_; clear F a S
        rintro _ a w ⟨g5, v6, v7, l5, S, h6, h7, rfl⟩ F; replace S : St g5 [[bx b2 #[nilS] 38], c3, [bx b1 #[.i6 0, .i6 0] 24]] fr w := S
        refine dv_nx trivial ?_
        refine dv_et ok1 10 rfl (ev_move rfl) F rfl fun a F=>?_
        refine dv_et ok1 11 rfl (ev_extract rfl rfl) F rfl fun a F=>?_
        refine dv_et ok1 12 rfl (ev_extract rfl rfl) F rfl fun a F=>?_
        refine dv_et ok1 13 rfl (ev_extract rfl rfl) F rfl fun a F=>?_
        refine dv_et ok1 14 rfl (ev_extract rfl rfl) F rfl fun a F=>?_
        refine dv_fork ok1 16 [17] (fk 16 rfl [] ?_ (fk 17 rfl [] ?_ trivial))
        ·refine wl_alloc (wn rfl) rfl tz38 (cs := [nilS]) rfl F S rfl rfl ?_; clear F a S; rintro b3 a w F S
         refine dv_nx trivial ?_
         refine dv_op ok1 17 rfl [] ?_
         refine wl_alloc (wn rfl) rfl tz24 (cs := [.i6 0, .i6 0]) rfl F S rfl rfl ?_; clear F a S; rintro b4 a w F S
         refine dv_nx trivial ?_
         refine dv_join (HJ _ _ ?_)
         exact ⟨v7, v6, b4, b3, b2, g5, F.sub ⟨rfl, rfl, rfl, rfl, rfl, rfl, rfl, rfl, rfl, rfl, rfl, rfl, trivial⟩, l5, S, h7, h6, hm⟩
        ·refine wl_alloc (wn rfl) rfl tz24 (cs := [.i6 0, .i6 0]) rfl F S rfl rfl ?_; clear F a S; rintro b4 a w F S
         refine dv_nx trivial ?_
         refine dv_op ok1 16 rfl [] ?_
         refine wl_alloc (wn rfl) rfl tz38 (cs := [nilS]) rfl F S rfl rfl ?_; clear F a S; rintro b3 a w F S
         refine dv_nx trivial ?_
         refine dv_join (HJ _ _ ?_)
         replace S : St g5 [[bx b4 #[.i6 0, .i6 0] 24], [bx b3 #[nilS] 38], [bx b2 #[nilS] 38], c3, [bx b1 #[.i6 0, .i6 0] 24]] fr w := St.tail [[bx b4 #[.i6 0, .i6 0] 24], [bx b3 #[nilS] 38], [bx b2 #[nilS] 38], c3, [bx b1 #[.i6 0, .i6 0] 24]] _ (((((S.frontC 4 rfl).frontC 4 rfl).frontC 4 rfl).frontC 3 rfl).frontC 5 rfl)
         exact ⟨v7, v6, b4, b3, b2, g5, F.sub ⟨rfl, rfl, rfl, rfl, rfl, rfl, rfl, rfl, rfl, rfl, rfl, rfl, trivial⟩, l5, S, h7, h6, hm⟩
       ·refine wl_alloc (wn rfl) rfl tz38 (cs := [nilS]) rfl F S rfl rfl ?_; clear F a S; rintro b3 a w F S
        refine dv_nx ⟨yl_ev rfl rfl (ev_loadA tu38 rfl (cs := [v5]) ts38 rfl (hq2 _ _ 2 rfl)) F S, yl_ev rfl rfl (ev_loadA tu38 rfl (cs := [v4]) ts38 rfl (hq1 _ _ 2 rfl)) F S, trivial⟩ ?_
        refine dv_fork ok1 9 [17] (fk 9 rfl [] ?_ (fk 17 rfl [(8, .agg #[v5]), (3, .agg #[v4])] ?_ trivial))
        ·refine wl_call0 (wn rfl) rfl F rfl (commute_Commute_ok (fr := (fl [[bx b3 #[nilS] 38], [bx b2 #[nilS] 38], c3, [bx b1 #[.i6 0, .i6 0] 24]] fr)) y2 v4 h4 y3 v5 h5 S hy4) rfl tc18 rfl rfl ?_; clear F a S
         rintro _ a w ⟨g5, v6, v7, l5, S, h6, h7, rfl⟩ F; replace S : St g5 [[bx b3 #[nilS] 38], [bx b2 #[nilS] 38], c3, [bx b1 #[.i6 0, .i6 0] 24]] fr w := S
         refine dv_nx trivial ?_
         refine dv_et ok1 10 rfl (ev_move rfl) F rfl fun a F=>?_
         refine dv_et ok1 11 rfl (ev_extract rfl rfl) F rfl fun a F=>?_
         refine dv_et ok1 12 rfl (ev_extract rfl rfl) F rfl fun a F=>?_
         refine dv_et ok1 13 rfl (ev_extract rfl rfl) F rfl fun a F=>?_
         refine dv_et ok1 14 rfl (ev_extract rfl rfl) F rfl fun a F=>?_
         refine dv_op ok1 17 rfl [] ?_
         refine wl_alloc (wn rfl) rfl tz24 (cs := [.i6 0, .i6 0]) rfl F S rfl rfl ?_; clear F a S; rintro b4 a w F S
         refine dv_nx trivial ?_
         refine dv_join (HJ _ _ ?_)
         exact ⟨v7, v6, b4, b3, b2, g5, F.sub ⟨rfl, rfl, rfl, rfl, rfl, rfl, rfl, rfl, rfl, rfl, rfl, rfl, trivial⟩, l5, S, h7, h6, hm⟩
        ·refine wl_alloc (wn rfl) rfl tz24 (cs := [.i6 0, .i6 0]) rfl F S rfl rfl ?_; clear F a S; rintro b4 a w F S
         refine dv_nx ⟨yl_ev rfl rfl (ev_loadA tu38 rfl (cs := [v5]) ts38 rfl (hq2 _ _ 3 rfl)) F S, yl_ev rfl rfl (ev_loadA tu38 rfl (cs := [v4]) ts38 rfl (hq1 _ _ 3 rfl)) F S, trivial⟩ ?_
         refine dv_op ok1 9 rfl [] ?_
         refine wl_call0 (wn rfl) rfl F rfl (commute_Commute_ok (fr := (fl [[bx b4 #[.i6 0, .i6 0] 24], [bx b3 #[nilS] 38], [bx b2 #[nilS] 38], c3, [bx b1 #[.i6 0, .i6 0] 24]] fr)) y2 v4 h4 y3 v5 h5 S hy4) rfl tc18 rfl rfl ?_; clear F a S
         rintro _ a w ⟨g5, v6, v7, l5, S, h6, h7, rfl⟩ F; replace S : St g5 [[bx b4 #[.i6 0, .i6 0] 24], [bx b3 #[nilS] 38], [bx b2 #[nilS] 38], c3, [bx b1 #[.i6 0, .i6 0] 24]] fr w := S
         refine dv_nx trivial ?_
         refine dv_et ok1 10 rfl (ev_move rfl) F rfl fun a F=>?_
         refine dv_et ok1 11 rfl (ev_extract rfl rfl) F rfl fun a F=>?_
         refine dv_et ok1 12 rfl (ev_extract rfl rfl) F rfl fun a F=>?_
         refine dv_et ok1 13 rfl (ev_extract rfl rfl) F rfl fun a F=>?_
         refine dv_et ok1 14 rfl (ev_extract rfl rfl) F rfl fun a F=>?_
         refine dv_join (HJ _ _ ?_)
         exact ⟨v7, v6, b4, b3, b2, g5, F.sub ⟨rfl, rfl, rfl, rfl, rfl, rfl, rfl, rfl, rfl, rfl, rfl, rfl, trivial⟩, l5, S, h7, h6, hm⟩
       ·refine wl_alloc (wn rfl) rfl tz24 (cs := [.i6 0, .i6 0]) rfl F S rfl rfl ?_; clear F a S; rintro b4 a w F S
        refine dv_nx ⟨yl_ev rfl rfl (ev_loadA tu38 rfl (cs := [v5]) ts38 rfl (hq2 _ _ 2 rfl)) F S, yl_ev rfl rfl (ev_loadA tu38 rfl (cs := [v4]) ts38 rfl (hq1 _ _ 2 rfl)) F S, trivial⟩ ?_
        refine dv_fork ok1 9 [16] (fk 9 rfl [] ?_ (fk 16 rfl [(8, .agg #[v5]), (3, .agg #[v4])] ?_ trivial))
        ·refine wl_call0 (wn rfl) rfl F rfl (commute_Commute_ok (fr := (fl [[bx b4 #[.i6 0, .i6 0] 24], [bx b2 #[nilS] 38], c3, [bx b1 #[.i6 0, .i6 0] 24]] fr)) y2 v4 h4 y3 v5 h5 S hy4) rfl tc18 rfl rfl ?_; clear F a S
         rintro _ a w ⟨g5, v6, v7, l5, S, h6, h7, rfl⟩ F; replace S : St g5 [[bx b4 #[.i6 0, .i6 0] 24], [bx b2 #[nilS] 38], c3, [bx b1 #[.i6 0, .i6 0] 24]] fr w := S
         refine dv_nx trivial ?_
         refine dv_et ok1 10 rfl (ev_move rfl) F rfl fun a F=>?_
         refine dv_et ok1 11 rfl (ev_extract rfl rfl) F rfl fun a F=>?_
         refine dv_et ok1 12 rfl (ev_extract rfl rfl) F rfl fun a F=>?_
         refine dv_et ok1 13 rfl (ev_extract rfl rfl) F rfl fun a F=>?_
         refine dv_et ok1 14 rfl (ev_extract rfl rfl) F rfl fun a F=>?_
         refine dv_op ok1 16 rfl [] ?_
         refine wl_alloc (wn rfl) rfl tz38 (cs := [nilS]) rfl F S rfl rfl ?_; clear F a S; rintro b3 a w F S
         refine dv_nx trivial ?_
         refine dv_join (HJ _ _ ?_)
         replace S : St g5 [[bx b4 #[.i6 0, .i6 0] 24], [bx b3 #[nilS] 38], [bx b2 #[nilS] 38], c3, [bx b1 #[.i6 0, .i6 0] 24]] fr w := St.tail [[bx b4 #[.i6 0, .i6 0] 24], [bx b3 #[nilS] 38], [bx b2 #[nilS] 38], c3, [bx b1 #[.i6 0, .i6 0] 24]] _ (((((S.frontC 4 rfl).frontC 4 rfl).frontC 4 rfl).frontC 3 rfl).frontC 5 rfl)
         exact ⟨v7, v6, b4, b3, b2, g5, F.sub ⟨rfl, rfl, rfl, rfl, rfl, rfl, rfl, rfl, rfl, rfl, rfl, rfl, trivial⟩, l5, S, h7, h6, hm⟩
        ·refine wl_alloc (wn rfl) rfl tz38 (cs := [nilS]) rfl F S rfl rfl ?_; clear F a S; rintro b3 a w F S
         refine dv_nx ⟨yl_ev rfl rfl (ev_loadA tu38 rfl (cs := [v5]) ts38 rfl (hq2 _ _ 3 rfl)) F S, yl_ev rfl rfl (ev_loadA tu38 rfl (cs := [v4]) ts38 rfl (hq1 _ _ 3 rfl)) F S, trivial⟩ ?_
         refine dv_op ok1 9 rfl [] ?_
         refine wl_call0 (wn rfl) rfl F rfl (commute_Commute_ok (fr := (fl [[bx b3 #[nilS] 38], [bx b4 #[.i6 0, .i6 0] 24], [bx b2 #[nilS] 38], c3, [bx b1 #[.i6 0, .i6 0] 24]] fr)) y2 v4 h4 y3 v5 h5 S hy4) rfl tc18 rfl rfl ?_; clear F a S
         rintro _ a w ⟨g5, v6, v7, l5, S, h6, h7, rfl⟩ F; replace S : St g5 [[bx b3 #[nilS] 38], [bx b4 #[.i6 0, .i6 0] 24], [bx b2 #[nilS] 38], c3, [bx b1 #[.i6 0, .i6 0] 24]] fr w := S
         refine dv_nx trivial ?_
         refine dv_et ok1 10 rfl (ev_move rfl) F rfl fun a F=>?_
         refine dv_et ok1 11 rfl (ev_extract rfl rfl) F rfl fun a F=>?_
         refine dv_et ok1 12 rfl (ev_extract rfl rfl) F rfl fun a F=>?_
         refine dv_et ok1 13 rfl (ev_extract rfl rfl) F rfl fun a F=>?_
         refine dv_et ok1 14 rfl (ev_extract rfl rfl) F rfl fun a F=>?_
         refine dv_join (HJ _ _ ?_)
         replace S : St g5 [[bx b4 #[.i6 0, .i6 0] 24], [bx b3 #[nilS] 38], [bx b2 #[nilS] 38], c3, [bx b1 #[.i6 0, .i6 0] 24]] fr w := St.tail [[bx b4 #[.i6 0, .i6 0] 24], [bx b3 #[nilS] 38], [bx b2 #[nilS] 38], c3, [bx b1 #[.i6 0, .i6 0] 24]] _ (((((S.frontC 4 rfl).frontC 4 rfl).frontC 4 rfl).frontC 3 rfl).frontC 5 rfl)
         exact ⟨v7, v6, b4, b3, b2, g5, F.sub ⟨rfl, rfl, rfl, rfl, rfl, rfl, rfl, rfl, rfl, rfl, rfl, rfl, trivial⟩, l5, S, h7, h6, hm⟩
      ·refine wl_alloc (wn rfl) rfl tz38 (cs := [nilS]) rfl F S rfl rfl ?_; clear F a S; rintro b3 a w F S
       refine dv_nx ⟨yl_ev rfl rfl (ev_loadA tu38 rfl (cs := [v5]) ts38 rfl (hq2 _ _ 1 rfl)) F S, yl_ev rfl rfl (ev_loadA tu38 rfl (cs := [v4]) ts38 rfl (hq1 _ _ 1 rfl)) F S, trivial⟩ ?_
       refine dv_fork ok1 9 [15, 17] (fk 9 rfl [] ?_ (fk 15 rfl [(8, .agg #[v5]), (3, .agg #[v4])] ?_ (fk 17 rfl [(8, .agg #[v5]), (3, .agg #[v4])] ?_ trivial)))
       ·refine wl_call0 (wn rfl) rfl F rfl (commute_Commute_ok (fr := (fl [[bx b3 #[nilS] 38], c3, [bx b1 #[.i6 0, .i6 0] 24]] fr)) y2 v4 h4 y3 v5 h5 S hy4) rfl tc18 rfl rfl ?_; clear F a S
        rintro _ a w ⟨g5, v6, v7, l5, S, h6, h7, rfl⟩ F; replace S : St g5 [[bx b3 #[nilS] 38], c3, [bx b1 #[.i6 0, .i6 0] 24]] fr w := S
        refine dv_nx trivial ?_
        refine dv_et ok1 10 rfl (ev_move rfl) F rfl fun a F=>?_
        refine dv_et ok1 11 rfl (ev_extract rfl rfl) F rfl fun a F=>?_
        refine dv_et ok1 12 rfl (ev_extract rfl rfl) F rfl fun a F=>?_
        refine dv_et ok1 13 rfl (ev_extract rfl rfl) F rfl fun a F=>?_
        refine dv_et ok1 14 rfl (ev_extract rfl rfl) F rfl fun a F=>?_
        refine dv_fork ok1 15 [17] (fk 15 rfl [] ?_ (fk 17 rfl [] ?_ trivial))
        ·refine wl_alloc (wn rfl) rfl tz38 (cs := [nilS]) rfl F S rfl rfl ?_; clear F a S; rintro b2 a w F S
         refine dv_nx trivial ?_
         refine dv_op ok1 17 rfl [] ?_
         refine wl_alloc (wn rfl) rfl tz24 (cs := [.i6 0, .i6 0]) rfl F S rfl rfl ?_; clear F a S; rintro b4 a w F S
         refine dv_nx trivial ?_
         refine dv_join (HJ _ _ ?_)
         replace S : St g5 [[bx b4 #[.i6 0, .i6 0] 24], [bx b3 #[nilS] 38], [bx b2 #[nilS] 38], c3, [bx b1 #[.i6 0, .i6 0] 24]] fr w := St.tail [[bx b4 #[.i6 0, .i6 0] 24], [bx b3 #[nilS] 38], [bx b2 #[nilS] 38], c3, [bx b1 #[.i6 0, .i6 0] 24]] _ (((((S.frontC 4 rfl).frontC 4 rfl).frontC 3 rfl).frontC 5 rfl).frontC 4 rfl)
         exact ⟨v7, v6, b4, b3, b2, g5, F.sub ⟨rfl, rfl, rfl, rfl, rfl, rfl, rfl, rfl, rfl, rfl, rfl, rfl, trivial⟩, l5, S, h7, h6, hm⟩
        ·refine wl_alloc (wn rfl) rfl tz24 (cs := [.i6 0, .i6 0]) rfl F S rfl rfl ?_; clear F a S; rintro b4 a w F S
         refine dv_nx trivial ?_
         refine dv_op ok1 15 rfl [] ?_
         refine wl_alloc (wn rfl) rfl tz38 (cs := [nilS]) rfl F S rfl rfl ?_; clear F a S; rintro b2 a w F S
         refine dv_nx trivial ?_
         refine dv_join (HJ _ _ ?_)
         replace S : St g5 [[bx b4 #[.i6 0, .i6 0] 24], [bx b3 #[nilS] 38], [bx b2 #[nilS] 38], c3, [bx b1 #[.i6 0, .i6 0] 24]] fr w := St.tail [[bx b4 #[.i6 0, .i6 0] 24], [bx b3 #[nilS] 38], [bx b2 #[nilS] 38], c3, [bx b1 #[.i6 0, .i6 0] 24]] _ (((((S.frontC 4 rfl).frontC 4 rfl).frontC 2 rfl).frontC 5 rfl).frontC 5 rfl)
         exact ⟨v7, v6, b4, b3, b2, g5, F.sub ⟨rfl, rfl, rfl, rfl, rfl, rfl, rfl, rfl, rfl, rfl, rfl, rfl, trivial⟩, l5, S, h7, h6, hm⟩
       ·refine wl_alloc (wn rfl) rfl tz38 (cs := [nilS]) rfl F S rfl rfl ?_; clear F a S; rintro b2 a w F S
        refine dv_nx ⟨yl_ev rfl rfl (ev_loadA tu38 rfl (cs := [v5]) ts38 rfl (hq2 _ _ 2 rfl)) F S, yl_ev rfl rfl (ev_loadA tu38 rfl (cs := [v4]) ts38 rfl (hq1 _ _ 2 rfl)) F S, trivial⟩ ?_
        refine dv_fork ok1 9 [17] (fk 9 rfl [] ?_ (fk 17 rfl [(8, .agg #[v5]), (3, .agg #[v4])] ?_ trivial))
        ·refine wl_call0 (wn rfl) rfl F rfl (commute_Commute_ok (fr := (fl [[bx b2 #[nilS] 38], [bx b3 #[nilS] 38], c3, [bx b1 #[.i6 0, .i6 0] 24]] fr)) y2 v4 h4 y3 v5 h5 S hy4) rfl tc18 rfl rfl ?_; clear F a S
         rintro _ a w ⟨g5, v6, v7, l5, S, h6, h7, rfl⟩ F; replace S : St g5 [[bx b2 #[nilS] 38], [bx b3 #[nilS] 38], c3, [bx b1 #[.i6 0, .i6 0] 24]] fr w := S
         refine dv_nx trivial ?_
         refine dv_et ok1 10 rfl (ev_move rfl) F rfl fun a F=>?_
         refine dv_et ok1 11 rfl (ev_extract rfl rfl) F rfl fun a F=>?_
         refine dv_et ok1 12 rfl (ev_extract rfl rfl) F rfl fun a F=>?_
         refine dv_et ok1 13 rfl (ev_extract rfl rfl) F rfl fun a F=>?_
         refine dv_et ok1 14 rfl (ev_extract rfl rfl) F rfl fun a F=>?_
         refine dv_op ok1 17 rfl [] ?_
         refine wl_alloc (wn rfl) rfl tz24 (cs := [.i6 0, .i6 0]) rfl F S rfl rfl ?_; clear F a S; rintro b4 a w F S
         refine dv_nx trivial ?_
         refine dv_join (HJ _ _ ?_)
         replace S : St g5 [[bx b4 #[.i6 0, .i6 0] 24], [bx b3 #[nilS] 38], [bx b2 #[nilS] 38], c3, [bx b1 #[.i6 0, .i6 0] 24]] fr w := St.tail [[bx b4 #[.i6 0, .i6 0] 24], [bx b3 #[nilS] 38], [bx b2 #[nilS] 38], c3, [bx b1 #[.i6 0, .i6 0] 24]] _ (((((S.frontC 4 rfl).frontC 4 rfl).frontC 3 rfl).frontC 5 rfl).frontC 4 rfl)
         exact ⟨v7, v6, b4, b3, b2, g5, F.sub ⟨rfl, rfl, rfl, rfl, rfl, rfl, rfl, rfl, rfl, rfl, rfl, rfl, trivial⟩, l5, S, h7, h6, hm⟩
        ·refine wl_alloc (wn rfl) rfl tz24 (cs := [.i6 0, .i6 0]) rfl F S rfl rfl ?_; clear F a S; rintro b4 a w F S
         refine dv_nx ⟨yl_ev rfl rfl (ev_loadA tu38 rfl (cs := [v5]) ts38 rfl (hq2 _ _ 3 rfl)) F S, yl_ev rfl rfl (ev_loadA tu38 rfl (cs := [v4]) ts38 rfl (hq1 _ _ 3 rfl)) F S, trivial⟩ ?_
         refine dv_op ok1 9 rfl [] ?_
         refine wl_call0 (wn rfl) rfl F rfl (commute_Commute_ok (fr := (fl [[bx b4 #[.i6 0, .i6 0] 24], [bx b2 #[nilS] 38], [bx b3 #[nilS] 38], c3, [bx b1 #[.i6 0, .i6 0] 24]] fr)) y2 v4 h4 y3 v5 h5 S hy4) rfl tc18 rfl rfl ?_; clear F a S
         rintro _ a w ⟨g5, v6, v7, l5, S, h6, h7, rfl⟩ F; replace S : St g5 [[bx b4 #[.i6 0, .i6 0] 24], [bx b2 #[nilS] 38], [bx b3 #[nilS] 38], c3, [bx b1 #[.i6 0, .i6 0] 24]] fr w := S
         refine dv_nx trivial ?_
         refine dv_et ok1 10 rfl (ev_move rfl) F rfl fun a F=>?_
         refine dv_et ok1 11 rfl (ev_extract rfl rfl) F rfl fun a F=>?_
         refine dv_et ok1 12 rfl (ev_extract rfl rfl) F rfl fun a F=>?_
         refine dv_et ok1 13 rfl (ev_extract rfl rfl) F rfl fun a F=>?_
         refine dv_et ok1 14 rfl (ev_extract rfl rfl) F rfl fun a F=>?_
         refine dv_join (HJ _ _ ?_)
         replace S : St g5 [[bx b4 #[.i6 0, .i6 0] 24], [bx b3 #[nilS] 38], [bx b2 #[nilS] 38], c3, [bx b1 #[.i6 0, .i6 0] 24]] fr w := St.tail [[bx b4 #[.i6 0, .i6 0] 24], [bx b3 #[nilS] 38], [bx b2 #[nilS] 38], c3, [bx b1 #[.i6 0, .i6 0] 24]] _ (((((S.frontC 4 rfl).frontC 4 rfl).frontC 3 rfl).frontC 5 rfl).frontC 4 rfl)
         exact ⟨v7, v6, b4, b3, b2, g5, F.sub ⟨rfl, rfl, rfl, rfl, rfl, rfl, rfl, rfl, rfl, rfl, rfl, rfl, trivial⟩, l5, S, h7, h6, hm⟩
       ·refine wl_alloc (wn rfl) rfl tz24 (cs := [.i6 0, .i6 0]) rfl F S rfl rfl ?_; clear F a S; rintro b4 a w F S
        refine dv_nx ⟨yl_ev rfl rfl (ev_loadA tu38 rfl (cs := [v5]) ts38 rfl (hq2 _ _ 2 rfl)) F S, yl_ev rfl rfl (ev_loadA tu38 rfl (cs := [v4]) ts38 rfl (hq1 _ _ 2 rfl)) F S, trivial⟩ ?_
        refine dv_fork ok1 9 [15] (fk 9 rfl [] ?_ (fk 15 rfl [(8, .agg #[v5]), (3, .agg #[v4])] ?_ trivial))
        ·refine wl_call0 (wn rfl) rfl F rfl (commute_Commute_ok (fr := (fl [[bx b4 #[.i6 0, .i6 0] 24], [bx b3 #[nilS] 38], c3, [bx b1 #[.i6 0, .i6 0] 24]] fr)) y2 v4 h4 y3 v5 h5 S hy4) rfl tc18 rfl rfl ?_; clear F a S
         rintro _ a w ⟨g5, v6, v7, l5, S, h6, h7, rfl⟩ F; replace S : St g5 [[bx b4 #[.i6 0, .i6 0] 24], [bx b3 #[nilS] 38], c3, [bx b1 #[.i6 0, .i6 0] 24]] fr w := S
         refine dv_nx trivial ?_
         refine dv_et ok1 10 rfl (ev_move rfl) F rfl fun a F=>?_
         refine dv_et ok1 11 rfl (ev_extract rfl rfl) F rfl fun a F=>?_
         refine dv_et ok1 12 rfl (ev_extract rfl rfl) F rfl fun a F=>?_
         refine dv_et ok1 13 rfl (ev_extract rfl rfl) F rfl fun a F=>?_
         refine dv_et ok1 14 rfl (ev_extract rfl rfl) F rfl fun a F=>?_
         refine dv_op ok1 15 rfl [] ?_
         refine wl_alloc (wn rfl) rfl tz38 (cs := [nilS]) rfl F S rfl rfl ?_; clear F a S; rintro b2 a w F S
         refine dv_nx trivial ?_
         refine dv_join (HJ _ _ ?_)
         replace S : St g5 [[bx b4 #[.i6 0, .i6 0] 24], [bx b3 #[nilS] 38], [bx b2 #[nilS] 38], c3, [bx b1 #[.i6 0, .i6 0] 24]] fr w := St.tail [[bx b4 #[.i6 0, .i6 0] 24], [bx b3 #[nilS] 38], [bx b2 #[nilS] 38], c3, [bx b1 #[.i6 0, .i6 0] 24]] _ (((((S.frontC 4 rfl).frontC 4 rfl).frontC 2 rfl).frontC 5 rfl).frontC 5 rfl)
         exact ⟨v7, v6, b4, b3, b2, g5, F.sub ⟨rfl, rfl, rfl, rfl, rfl, rfl, rfl, rfl, rfl, rfl, rfl, rfl, trivial⟩, l5, S, h7, h6, hm⟩
        ·refine wl_alloc (wn rfl) rfl tz38 (cs := [nilS]) rfl F S rfl rfl ?_; clear F a S; rintro b2 a w F S
         refine dv_nx ⟨yl_ev rfl rfl (ev_loadA tu38 rfl (cs := [v5]) ts38 rfl (hq2 _ _ 3 rfl)) F S, yl_ev rfl rfl (ev_loadA tu38 rfl (cs := [v4]) ts38 rfl (hq1 _ _ 3 rfl)) F S, trivial⟩ ?_
         refine dv_op ok1 9 rfl [] ?_
         refine wl_call0 (wn rfl) rfl F rfl (commute_Commute_ok (fr := (fl [[bx b2 #[nilS] 38], [bx b4 #[.i6 0, .i6 0] 24], [bx b3 #[nilS] 38], c3, [bx b1 #[.i6 0, .i6 0] 24]] fr)) y2 v4 h4 y3 v5 h5 S hy4) rfl tc18 rfl rfl ?_; clear F a S
         rintro _ a w ⟨g5, v6, v7, l5, S, h6, h7, rfl⟩ F; replace S : St g5 [[bx b2 #[nilS] 38], [bx b4 #[.i6 0, .i6 0] 24], [bx b3 #[nilS] 38], c3, [bx b1 #[.i6 0, .i6 0] 24]] fr w := S
         refine dv_nx trivial ?_
         refine dv_et ok1 10 rfl (ev_move rfl) F rfl fun a F=>?_
         refine dv_et ok1 11 rfl (ev_extract rfl rfl) F rfl fun a F=>?_
         refine dv_et ok1 12 rfl (ev_extract rfl rfl) F rfl fun a F=>?_
         refine dv_et ok1 13 rfl (ev_extract rfl rfl) F rfl fun a F=>?_
         refine dv_et ok1 14 rfl (ev_extract rfl rfl) F rfl fun a F=>?_
         refine dv_join (HJ _ _ ?_)
         replace S : St g5 [[bx b4 #[.i6 0, .i6 0] 24], [bx b3 #[nilS] 38], [bx b2 #[nilS] 38], c3, [bx b1 #[.i6 0, .i6 0] 24]] fr w := St.tail [[bx b4 #[.i6 0, .i6 0] 24], [bx b3 #[nilS] 38], [bx b2 #[nilS] 38], c3, [bx b1 #[.i6 0, .i6 0] 24]] _ (((((S.frontC 4 rfl).frontC 4 rfl).frontC 2 rfl).frontC 5 rfl).frontC 5 rfl)
         exact ⟨v7, v6, b4, b3, b2, g5, F.sub ⟨rfl, rfl, rfl, rfl, rfl, rfl, rfl, rfl, rfl, rfl, rfl, rfl, trivial⟩, l5, S, h7, h6, hm⟩
      ·refine wl_alloc (wn rfl) rfl tz24 (cs := [.i6 0, .i6 0]) rfl F S rfl rfl ?_; clear F a S; rintro b4 a w F S
       refine dv_nx ⟨yl_ev rfl rfl (ev_loadA tu38 rfl (cs := [v5]) ts38 rfl (hq2 _ _ 1 rfl)) F S, yl_ev rfl rfl (ev_loadA tu38 rfl (cs := [v4]) ts38 rfl (hq1 _ _ 1 rfl)) F S, trivial⟩ ?_
       refine dv_fork ok1 9 [15, 16] (fk 9 rfl [] ?_ (fk 15 rfl [(8, .agg #[v5]), (3, .agg #[v4])] ?_ (fk 16 rfl [(8, .agg #[v5]), (3, .agg #[v4])] ?_ trivial)))
       ·refine wl_call0 (wn rfl) rfl F rfl (commute_Commute_ok (fr := (fl [[bx b4 #[.i6 0, .i6 0] 24], c3, [bx b1 #[.i6 0, .i6 0] 24]] fr)) y2 v4 h4 y3 v5 h5 S hy4) rfl tc18 rfl rfl ?_; clear F a S
        rintro _ a w ⟨g5, v6, v7, l5, S, h6, h7, rfl⟩ F; replace S : St g5 [[bx b4 #[.i6 0, .i6 0] 24], c3, [bx b1 #[.i6 0, .i6 0] 24]] fr w := S
        refine dv_nx trivial ?_
        refine dv_et ok1 10 rfl (ev_move rfl) F rfl fun a F=>?_
        refine dv_et ok1 11 rfl (ev_extract rfl rfl) F rfl fun a F=>?_
        refine dv_et ok1 12 rfl (ev_extract rfl rfl) F rfl fun a F=>?_
        refine dv_et ok1 13 rfl (ev_extract rfl rfl) F rfl fun a F=>?_
        refine dv_et ok1 14 rfl (ev_extract rfl rfl) F rfl fun a F=>?_
        refine dv_fork ok1 15 [16] (fk 15 rfl [] ?_ (fk 16 rfl [] ?_ trivial))
        ·refine wl_alloc (wn rfl) rfl tz38 (cs := [nilS]) rfl F S rfl rfl ?_; clear F a S; rintro b2 a w F S
         refine dv_nx trivial ?_
         refine dv_op ok1 16 rfl [] ?_
         refine wl_alloc (wn rfl) rfl tz38 (cs := [nilS]) rfl F S rfl rfl ?_; clear F a S; rintro b3 a w F S
         refine dv_nx trivial ?_
         refine dv_join (HJ _ _ ?_)
         replace S : St g5 [[bx b4 #[.i6 0, .i6 0] 24], [bx b3 #[nilS] 38], [bx b2 #[nilS] 38], c3, [bx b1 #[.i6 0, .i6 0] 24]] fr w := St.tail [[bx b4 #[.i6 0, .i6 0] 24], [bx b3 #[nilS] 38], [bx b2 #[nilS] 38], c3, [bx b1 #[.i6 0, .i6 0] 24]] _ (((((S.frontC 4 rfl).frontC 4 rfl).frontC 3 rfl).frontC 3 rfl).frontC 6 rfl)
         exact ⟨v7, v6, b4, b3, b2, g5, F.sub ⟨rfl, rfl, rfl, rfl, rfl, rfl, rfl, rfl, rfl, rfl, rfl, rfl, trivial⟩, l5, S, h7, h6, hm⟩
        ·refine wl_alloc (wn rfl) rfl tz38 (cs := [nilS]) rfl F S rfl rfl ?_; clear F a S; rintro b3 a w F S
         refine dv_nx trivial ?_
         refine dv_op ok1 15 rfl [] ?_
         refine wl_alloc (wn rfl) rfl tz38 (cs := [nilS]) rfl F S rfl rfl ?_; clear F a S; rintro b2 a w F S
         refine dv_nx trivial ?_
         refine dv_join (HJ _ _ ?_)
         replace S : St g5 [[bx b4 #[.i6 0, .i6 0] 24], [bx b3 #[nilS] 38], [bx b2 #[nilS] 38], c3, [bx b1 #[.i6 0, .i6 0] 24]] fr w := St.tail [[bx b4 #[.i6 0, .i6 0] 24], [bx b3 #[nilS] 38], [bx b2 #[nilS] 38], c3, [bx b1 #[.i6 0, .i6 0] 24]] _ (((((S.frontC 4 rfl).frontC 4 rfl).frontC 2 rfl).frontC 4 rfl).frontC 6 rfl)
         exact ⟨v7, v6, b4, b3, b2, g5, F.sub ⟨rfl, rfl, rfl, rfl, rfl, rfl, rfl, rfl, rfl, rfl, rfl, rfl, trivial⟩, l5, S, h7, h6, hm⟩
       ·refine wl_alloc (wn rfl) rfl tz38 (cs := [nilS]) rfl F S rfl rfl ?_; clear F a S; rintro b2 a w F S
        refine dv_nx ⟨yl_ev rfl rfl (ev_loadA tu38 rfl (cs := [v5]) ts38 rfl (hq2 _ _ 2 rfl)) F S, yl_ev rfl rfl (ev_loadA tu38 rfl (cs := [v4]) ts38 rfl (hq1 _ _ 2 rfl)) F S, trivial⟩ ?_
        refine dv_fork ok1 9 [16] (fk 9 rfl [] ?_ (fk 16 rfl [(8, .agg #[v5]), (3, .agg #[v4])] ?_ trivial))
        ·refine wl_call0 (wn rfl) rfl F rfl (commute_Commute_ok (fr := (fl [[bx b2 #[nilS] 38], [bx b4 #[.i6 0, .i6 0] 24], c3, [bx b1 #[.i6 0, .i6 0] 24]] fr)) y2 v4 h4 y3 v5 h5 S hy4) rfl tc18 rfl rfl ?_; clear F a S
         rintro _ a w ⟨g5, v6, v7, l5, S, h6, h7, rfl⟩ F; replace S : St g5 [[bx b2 #[nilS] 38], [bx b4 #[.i6 0, .i6 0] 24], c3, [bx b1 #[.i6 0, .i6 0] 24]] fr w := S
         refine dv_nx trivial ?_
         refine dv_et ok1 10 rfl (ev_move rfl) F rfl fun a F=>?_
         refine dv_et ok1 11 rfl (ev_extract rfl rfl) F rfl fun a F=>?_
         refine dv_et ok1 12 rfl (ev_extract rfl rfl) F rfl fun a F=>?_
         refine dv_et ok1 13 rfl (ev_extract rfl rfl) F rfl fun a F=>?_
         refine dv_et ok1 14 rfl (ev_extract rfl rfl) F rfl fun a F=>?_
         refine dv_op ok1 16 rfl [] ?_
         refine wl_alloc (wn rfl) rfl tz38 (cs := [nilS]) rfl F S rfl rfl ?_; clear F a S; rintro b3 a w F S
         refine dv_nx trivial ?_
         refine dv_join (HJ _ _ ?_)
         replace S : St g5 [[bx b4 #[.i6 0, .i6 0] 24], [bx b3 #[nilS] 38], [bx b2 #[nilS] 38], c3, [bx b1 #[.i6 0, .i6 0] 24]] fr w := St.tail [[bx b4 #[.i6 0, .i6 0] 24], [bx b3 #[nilS] 38], [bx b2 #[nilS] 38], c3, [bx b1 #[.i6 0, .i6 0] 24]] _ (((((S.frontC 4 rfl).frontC 4 rfl).frontC 3 rfl).frontC 3 rfl).frontC 6 rfl)
         exact ⟨v7, v6, b4, b3, b2, g5, F.sub ⟨rfl, rfl, rfl, rfl, rfl, rfl, rfl, rfl, rfl, rfl, rfl, rfl, trivial⟩, l5, S, h7, h6, hm⟩
        ·refine wl_alloc (wn rfl) rfl tz38 (cs := [nilS]) rfl F S rfl rfl ?_; clear F a S; rintro b3 a w F S
         refine dv_nx ⟨yl_ev rfl rfl (ev_loadA tu38 rfl (cs := [v5]) ts38 rfl (hq2 _ _ 3 rfl)) F S, yl_ev rfl rfl (ev_loadA tu38 rfl (cs := [v4]) ts38 rfl (hq1 _ _ 3 rfl)) F S, trivial⟩ ?_
         refine dv_op ok1 9 rfl [] ?_
         refine wl_call0 (wn rfl) rfl F rfl (commute_Commute_ok (fr := (fl [[bx b3 #[nilS] 38], [bx b2 #[nilS] 38], [bx b4 #[.i6 0, .i6 0] 24], c3, [bx b1 #[.i6 0, .i6 0] 24]] fr)) y2 v4 h4 y3 v5 h5 S hy4) rfl tc18 rfl rfl ?_; clear F a S
         rintro _ a w ⟨g5, v6, v7, l5, S, h6, h7, rfl⟩ F; replace S : St g5 [[bx b3 #[nilS] 38], [bx b2 #[nilS] 38], [bx b4 #[.i6 0, .i6 0] 24], c3, [bx b1 #[.i6 0, .i6 0] 24]] fr w := S
         refine dv_nx trivial ?_
         refine dv_et ok1 10 rfl (ev_move rfl) F rfl fun a F=>?_
         refine dv_et ok1 11 rfl (ev_extract rfl rfl) F rfl fun a F=>?_
         refine dv_et ok1 12 rfl (ev_extract rfl rfl) F rfl fun a F=>?_
         refine dv_et ok1 13 rfl (ev_extract rfl rfl) F rfl fun a F=>?_
         refine dv_et ok1 14 rfl (ev_extract rfl rfl) F rfl fun a F=>?_
         refine dv_join (HJ _ _ ?_)
         replace S : St g5 [[bx b4 #[.i6 0, .i6 0] 24], [bx b3 #[nilS] 38], [bx b2 #[nilS] 38], c3, [bx b1 #[.i6 0, .i6 0] 24]] fr w := St.tail [[bx b4 #[.i6 0, .i6 0] 24], [bx b3 #[nilS] 38], [bx b2 #[nilS] 38], c3, [bx b1 #[.i6 0, .i6 0] 24]] _ (((((S.frontC 4 rfl).frontC 4 rfl).frontC 3 rfl).frontC 3 rfl).frontC 6 rfl)
         exact ⟨v7, v6, b4, b3, b2, g5, F.sub ⟨rfl, rfl, rfl, rfl, rfl, rfl, rfl, rfl, rfl, rfl, rfl, rfl, trivial⟩, l5, S, h7, h6, hm⟩
       ·refine wl_alloc (wn rfl) rfl tz38 (cs := [nilS]) rfl F S rfl rfl ?_; clear F a S; rintro b3 a w F S
        refine dv_nx ⟨yl_ev rfl rfl (ev_loadA tu38 rfl (cs := [v5]) ts38 rfl (hq2 _ _ 2 rfl)) F S, yl_ev rfl rfl (ev_loadA tu38 rfl (cs := [v4]) ts38 rfl (hq1 _ _ 2 rfl)) F S, trivial⟩ ?_
        refine dv_fork ok1 9 [15] (fk 9 rfl [] ?_ (fk 15 rfl [(8, .agg #[v5]), (3, .agg #[v4])] ?_ trivial))
        ·refine wl_call0 (wn rfl) rfl F rfl (commute_Commute_ok (fr := (fl [[bx b3 #[nilS] 38], [bx b4 #[.i6 0, .i6 0] 24], c3, [bx b1 #[.i6 0, .i6 0] 24]] fr)) y2 v4 h4 y3 v5 h5 S hy4) rfl tc18 rfl rfl ?_; clear F a S
         rintro _ a w ⟨g5, v6, v7, l5, S, h6, h7, rfl⟩ F; replace S : St g5 [[bx b3 #[nilS] 38], [bx b4 #[.i6 0, .i6 0] 24], c3, [bx b1 #[.i6 0, .i6 0] 24]] fr w := S
         refine dv_nx trivial ?_
         refine dv_et ok1 10 rfl (ev_move rfl) F rfl fun a F=>?_
         refine dv_et ok1 11 rfl (ev_extract rfl rfl) F rfl fun a F=>?_
         refine dv_et ok1 12 rfl (ev_extract rfl rfl) F rfl fun a F=>?_
         refine dv_et ok1 13 rfl (ev_extract rfl rfl) F rfl fun a F=>?_
         refine dv_et ok1 14 rfl (ev_extract rfl rfl) F rfl fun a F=>?_
         refine dv_op ok1 15 rfl [] ?_
         refine wl_alloc (wn rfl) rfl tz38 (cs := [nilS]) rfl F S rfl rfl ?_; clear F a S; rintro b2 a w F S
         refine dv_nx trivial ?_
         refine dv_join (HJ _ _ ?_)
         replace S : St g5 [[bx b4 #[.i6 0, .i6 0] 24], [bx b3 #[nilS] 38], [bx b2 #[nilS] 38], c3, [bx b1 #[.i6 0, .i6 0] 24]] fr w := St.tail [[bx b4 #[.i6 0, .i6 0] 24], [bx b3 #[nilS] 38], [bx b2 #[nilS] 38], c3, [bx b1 #[.i6 0, .i6 0] 24]] _ (((((S.frontC 4 rfl).frontC 4 rfl).frontC 2 rfl).frontC 4 rfl).frontC 6 rfl)
         exact ⟨v7, v6, b4, b3, b2, g5, F.sub ⟨rfl, rfl, rfl, rfl, rfl, rfl, rfl, rfl, rfl, rfl, rfl, rfl, trivial⟩, l5, S, h7, h6, hm⟩
        ·refine wl_alloc (wn rfl) rfl tz38 (cs := [nilS]) rfl F S rfl rfl ?_; clear F a S; rintro b2 a w F S
         refine dv_nx ⟨yl_ev rfl rfl (ev_loadA tu38 rfl (cs := [v5]) ts38 rfl (hq2 _ _ 3 rfl)) F S, yl_ev rfl rfl (ev_loadA tu38 rfl (cs := [v4]) ts38 rfl (hq1 _ _ 3 rfl)) F S, trivial⟩ ?_
         refine dv_op ok1 9 rfl [] ?_
         refine wl_call0 (wn rfl) rfl F rfl (commute_Commute_ok (fr := (fl [[bx b2 #[nilS] 38], [bx b3 #[nilS] 38], [bx b4 #[.i6 0, .i6 0] 24], c3, [bx b1 #[.i6 0, .i6 0] 24]] fr)) y2 v4 h4 y3 v5 h5 S hy4) rfl tc18 rfl rfl ?_; clear F a S
         rintro _ a w ⟨g5, v6, v7, l5, S, h6, h7, rfl⟩ F; replace S : St g5 [[bx b2 #[nilS] 38], [bx b3 #[nilS] 38], [bx b4 #[.i6 0, .i6 0] 24], c3, [bx b1 #[.i6 0, .i6 0] 24]] fr w := S
         refine dv_nx trivial ?_
         refine dv_et ok1 10 rfl (ev_move rfl) F rfl fun a F=>?_
         refine dv_et ok1 11 rfl (ev_extract rfl rfl) F rfl fun a F=>?_
         refine dv_et ok1 12 rfl (ev_extract rfl rfl) F rfl fun a F=>?_
         refine dv_et ok1 13 rfl (ev_extract rfl rfl) F rfl fun a F=>?_
         refine dv_et ok1 14 rfl (ev_extract rfl rfl) F rfl fun a F=>?_
         refine dv_join (HJ _ _ ?_)
         replace S : St g5 [[bx b4 #[.i6 0, .i6 0] 24], [bx b3 #[nilS] 38], [bx b2 #[nilS] 38], c3, [bx b1 #[.i6 0, .i6 0] 24]] fr w := St.tail [[bx b4 #[.i6 0, .i6 0] 24], [bx b3 #[nilS] 38], [bx b2 #[nilS] 38], c3, [bx b1 #[.i6 0, .i6 0] 24]] _ (((((S.frontC 4 rfl).frontC 4 rfl).frontC 2 rfl).frontC 4 rfl).frontC 6 rfl)
         exact ⟨v7, v6, b4, b3, b2, g5, F.sub ⟨rfl, rfl, rfl, rfl, rfl, rfl, rfl, rfl, rfl, rfl, rfl, rfl, trivial⟩, l5, S, h7, h6, hm⟩
     ·clear F S hm; rintro a w ⟨v8, v9, b5, b6, b7, g6, F, l6, S, h8, h9, hm⟩
      refine dv_op ok1 18 rfl [] ?_
      refine wl_storeC (wn rfl) rfl F S rfl rfl (vs := [v9]) rfl ts38 (one_cons h9.one one_nil) (k := 2) rfl (lb rfl) (c' := #[v9]) rfl rfl ?_; clear S; intro w S
      refine dv_nx trivial ?_
      refine dv_op ok1 19 rfl [] ?_
      refine wl_storeC (wn rfl) rfl F S rfl rfl (vs := [v8]) rfl ts38 (one_cons h8.one one_nil) (k := 1) rfl (lb rfl) (c' := #[v8]) rfl rfl ?_; clear S; intro w S
      refine dv_nx trivial ?_
      refine dv_et ok1 20 rfl (ev_assign rfl) F rfl fun a F=>?_
      refine dv_op ok1 21 rfl [] ?_
      refine wl_storeC (wn rfl) rfl F S rfl rfl (vs := [.i6 y4.2.2.2.Code, .i6 y4.2.2.2.Index]) rfl ts24 (one_cons rfl (one_cons rfl one_nil)) (k := 0) rfl (lb rfl) (c' := #[.i6 y4.2.2.2.Code, .i6 y4.2.2.2.Index]) rfl rfl ?_; clear S; intro w S
      refine dv_nx trivial ?_
      refine dv_fin ok1 ?_
      refine then_n ?_
      refine wp_seq ?_
      refine wp_seq ?_
      refine wp_region_lit ?_
      refine wE (ev_loadA tu24 rfl (cs := [.i6 y4.2.2.2.Code, .i6 y4.2.2.2.Index]) ts24 rfl (box_ptr (cells := [.i6 y4.2.2.2.Code, .i6 y4.2.2.2.Index]) 0 rfl 0 rfl (lb rfl))) F S rfl fun a F=>?_
      refine wE (ev_build (parts := []) (vs := []) rfl (fun w => tb24_  w)) F S rfl fun a F=>?_
      refine wE (ev_neS tu24 tqa24 tqb24 tqc24 (xs := [.i6 y4.2.2.2.Code, .i6 y4.2.2.2.Index]) (ys := [.i6 0, .i6 0]) rfl rfl ⟨_, _, rfl, by decide, ⟨_, _, rfl, rfl, leaf_int tu3⟩, ⟨_, _, rfl, by decide, ⟨_, _, rfl, rfl, leaf_int tu3⟩, rfl⟩⟩) F S rfl fun a F=>?_
      refine wpList_nil ?_
      refine then_n ?_
      obtain ⟨hc2, hm⟩ | ⟨hc2, hm⟩ := ite_or hm
      ·refine wp_condT F rfl hc2 ?_
       refine wp_seq ?_
       refine wp_dv [] mo S ?_; clear S; intro ok2 w S
       refine dv_et ok2 0 rfl (ev_fieldAddr' tu24 tf24_0 (z := 0) ts3 rfl ⟨_, rfl⟩ rfl) F rfl fun a F=>?_
       refine dv_ev ok2 1 rfl (ev_load1 tu3 rfl rfl (box_ptr (cells := [.i6 y4.2.2.2.Code]) 0 rfl 0 rfl (lb rfl))) F S rfl fun a F=>?_
       refine dv_et ok2 2 rfl (ev_build (parts := [(0, .tmp 52), (1, .const (.i6 (-1)))]) (vs := [(0, .i6 y4.2.2.2.Code), (1, .i6 (-1))]) rfl (fun w => tb24_0_1 y4.2.2.2.Code (-1) w)) F rfl fun a F=>?_
       refine dv_et ok2 3 rfl (ev_assign rfl) F rfl fun a F=>?_
       refine dv_et ok2 4 rfl (ev_assign rfl) F rfl fun a F=>?_
       refine dv_op ok2 5 rfl [] ?_
       refine wl_storeC (wn rfl) rfl F S rfl rfl (vs := [.i6 y4.2.2.2.Code, .i6 (-1)]) rfl ts24 (one_cons rfl (one_cons rfl one_nil)) (k := 4) rfl (lb rfl) (c' := #[.i6 y4.2.2.2.Code, .i6 (-1)]) rfl rfl ?_; clear S; intro w S
       refine dv_nx trivial ?_
       refine dv_fin ok2 ?_
       refine then_n ?_
       refine wp_ret ?_
       refine then_r ?_
       refine inb_r ?_
       refine then_r ?_
       refine inb_r ?_
       refine then_r ?_
       obtain rfl := sinj hm
       obtain rfl := hfin1 _ rfl
       clear hm
       have hm : (some ([], false, ({ Code := y4.2.2.2.Code, Index := (-1) } : Fault)) : Option ((List Patch) × Bool × Fault)) = some _ := hmo1
       obtain rfl := sinj hm
       replace S : St g6 [[], [bx b5 #[.i6 y4.2.2.2.Code, .i6 y4.2.2.2.Index] 24], [bx b6 #[v8] 38], [bx b7 #[v9] 38], c3, [bx b1 #[.i6 y4.2.2.2.Code, .i6 (-1)] 24]] fr w := S
       refine post_r _ F rfl (ar_cons (resT rfl) (ar_cons (resT rfl) (ar_cons (resA rfl tu24 rfl (box_ptr (cells := [.i6 y4.2.2.2.Code, .i6 (-1)]) 5 rfl 0 rfl (lb rfl) w S) ts24) ar_nil))) ?_
       replace S : St g6 [[]] fr w := St.tail [[]] _ (S.frontC 0 rfl)
       exact ⟨_, rfl, g6, (nilS), [], (((l1.trans l3).trans l4).trans l6), S, (OwnS.nil _), rfl⟩
      ·refine wp_condF F rfl hc2 ?_
       refine wp_skip ?_
       refine then_n ?_
       refine wp_seq ?_
       refine wp_seq ?_
       refine wp_region_lit ?_
       refine wE (ev_move rfl) F S rfl fun a F=>?_
       refine wE (ev_not rfl) F S rfl fun a F=>?_
       refine wpList_nil ?_
       refine then_n ?_
       obtain ⟨hc3, hm⟩ | ⟨hc3, hm⟩ := ite_or hm
       ·refine wp_condT F rfl hc3 ?_
        refine wp_seq ?_
        refine wp_region_lit ?_
        refine wE (ev_build (parts := []) (vs := []) rfl (fun w => tb24_  w)) F S rfl fun a F=>?_
        refine wE (ev_assign rfl) F S rfl fun a F=>?_
        refine wE (ev_assign rfl) F S rfl fun a F=>?_
        refine wl_storeC (wn rfl) rfl F S rfl rfl (vs := [.i6 0, .i6 0]) rfl ts24 (one_cons rfl (one_cons rfl one_nil)) (k := 4) rfl (lb rfl) (c' := #[.i6 0, .i6 0]) rfl rfl ?_; clear S; intro w S
        refine wpList_nil ?_
        refine then_n ?_
        refine wp_ret ?_
        refine then_r ?_
        refine inb_r ?_
        refine then_r ?_
        refine inb_r ?_
        refine then_r ?_
        obtain rfl := sinj hm
        obtain rfl := hfin1 _ rfl
        clear hm
        have hm : (some ([], false, ({ Code := 0, Index := 0 } : Fault)) : Option ((List Patch) × Bool × Fault)) = some _ := hmo1
        obtain rfl := sinj hm
        replace S : St g6 [[], [bx b5 #[.i6 y4.2.2.2.Code, .i6 y4.2.2.2.Index] 24], [bx b6 #[v8] 38], [bx b7 #[v9] 38], c3, [bx b1 #[.i6 0, .i6 0] 24]] fr w := S
        refine post_r _ F rfl (ar_cons (resT rfl) (ar_cons (resT rfl) (ar_cons (resA rfl tu24 rfl (box_ptr (cells := [.i6 0, .i6 0]) 5 rfl 0 rfl (lb rfl) w S) ts24) ar_nil))) ?_
        replace S : St g6 [[]] fr w := St.tail [[]] _ (S.frontC 0 rfl)
        exact ⟨_, rfl, g6, (nilS), [], (((l1.trans l3).trans l4).trans l6), S, (OwnS.nil _), rfl⟩
       ·refine wp_condF F rfl hc3 ?_
        refine wp_skip ?_
        refine then_n ?_
        refine wp_dv [] mo S ?_; clear S; intro ok3 w S
        refine dv_et ok3 0 rfl (ev_move rfl) F rfl fun a F=>?_
        refine dv_et ok3 1 rfl (ev_move rfl) F rfl fun a F=>?_
        refine dv_et ok3 2 rfl (ev_move rfl) F rfl fun a F=>?_
        refine dv_et ok3 3 rfl (ev_move rfl) F rfl fun a F=>?_
        obtain ⟨z3, hz3, hm⟩ := bind_some hm
        refine dv_et ok3 4 rfl (ev_int rfl rfl (bo_add hz3)) F rfl fun a F=>?_
        refine dv_ev ok3 5 rfl (ev_loadA tu38 rfl (cs := [v9]) ts38 rfl (box_ptr (cells := [v9]) 2 rfl 0 rfl (lb rfl))) F S rfl fun a F=>?_
        refine dv_ev ok3 6 rfl (ev_loadA tu38 rfl (cs := [v8]) ts38 rfl (box_ptr (cells := [v8]) 1 rfl 0 rfl (lb rfl))) F S rfl fun a F=>?_
        refine dv_et ok3 7 rfl (ev_move rfl) F rfl fun a F=>?_
        obtain ⟨y5, hy5, hm⟩ := bind_some hm
        refine dv_et ok3 8 rfl (ev_idxO (h3.mono (l4.trans l6)) hy5 tu22 ts38 rfl rfl) F rfl fun a F=>?_
        refine dv_op ok3 9 rfl [(6, .agg #[v8])] ?_
        obtain ⟨y6, hy6, hm⟩ := bind_some hm
        refine wl_storeW (z' := y4.1) (wn rfl) rfl F S (h3.mono (l4.trans l6)) hy5 rfl rfl (us := [v9]) rfl ts38 (one_cons h9.one one_nil) (k := 3) rfl rfl (rep_Patch_mk (x := y4.1) h9) rfl ?_; clear S
        rintro c4 w h10 S; replace S : St g6 [[bx b5 #[.i6 y4.2.2.2.Code, .i6 y4.2.2.2.Index] 24], [bx b6 #[v8] 38], [bx b7 #[v9] 38], c4, [bx b1 #[.i6 0, .i6 0] 24]] fr w := S; replace h10 : OwnS g6 y6 v3 c4 := sinj hy6 ▸ h10
        replace F := F.sub (e' := [(64, .i6 x5), (63, .agg #[v8]), (62, .agg #[v9]), (61, .i6 z3), (60, .i6 x6), (59, v3), (58, .i6 x6), (57, v3), (55, .bool !y4.2.2.1), (54, .bool y4.2.2.1), (50, .bool (!(decide (y4.2.2.2.Code = 0) && decide (y4.2.2.2.Index = 0)))), (49, .agg #[.i6 0, .i6 0]), (48, .agg #[.i6 y4.2.2.2.Code, .i6 y4.2.2.2.Index]), (15, .bool y4.2.2.1), (16, bp b5 0), (14, bp b6 0), (13, bp b7 0), (47, .agg #[.i6 y4.2.2.2.Code, .i6 y4.2.2.2.Index]), (46, .bool y4.2.2.1), (45, .agg #[v8]), (44, .agg #[v9]), (12, .i6 x5), (11, .i6 x6), (9, v3), (8, bp b1 0), (2, .i6 to)]) ⟨rfl, rfl, rfl, rfl, rfl, rfl, rfl, rfl, rfl, rfl, rfl, rfl, rfl, rfl, rfl, rfl, rfl, rfl, rfl, rfl, rfl, rfl, rfl, rfl, rfl, rfl, trivial⟩
        refine dv_nx ⟨yl_ev rfl rfl (ev_loadA tu38 rfl (cs := [v8]) ts38 rfl (box_ptr (cells := [v8]) 1 rfl 0 rfl (lb rfl))) F S, trivial⟩ ?_
        obtain ⟨y7, hy7, hm⟩ := bind_some hm
        refine dv_et ok3 10 rfl (ev_idxO h10 hy7 tu22 ts38 rfl rfl) F rfl fun a F=>?_
        refine dv_op ok3 11 rfl [] ?_
        obtain ⟨y8, hy8, hm⟩ := bind_some hm
        refine wl_storeW (z' := y4.2.1) (wn rfl) rfl F S h10 hy7 rfl rfl (us := [v8]) rfl ts38 (one_cons h8.one one_nil) (k := 3) rfl rfl (rep_Patch_mk (x := y4.2.1) h8) rfl ?_; clear S
        rintro c5 w h11 S; replace S : St g6 [[bx b5 #[.i6 y4.2.2.2.Code, .i6 y4.2.2.2.Index] 24], [bx b6 #[v8] 38], [bx b7 #[v9] 38], c5, [bx b1 #[.i6 0, .i6 0] 24]] fr w := S; replace h11 : OwnS g6 y8 v3 c5 := sinj hy8 ▸ h11
        replace F := F.sub (e' := [(64, .i6 x5), (63, .agg #[v8]), (62, .agg #[v9]), (61, .i6 z3), (60, .i6 x6), (59, v3), (58, .i6 x6), (57, v3), (55, .bool !y4.2.2.1), (54, .bool y4.2.2.1), (50, .bool (!(decide (y4.2.2.2.Code = 0) && decide (y4.2.2.2.Index = 0)))), (49, .agg #[.i6 0, .i6 0]), (48, .agg #[.i6 y4.2.2.2.Code, .i6 y4.2.2.2.Index]), (15, .bool y4.2.2.1), (16, bp b5 0), (14, bp b6 0), (13, bp b7 0), (47, .agg #[.i6 y4.2.2.2.Code, .i6 y4.2.2.2.Index]), (46, .bool y4.2.2.1), (45, .agg #[v8]), (44, .agg #[v9]), (12, .i6 x5), (11, .i6 x6), (9, v3), (8, bp b1 0), (2, .i6 to)]) ⟨rfl, rfl, rfl, rfl, rfl, rfl, rfl, rfl, rfl, rfl, rfl, rfl, rfl, rfl, rfl, rfl, rfl, rfl, rfl, rfl, rfl, rfl, rfl, rfl, rfl, rfl, trivial⟩
        refine dv_nx trivial ?_
        refine dv_et ok3 12 rfl (ev_assign rfl) F rfl fun a F=>?_
        refine dv_fin ok3 ?_
        refine inb_n ?_
        refine then_n ?_
        obtain rfl := sinj hm
        refine ⟨_, rfl, ?_⟩
        dsimp only
        replace S : St g6 [c5, [bx b1 #[.i6 0, .i6 0] 24]] fr w := St.tail [c5, [bx b1 #[.i6 0, .i6 0] 24]] _ ((S.frontC 4 rfl).frontC 4 rfl)
        exact ⟨v3, c5, g6, F.sub ⟨rfl, rfl, rfl, rfl, trivial⟩, ((l3.trans l4).trans l6), S, h11⟩
   ·refine wp_condF F rfl hc1 ?_
    refine wp_exit ?_
    refine then_e ?_
    refine then_e ?_
    refine inb_x ?_
    refine then_n ?_
    obtain rfl := sinj hm
    obtain rfl := hfin1 _ rfl
    clear hm
    have hm : (stack_move.j1 x3 : Option ((List Patch) × Bool × Fault)) = some _ := hmo1
    exact ⟨x3, v3, c3, g3, F.sub ⟨rfl, rfl, trivial⟩, l3, S, h3, hm⟩
 ·clear F S hm; rintro a w ⟨x1, v2, c2, g2, F, l2, S, h2, hm⟩
  refine wp_seq ?_
  refine wp_region_lit ?_
  refine wE (ev_move rfl) F S rfl fun a F=>?_
  refine wE (ev_build (parts := []) (vs := []) rfl (fun w => tb24_  w)) F S rfl fun a F=>?_
  refine wE (ev_assign rfl) F S rfl fun a F=>?_
  refine wE (ev_assign rfl) F S rfl fun a F=>?_
  refine wl_storeC (wn rfl) rfl F S rfl rfl (vs := [.i6 0, .i6 0]) rfl ts24 (one_cons rfl (one_cons rfl one_nil)) (k := 1) rfl (lb rfl) (c' := #[.i6 0, .i6 0]) rfl rfl ?_; clear S; intro w S
  refine wpList_nil ?_
  refine then_n ?_
  refine wp_ret ?_
  obtain rfl := sinj hm
  refine post_r _ F rfl (ar_cons (resT rfl) (ar_cons (resT rfl) (ar_cons (resA rfl tu24 rfl (box_ptr (cells := [.i6 0, .i6 0]) 1 rfl 0 rfl (lb rfl) w S) ts24) ar_nil))) ?_
  replace S : St g2 [c2] fr w := St.tail [c2] _ (S.frontC 0 rfl)
  exact ⟨_, rfl, g2, v2, c2, (l1.trans l2), S, h2, rfl⟩

theorem stack_Drop_ok {g : Gh} {fr : Hl} {w : World} {r : (List Patch) × Bool × Fault} (patches : (List Patch)) (vpatches1 : Value) (hpatches1 : RepSl g patches vpatches1) (i_ : Int) (S : St g [] fr w) (hm : stack_Drop patches i_ = some r) :
  Calls Try.prog 12 [vpatches1, .i6 i_].toArray w (fun en w' => ∃ v, en = .returned v ∧ ∃ (g' : Gh) (v1 : Value) (c1 : Hl), Le g g' ∧ St g' [c1] fr w' ∧ OwnS g' r.1 v1 c1 ∧ .tuple #[v1, .bool r.2.1, .agg #[.i6 r.2.2.Code, .i6 r.2.2.Index]] = v) := by
 unfold stack_Drop at hm
 refine calls_enter (fn := Try.f12) Try.func12 rfl Try.ntmps12 (lb rfl) ?_
 intro a F
 replace F : Fr 45 a [(0, vpatches1), (1, .i6 i_)] := F
 refine wp_seq ?_
 refine wp_region_lit ?_
 refine wE (ev_assign rfl) F S rfl fun a F=>?_
 refine wE (ev_assign rfl) F S rfl fun a F=>?_
 refine wl_alloc (wn rfl) rfl tz24 (cs := [.i6 0, .i6 0]) rfl F S rfl rfl ?_; clear F a S; rintro b1 a w F S
 refine wpList_nil ?_
 refine then_n ?_
 refine wp_seq ?_
 refine wp_seq ?_
 refine wp_region_lit ?_
 refine wE (ev_move rfl) F S rfl fun a F=>?_
 obtain ⟨y1, hy1, hm⟩ := bind_some hm
 refine wl_call0 (wn rfl) rfl F rfl (stack_check_ok (fr := (fl [[bx b1 #[.i6 0, .i6 0] 24]] fr)) patches vpatches1 hpatches1 S hy1) rfl tc23 rfl rfl ?_; clear F a S
 rintro _ a w ⟨g1, l1, S, rfl⟩ F; replace S : St g1 [[bx b1 #[.i6 0, .i6 0] 24]] fr w := S
 refine wl_alloc (wn rfl) rfl tz24 (cs := [.i6 0, .i6 0]) rfl F S rfl rfl ?_; clear F a S; rintro b2 a w F S
 refine wl_storeC (wn rfl) rfl F S rfl rfl (vs := [.i6 y1.Code, .i6 y1.Index]) rfl ts24 (one_cons rfl (one_cons rfl one_nil)) (k := 0) rfl (lb rfl) (c' := #[.i6 y1.Code, .i6 y1.Index]) rfl rfl ?_; clear S; intro w S
 refine wpList_nil ?_
 refine then_n ?_
 refine wp_seq ?_
 refine wp_region_lit ?_
 refine wE (ev_loadA tu24 rfl (cs := [.i6 y1.Code, .i6 y1.Index]) ts24 rfl (box_ptr (cells := [.i6 y1.Code, .i6 y1.Index]) 0 rfl 0 rfl (lb rfl))) F S rfl fun a F=>?_
 refine wE (ev_build (parts := []) (vs := []) rfl (fun w => tb24_  w)) F S rfl fun a F=>?_
 refine wE (ev_neS tu24 tqa24 tqb24 tqc24 (xs := [.i6 y1.Code, .i6 y1.Index]) (ys := [.i6 0, .i6 0]) rfl rfl ⟨_, _, rfl, by decide, ⟨_, _, rfl, rfl, leaf_int tu3⟩, ⟨_, _, rfl, by decide, ⟨_, _, rfl, rfl, leaf_int tu3⟩, rfl⟩⟩) F S rfl fun a F=>?_
 refine wpList_nil ?_
 refine then_n ?_
 obtain ⟨hc1, hm⟩ | ⟨hc1, hm⟩ := ite_or hm
 ·refine wp_condT F rfl hc1 ?_
  refine wp_seq ?_
  refine wp_dv [] mo S ?_; clear S; intro ok1 w S
  refine dv_ev ok1 0 rfl (ev_loadA tu24 rfl (cs := [.i6 y1.Code, .i6 y1.Index]) ts24 rfl (box_ptr (cells := [.i6 y1.Code, .i6 y1.Index]) 0 rfl 0 rfl (lb rfl))) F S rfl fun a F=>?_
  refine dv_et ok1 1 rfl (ev_assign rfl) F rfl fun a F=>?_
  refine dv_et ok1 2 rfl (ev_assign rfl) F rfl fun a F=>?_
  refine dv_op ok1 3 rfl [] ?_
  refine wl_storeC (wn rfl) rfl F S rfl rfl (vs := [.i6 y1.Code, .i6 y1.Index]) rfl ts24 (one_cons rfl (one_cons rfl one_nil)) (k := 1) rfl (lb rfl) (c' := #[.i6 y1.Code, .i6 y1.Index]) rfl rfl ?_; clear S; intro w S
  refine dv_nx trivial ?_
  refine dv_fin ok1 ?_
  refine then_n ?_
  refine wp_ret ?_
  refine then_r ?_
  obtain rfl := sinj hm
  replace S : St g1 [[], [bx b2 #[.i6 y1.Code, .i6 y1.Index] 24], [bx b1 #[.i6 y1.Code, .i6 y1.Index] 24]] fr w := S
  refine post_r _ F rfl (ar_cons (resT rfl) (ar_cons (resT rfl) (ar_cons (resA rfl tu24 rfl (box_ptr (cells := [.i6 y1.Code, .i6 y1.Index]) 2 rfl 0 rfl (lb rfl) w S) ts24) ar_nil))) ?_
  replace S : St g1 [[]] fr w := St.tail [[]] _ (S.frontC 0 rfl)
  exact ⟨_, rfl, g1, (nilS), [], l1, S, (OwnS.nil _), rfl⟩
 ·refine wp_condF F rfl hc1 ?_
  refine wp_skip ?_
  refine then_n ?_
  refine wp_seq ?_
  refine wp_seq ?_
  refine wp_region_lit ?_
  refine wE (ev_move rfl) F S rfl fun a F=>?_
  refine wE (ev_int rfl rfl (bo_lss _ _ _ _)) F S rfl fun a F=>?_
  refine wE (ev_move rfl) F S rfl fun a F=>?_
  obtain ⟨x1, hx1, hm⟩ := bind_some hm
  refine wl_cut 5 (fun a w' => w = w' ∧ Fr 45 a [(24, .bool x1), (6, bp b1 0), (0, vpatches1), (1, .i6 i_)]) ?_ ?_
  ·clear hm; obtain ⟨hc2, hm⟩ | ⟨hc2, hm⟩ := ite_or hx1
   ·refine wl_skip rfl rfl rfl rfl (ne_ft hc2) F rfl rfl ?_; clear F a; intro a F
    refine wl_skip rfl rfl rfl rfl (ne_ft hc2) F rfl rfl ?_; clear F a; intro a F
    refine wl_skip rfl rfl rfl rfl (ne_ft hc2) F rfl rfl ?_; clear F a; intro a F
    refine wl_skip rfl rfl rfl rfl (ne_ft hc2) F rfl rfl ?_; clear F a; intro a F
    refine wE (ev_pickT rfl hc2 rfl) F S rfl fun a F=>?_
    obtain rfl := sinj hm
    refine wpList_nil (then_n ?_); exact ⟨rfl, F.sub ⟨rfl, rfl, rfl, rfl, trivial⟩⟩
   ·refine wl_ev (wg F rfl rfl rfl rfl hc2) (ev_move rfl) F S rfl rfl ?_; clear F a; intro a F
    refine wl_ev (wg F rfl rfl rfl rfl hc2) (ev_move rfl) F S rfl rfl ?_; clear F a; intro a F
    refine wl_ev (wg F rfl rfl rfl rfl hc2) (ev_lenSh hpatches1 rfl tu22) F S rfl rfl ?_; clear F a; intro a F
    refine wl_ev (wg F rfl rfl rfl rfl hc2) (ev_int rfl rfl (bo_geq _ _ _ _)) F S rfl rfl ?_; clear F a; intro a F
    refine wE (ev_pickF rfl hc2 rfl) F S rfl fun a F=>?_
    obtain rfl := sinj hm
    refine wpList_nil (then_n ?_); exact ⟨rfl, F.sub ⟨rfl, rfl, rfl, rfl, trivial⟩⟩
  clear F; rintro a w' ⟨rfl, F⟩
  refine wpList_nil ?_
  refine then_n ?_
  obtain ⟨hc3, hm⟩ | ⟨hc3, hm⟩ := ite_or hm
  ·refine wp_condT F rfl hc3 ?_
   refine wp_seq ?_
   refine wp_region_lit ?_
   refine wE (ev_build (parts := [(0, .const (.i6 3)), (1, .const (.i6 (-2)))]) (vs := [(0, .i6 3), (1, .i6 (-2))]) rfl (fun w => tb24_0_1 3 (-2) w)) F S rfl fun a F=>?_
   refine wE (ev_assign rfl) F S rfl fun a F=>?_
   refine wE (ev_assign rfl) F S rfl fun a F=>?_
   refine wl_storeC (wn rfl) rfl F S rfl rfl (vs := [.i6 3, .i6 (-2)]) rfl ts24 (one_cons rfl (one_cons rfl one_nil)) (k := 1) rfl (lb rfl) (c' := #[.i6 3, .i6 (-2)]) rfl rfl ?_; clear S; intro w S
   refine wpList_nil ?_
   refine then_n ?_
   refine wp_ret ?_
   refine then_r ?_
   obtain rfl := sinj hm
   replace S : St g1 [[], [bx b2 #[.i6 y1.Code, .i6 y1.Index] 24], [bx b1 #[.i6 3, .i6 (-2)] 24]] fr w := S
   refine post_r _ F rfl (ar_cons (resT rfl) (ar_cons (resT rfl) (ar_cons (resA rfl tu24 rfl (box_ptr (cells := [.i6 3, .i6 (-2)]) 2 rfl 0 rfl (lb rfl) w S) ts24) ar_nil))) ?_
   replace S : St g1 [[]] fr w := St.tail [[]] _ (S.frontC 0 rfl)
   exact ⟨_, rfl, g1, (nilS), [], l1, S, (OwnS.nil _), rfl⟩
  ·refine wp_condF F rfl hc3 ?_
   refine wp_skip ?_
   refine then_n ?_
   refine wp_seq ?_
   refine wp_region_lit ?_
   refine wE (ev_move rfl) F S rfl fun a F=>?_
   refine wE (ev_move rfl) F S rfl fun a F=>?_
   refine wE (ev_move rfl) F S rfl fun a F=>?_
   refine wE (ev_lenSh hpatches1 rfl tu22) F S rfl fun a F=>?_
   obtain ⟨z1, hz1, hm⟩ := bind_some hm
   refine wE (ev_int rfl rfl (bo_sub hz1)) F S rfl fun a F=>?_
   obtain ⟨y2, hy2, hm⟩ := bind_some hm
   refine wl_call0 (wn rfl) rfl F rfl (stack_move_ok (fr := (fl [[bx b2 #[.i6 y1.Code, .i6 y1.Index] 24], [bx b1 #[.i6 0, .i6 0] 24]] fr)) patches vpatches1 (hpatches1.mono l1) i_ z1 S hy2) rfl tc24 rfl rfl ?_; clear F a S
   rintro _ a w ⟨g2, v1, c1, l2, S, h1, rfl⟩ F; replace S : St g2 [c1, [bx b2 #[.i6 y1.Code, .i6 y1.Index] 24], [bx b1 #[.i6 0, .i6 0] 24]] fr w := S
   refine wE (ev_move rfl) F S rfl fun a F=>?_
   refine wE (ev_extract rfl rfl) F S rfl fun a F=>?_
   refine wE (ev_extract rfl rfl) F S rfl fun a F=>?_
   refine wE (ev_extract rfl rfl) F S rfl fun a F=>?_
   refine wl_alloc (wn rfl) rfl tz24 (cs := [.i6 0, .i6 0]) rfl F S rfl rfl ?_; clear F a S; rintro b3 a w F S
   refine wE (ev_assign rfl) F S rfl fun a F=>?_
   refine wE (ev_assign rfl) F S rfl fun a F=>?_
   refine wl_storeC (wn rfl) rfl F S rfl rfl (vs := [.i6 y2.2.2.Code, .i6 y2.2.2.Index]) rfl ts24 (one_cons rfl (one_cons rfl one_nil)) (k := 0) rfl (lb rfl) (c' := #[.i6 y2.2.2.Code, .i6 y2.2.2.Index]) rfl rfl ?_; clear S; intro w S
   refine wpList_nil ?_
   refine then_n ?_
   refine wp_seq ?_
   refine wp_seq ?_
   refine wp_region_lit ?_
   refine wE (ev_move rfl) F S rfl fun a F=>?_
   refine wE (ev_not rfl) F S rfl fun a F=>?_
   refine wpList_nil ?_
   refine then_n ?_
   obtain ⟨hc4, hm⟩ | ⟨hc4, hm⟩ := ite_or hm
   ·refine wp_condT F rfl hc4 ?_
    refine wp_seq ?_
    refine wp_dv [] mo S ?_; clear S; intro ok2 w S
    refine dv_ev ok2 0 rfl (ev_loadA tu24 rfl (cs := [.i6 y2.2.2.Code, .i6 y2.2.2.Index]) ts24 rfl (box_ptr (cells := [.i6 y2.2.2.Code, .i6 y2.2.2.Index]) 0 rfl 0 rfl (lb rfl))) F S rfl fun a F=>?_
    refine dv_et ok2 1 rfl (ev_assign rfl) F rfl fun a F=>?_
    refine dv_et ok2 2 rfl (ev_assign rfl) F rfl fun a F=>?_
    refine dv_op ok2 3 rfl [] ?_
    refine wl_storeC (wn rfl) rfl F S rfl rfl (vs := [.i6 y2.2.2.Code, .i6 y2.2.2.Index]) rfl ts24 (one_cons rfl (one_cons rfl one_nil)) (k := 3) rfl (lb rfl) (c' := #[.i6 y2.2.2.Code, .i6 y2.2.2.Index]) rfl rfl ?_; clear S; intro w S
    refine dv_nx trivial ?_
    refine dv_fin ok2 ?_
    refine then_n ?_
    refine wp_ret ?_
    refine then_r ?_
    obtain rfl := sinj hm
    replace S : St g2 [[], [bx b3 #[.i6 y2.2.2.Code, .i6 y2.2.2.Index] 24], c1, [bx b2 #[.i6 y1.Code, .i6 y1.Index] 24], [bx b1 #[.i6 y2.2.2.Code, .i6 y2.2.2.Index] 24]] fr w := S
    refine post_r _ F rfl (ar_cons (resT rfl) (ar_cons (resT rfl) (ar_cons (resA rfl tu24 rfl (box_ptr (cells := [.i6 y2.2.2.Code, .i6 y2.2.2.Index]) 4 rfl 0 rfl (lb rfl) w S) ts24) ar_nil))) ?_
    replace S : St g2 [[]] fr w := St.tail [[]] _ (S.frontC 0 rfl)
    exact ⟨_, rfl, g2, (nilS), [], (l1.trans l2), S, (OwnS.nil _), rfl⟩
   ·refine wp_condF F rfl hc4 ?_
    refine wp_skip ?_
    refine then_n ?_
    refine wp_seq ?_
    refine wp_region_lit ?_
    refine wE (ev_move rfl) F S rfl fun a F=>?_
    refine wE (ev_move rfl) F S rfl fun a F=>?_
    refine wE (ev_lenOw h1 rfl tu22) F S rfl fun a F=>?_
    obtain ⟨z2, hz2, hm⟩ := bind_some hm
    refine wE (ev_int rfl rfl (bo_sub hz2)) F S rfl fun a F=>?_
    obtain ⟨y3, hy3, hm⟩ := bind_some hm
    refine wl_cutO (wn rfl) rfl h1 hy3 tu22 ts38 rfl (bnd0 _) (bndV rfl) F rfl rfl ?_; clear F a; rintro v2 h2 a F
    refine wE (ev_build (parts := []) (vs := []) rfl (fun w => tb24_  w)) F S rfl fun a F=>?_
    refine wE (ev_assign rfl) F S rfl fun a F=>?_
    refine wE (ev_assign rfl) F S rfl fun a F=>?_
    refine wl_storeC (wn rfl) rfl F S rfl rfl (vs := [.i6 0, .i6 0]) rfl ts24 (one_cons rfl (one_cons rfl one_nil)) (k := 3) rfl (lb rfl) (c' := #[.i6 0, .i6 0]) rfl rfl ?_; clear S; intro w S
    refine wpList_nil ?_
    refine then_n ?_
    refine wp_ret ?_
    obtain rfl := sinj hm
    refine post_r _ F rfl (ar_cons (resT rfl) (ar_cons (resT rfl) (ar_cons (resA rfl tu24 rfl (box_ptr (cells := [.i6 0, .i6 0]) 3 rfl 0 rfl (lb rfl) w S) ts24) ar_nil))) ?_
    replace S : St g2 [c1] fr w := St.tail [c1] _ (S.frontC 1 rfl)
    exact ⟨_, rfl, g2, v2, c1, (l1.trans l2), S, h2, rfl⟩

theorem changeforgeequal_Strings_ok {g : Gh} {fr : Hl} {w : World} {r : Bool} (a_ : (List ByteArray)) (va_1 : Value) (ha_1 : RepSl g a_ va_1) (b_ : (List ByteArray)) (vb_1 : Value) (hb_1 : RepSl g b_ vb_1) (S : St g [] fr w) (hm : changeforgeequal_Strings a_ b_ = some r) :
  Calls Try.prog 17 [va_1, vb_1].toArray w (fun en w' => ∃ v, en = .returned v ∧ ∃ (g' : Gh), Le g g' ∧ St g' [] fr w' ∧ .bool r = v) := by
 unfold changeforgeequal_Strings at hm
 refine calls_enter (fn := Try.f17) Try.func17 rfl Try.ntmps17 (lb rfl) ?_
 intro a F
 replace F : Fr 26 a [(0, va_1), (1, vb_1)] := F
 refine wp_seq ?_
 refine wp_region_lit ?_
 refine wE (ev_assign rfl) F S rfl fun a F=>?_
 refine wpList_nil ?_
 refine then_n ?_
 refine wp_seq ?_
 refine wp_seq ?_
 refine wp_region_lit ?_
 refine wE (ev_move rfl) F S rfl fun a F=>?_
 refine wE (ev_lenSh ha_1 rfl tu31) F S rfl fun a F=>?_
 refine wE (ev_move rfl) F S rfl fun a F=>?_
 refine wE (ev_lenSh hb_1 rfl tu31) F S rfl fun a F=>?_
 refine wE (ev_int rfl rfl (bo_neq _ _ _ _)) F S rfl fun a F=>?_
 refine wpList_nil ?_
 refine then_n ?_
 obtain ⟨hc1, hm⟩ | ⟨hc1, hm⟩ := ite_or hm
 ·refine wp_condT F rfl hc1 ?_
  refine wp_seq ?_
  refine wp_region_lit ?_
  refine wE (ev_assign rfl) F S rfl fun a F=>?_
  refine wpList_nil ?_
  refine then_n ?_
  refine wp_ret ?_
  refine then_r ?_
  obtain rfl := sinj hm
  refine post_r _ F rfl (ar_cons (resT rfl) ar_nil) ?_
  exact ⟨_, rfl, g, (Le.refl _), S, rfl⟩
 ·refine wp_condF F rfl hc1 ?_
  refine wp_skip ?_
  refine then_n ?_
  refine wp_cut (fun a w => ∃ (g1 : Gh), Fr 26 a [] ∧ Le g g1 ∧ St g1 [] fr w ∧ changeforgeequal_Strings.j1 = some r) ?_ ?_
  ·refine wp_seq ?_
   refine wp_region_lit ?_
   refine wE (ev_assign rfl) F S rfl fun a F=>?_
   refine wpList_nil ?_
   refine then_n ?_
   refine wp_block ?_
   obtain ⟨r1, hr1, hm⟩ := bind_some hm
   have hmo1 := hm; clear hm
   refine wp_iter (σ := Int) (ρ := Bool ⊕ Unit) (m := fun s => changeforgeequal_Strings.l1 a_ b_ s) (I := fun x1 a w => ∃ (g2 : Gh), Fr 26 a [(5, .i6 x1), (0, va_1), (1, vb_1)] ∧ Le g g2 ∧ St g2 [] fr w) hr1 ?_ ?_
   ·exact ⟨g, F.sub ⟨rfl, rfl, rfl, trivial⟩, (Le.refl _), S⟩
   ·clear F S; rintro x1 a w x2 ⟨g2, F, l2, S⟩ hx1 hfin1
    have hm : changeforgeequal_Strings.l1 a_ b_ x1 = some x2 := hx1; clear hx1
    unfold changeforgeequal_Strings.l1 at hm
    refine wp_seq ?_
    refine wp_seq ?_
    refine wp_region_lit ?_
    refine wE (ev_move rfl) F S rfl fun a F=>?_
    refine wE (ev_move rfl) F S rfl fun a F=>?_
    refine wE (ev_lenSh ha_1 rfl tu31) F S rfl fun a F=>?_
    refine wE (ev_int rfl rfl (bo_lss _ _ _ _)) F S rfl fun a F=>?_
    refine wpList_nil ?_
    refine then_n ?_
    obtain ⟨hc2, hm⟩ | ⟨hc2, hm⟩ := ite_or hm
    ·refine wp_condT F rfl hc2 ?_
     refine wp_skip ?_
     refine then_n ?_
     refine wp_seq ?_
     refine wp_block ?_
     refine wp_seq ?_
     refine wp_quiet mo (by kernel_rfl) S ?_
     refine wq_ev (wn rfl) (ev_move rfl) F rfl rfl ?_; clear F a; intro a F
     refine wq_ev (wn rfl) (ev_move rfl) F rfl rfl ?_; clear F a; intro a F
     obtain ⟨y1, hy1, hm⟩ := bind_some hm
     obtain ⟨cs1, hr2, hp1⟩ := elemS (ha_1.mono l2) hy1
     obtain rfl := rep_str hr2
     refine wq_ev (wn rfl) (ev_idxS (ha_1.mono l2) hy1 tu31 ts9 rfl rfl) F rfl rfl ?_; clear F a; intro a F
     refine wq_ev (wn rfl) (ev_load1 tu9 rfl rfl (ptr_mono (cks := []) (fr := fr) hp1 (Le.refl _))) F rfl rfl ?_; clear F a; intro a F
     refine wq_ev (wn rfl) (ev_move rfl) F rfl rfl ?_; clear F a; intro a F
     refine wq_ev (wn rfl) (ev_move rfl) F rfl rfl ?_; clear F a; intro a F
     obtain ⟨y2, hy2, hm⟩ := bind_some hm
     obtain ⟨cs2, hr3, hp2⟩ := elemS (hb_1.mono l2) hy2
     obtain rfl := rep_str hr3
     refine wq_ev (wn rfl) (ev_idxS (hb_1.mono l2) hy2 tu31 ts9 rfl rfl) F rfl rfl ?_; clear F a; intro a F
     refine wq_ev (wn rfl) (ev_load1 tu9 rfl rfl (ptr_mono (cks := []) (fr := fr) hp2 (Le.refl _))) F rfl rfl ?_; clear F a; intro a F
     refine wq_ev (wn rfl) (ev_str rfl rfl (bs_neq _ _ _)) F rfl rfl ?_; clear F a; intro a F
     refine wq_nil ?_; clear S; intro w S
     refine then_n ?_
     obtain ⟨hc3, hm⟩ | ⟨hc3, hm⟩ := ite_or hm
     ·refine wp_condT F rfl hc3 ?_
      refine wp_seq ?_
      refine wp_region_lit ?_
      refine wE (ev_assign rfl) F S rfl fun a F=>?_
      refine wpList_nil ?_
      refine then_n ?_
      refine wp_ret ?_
      refine inb_r ?_
      refine then_r ?_
      refine then_r ?_
      refine inb_r ?_
      refine then_r ?_
      obtain rfl := sinj hm
      obtain rfl := hfin1 _ rfl
      clear hm
      have hm : (some false : Option Bool) = some _ := hmo1
      obtain rfl := sinj hm
      refine post_r _ F rfl (ar_cons (resT rfl) ar_nil) ?_
      exact ⟨_, rfl, g2, l2, S, rfl⟩
     ·refine wp_condF F rfl hc3 ?_
      refine wp_skip ?_
      refine inb_n ?_
      refine then_n ?_
      refine wp_region_lit ?_
      refine wE (ev_move rfl) F S rfl fun a F=>?_
      obtain ⟨z1, hz1, hm⟩ := bind_some hm
      refine wE (ev_int rfl rfl (bo_add hz1)) F S rfl fun a F=>?_
      refine wE (ev_assign rfl) F S rfl fun a F=>?_
      refine wpList_nil ?_
      refine then_n ?_
      obtain rfl := sinj hm
      refine ⟨_, rfl, ?_⟩
      exact ⟨g2, F.sub ⟨rfl, rfl, rfl, trivial⟩, l2, S⟩
    ·refine wp_condF F rfl hc2 ?_
     refine wp_exit ?_
     refine then_e ?_
     refine then_e ?_
     refine inb_x ?_
     refine then_n ?_
     obtain rfl := sinj hm
     obtain rfl := hfin1 _ rfl
     clear hm
     have hm : (changeforgeequal_Strings.j1 : Option Bool) = some _ := hmo1
     exact ⟨g2, F.sub trivial, l2, S, hm⟩
  ·clear F S hm; rintro a w ⟨g1, F, l1, S, hm⟩
   refine wp_seq ?_
   refine wp_region_lit ?_
   refine wE (ev_assign rfl) F S rfl fun a F=>?_
   refine wpList_nil ?_
   refine then_n ?_
   refine wp_ret ?_
   obtain rfl := sinj hm
   refine post_r _ F rfl (ar_cons (resT rfl) ar_nil) ?_
   exact ⟨_, rfl, g1, l1, S, rfl⟩

theorem changeforgeequal_Patch_ok {g : Gh} {fr : Hl} {w : World} {r : Bool} (a_ : Patch) (va_1 : Value) (ha_1 : RepSl g a_.Hunks va_1) (b_ : Patch) (vb_1 : Value) (hb_1 : RepSl g b_.Hunks vb_1) (S : St g [] fr w) (hm : changeforgeequal_Patch a_ b_ = some r) :
  Calls Try.prog 28 [.agg #[va_1], .agg #[vb_1]].toArray w (fun en w' => ∃ v, en = .returned v ∧ ∃ (g' : Gh), Le g g' ∧ St g' [] fr w' ∧ .bool r = v) := by
 unfold changeforgeequal_Patch at hm
 refine calls_enter (fn := Try.f28) Try.func28 rfl Try.ntmps28 (lb rfl) ?_
 intro a F
 replace F : Fr 65 a [(0, .agg #[va_1]), (1, .agg #[vb_1])] := F
 refine wp_seq ?_
 refine wp_region_lit ?_
 refine wl_boxC (wn rfl) rfl rfl rfl F S rfl rfl ?_; clear F a S; rintro b1 a w F S
 refine wl_boxC (wn rfl) rfl rfl rfl F S rfl rfl ?_; clear F a S; rintro b2 a w F S
 refine wE (ev_assign rfl) F S rfl fun a F=>?_
 refine wpList_nil ?_
 refine then_n ?_
 refine wp_seq ?_
 refine wp_seq ?_
 refine wp_region_lit ?_
 refine wE (ev_fieldAddr' tu38 tf38_0 (z := 0) ts36 rfl ⟨_, rfl⟩ rfl) F S rfl fun a F=>?_
 refine wE (ev_load1 tu36 rfl rfl (box_ptr (cells := [va_1]) 1 rfl 0 rfl (lb rfl))) F S rfl fun a F=>?_
 refine wE (ev_lenSh ha_1 rfl tu36) F S rfl fun a F=>?_
 refine wE (ev_fieldAddr' tu38 tf38_0 (z := 0) ts36 rfl ⟨_, rfl⟩ rfl) F S rfl fun a F=>?_
 refine wE (ev_load1 tu36 rfl rfl (box_ptr (cells := [vb_1]) 0 rfl 0 rfl (lb rfl))) F S rfl fun a F=>?_
 refine wE (ev_lenSh hb_1 rfl tu36) F S rfl fun a F=>?_
 refine wE (ev_int rfl rfl (bo_neq _ _ _ _)) F S rfl fun a F=>?_
 refine wpList_nil ?_
 refine then_n ?_
 obtain ⟨hc1, hm⟩ | ⟨hc1, hm⟩ := ite_or hm
 ·refine wp_condT F rfl hc1 ?_
  refine wp_seq ?_
  refine wp_region_lit ?_
  refine wE (ev_assign rfl) F S rfl fun a F=>?_
  refine wpList_nil ?_
  refine then_n ?_
  refine wp_ret ?_
  refine then_r ?_
  obtain rfl := sinj hm
  refine post_r _ F rfl (ar_cons (resT rfl) ar_nil) ?_
  replace S : St g [] fr w := St.tail [] _ S
  exact ⟨_, rfl, g, (Le.refl _), S, rfl⟩
 ·refine wp_condF F rfl hc1 ?_
  refine wp_skip ?_
  refine then_n ?_
  refine wp_cut (fun a w => ∃ (g1 : Gh), Fr 65 a [] ∧ Le g g1 ∧ St g1 [] fr w ∧ changeforgeequal_Patch.j1 = some r) ?_ ?_
  ·refine wp_seq ?_
   refine wp_region_lit ?_
   refine wE (ev_assign rfl) F S rfl fun a F=>?_
   refine wpList_nil ?_
   refine then_n ?_
   refine wp_block ?_
   obtain ⟨r1, hr1, hm⟩ := bind_some hm
   have hmo1 := hm; clear hm
   refine wp_iter (σ := Int) (ρ := Bool ⊕ Unit) (m := fun s => changeforgeequal_Patch.l1 a_ b_ s) (I := fun x1 a w => ∃ (g2 : Gh), Fr 65 a [(5, .i6 x1), (3, bp b2 0), (2, bp b1 0)] ∧ Le g g2 ∧ St g2 [[bx b2 #[vb_1] 38], [bx b1 #[va_1] 38]] fr w) hr1 ?_ ?_
   ·exact ⟨g, F.sub ⟨rfl, rfl, rfl, trivial⟩, (Le.refl _), S⟩
   ·clear F S; rintro x1 a w x2 ⟨g2, F, l2, S⟩ hx1 hfin1
    have hm : changeforgeequal_Patch.l1 a_ b_ x1 = some x2 := hx1; clear hx1
    unfold changeforgeequal_Patch.l1 at hm
    refine wp_seq ?_
    refine wp_seq ?_
    refine wp_region_lit ?_
    refine wE (ev_move rfl) F S rfl fun a F=>?_
    refine wE (ev_fieldAddr' tu38 tf38_0 (z := 0) ts36 rfl ⟨_, rfl⟩ rfl) F S rfl fun a F=>?_
    refine wE (ev_load1 tu36 rfl rfl (box_ptr (cells := [va_1]) 1 rfl 0 rfl (lb rfl))) F S rfl fun a F=>?_
    refine wE (ev_lenSh ha_1 rfl tu36) F S rfl fun a F=>?_
    refine wE (ev_int rfl rfl (bo_lss _ _ _ _)) F S rfl fun a F=>?_
    refine wpList_nil ?_
    refine then_n ?_
    obtain ⟨hc2, hm⟩ | ⟨hc2, hm⟩ := ite_or hm
    ·refine wp_condT F rfl hc2 ?_
     refine wp_skip ?_
     refine then_n ?_
     refine wp_seq ?_
     refine wp_block ?_
     refine wp_seq ?_
     refine wp_quiet mo (by kernel_rfl) S ?_
     refine wq_ev (wn rfl) (ev_fieldAddr' tu38 tf38_0 (z := 0) ts36 rfl ⟨_, rfl⟩ rfl) F rfl rfl ?_; clear F a; intro a F
     refine wq_ev (wn rfl) (ev_load1 tu36 rfl rfl (box_ptr (cells := [va_1]) 1 rfl 0 rfl (lb rfl))) F rfl rfl ?_; clear F a; intro a F
     refine wq_ev (wn rfl) (ev_move rfl) F rfl rfl ?_; clear F a; intro a F
     obtain ⟨y1, hy1, hm⟩ := bind_some hm
     obtain ⟨cs1, hr2, hp1⟩ := elemS (ha_1.mono l2) hy1
     obtain ⟨v1, v2, rfl, h1, h2⟩ := rep_Hunk hr2
     refine wq_ev (wn rfl) (ev_idxS (ha_1.mono l2) hy1 tu36 ts60 rfl rfl) F rfl rfl ?_; clear F a; intro a F
     have hp2 := PtrC.field hp1 0 1 (lb rfl)
     have hp2 : PtrC g2 (addP (elemP va_1 x1 3) 0) [.i6 y1.At] := hp2
     refine wq_ev (wn rfl) (ev_fieldAddr' tu60 tf60_0 (z := 0) ts3 rfl hp1.ptr rfl) F rfl rfl ?_; clear F a; intro a F
     refine wq_ev (wn rfl) (ev_load1 tu3 rfl rfl (ptr_mono (cks := [[bx b2 #[vb_1] 38], [bx b1 #[va_1] 38]]) (fr := fr) hp2 (Le.refl _))) F rfl rfl ?_; clear F a; intro a F
     refine wq_ev (wn rfl) (ev_fieldAddr' tu38 tf38_0 (z := 0) ts36 rfl ⟨_, rfl⟩ rfl) F rfl rfl ?_; clear F a; intro a F
     refine wq_ev (wn rfl) (ev_load1 tu36 rfl rfl (box_ptr (cells := [vb_1]) 0 rfl 0 rfl (lb rfl))) F rfl rfl ?_; clear F a; intro a F
     refine wq_ev (wn rfl) (ev_move rfl) F rfl rfl ?_; clear F a; intro a F
     obtain ⟨y2, hy2, hm⟩ := bind_some hm
     obtain ⟨cs2, hr3, hp3⟩ := elemS (hb_1.mono l2) hy2
     obtain ⟨v3, v4, rfl, h3, h4⟩ := rep_Hunk hr3
     refine wq_ev (wn rfl) (ev_idxS (hb_1.mono l2) hy2 tu36 ts60 rfl rfl) F rfl rfl ?_; clear F a; intro a F
     have hp4 := PtrC.field hp3 0 1 (lb rfl)
     have hp4 : PtrC g2 (addP (elemP vb_1 x1 3) 0) [.i6 y2.At] := hp4
     refine wq_ev (wn rfl) (ev_fieldAddr' tu60 tf60_0 (z := 0) ts3 rfl hp3.ptr rfl) F rfl rfl ?_; clear F a; intro a F
     refine wq_ev (wn rfl) (ev_load1 tu3 rfl rfl (ptr_mono (cks := [[bx b2 #[vb_1] 38], [bx b1 #[va_1] 38]]) (fr := fr) hp4 (Le.refl _))) F rfl rfl ?_; clear F a; intro a F
     refine wq_ev (wn rfl) (ev_int rfl rfl (bo_neq _ _ _ _)) F rfl rfl ?_; clear F a; intro a F
     refine wq_ev (wn rfl) (ev_move rfl) F rfl rfl ?_; clear F a; intro a F
     obtain ⟨x3, hx2, hm⟩ := bind_some hm
     refine wq_cut 15 (fun a => Fr 65 a [(48, .bool x3), (5, .i6 x1), (3, bp b2 0), (2, bp b1 0)]) ?_ ?_
     ·clear hm; obtain ⟨hc3, hm⟩ | ⟨hc3, hm⟩ := ite_or hx2
      ·refine wq_skip rfl rfl rfl rfl (ne_ft hc3) F rfl rfl ?_; clear F a; intro a F
       refine wq_skip rfl rfl rfl rfl (ne_ft hc3) F rfl rfl ?_; clear F a; intro a F
       refine wq_skip rfl rfl rfl rfl (ne_ft hc3) F rfl rfl ?_; clear F a; intro a F
       refine wq_skip rfl rfl rfl rfl (ne_ft hc3) F rfl rfl ?_; clear F a; intro a F
       refine wq_skip rfl rfl rfl rfl (ne_ft hc3) F rfl rfl ?_; clear F a; intro a F
       refine wq_skip rfl rfl rfl rfl (ne_ft hc3) F rfl rfl ?_; clear F a; intro a F
       refine wq_skip rfl rfl rfl rfl (ne_ft hc3) F rfl rfl ?_; clear F a; intro a F
       refine wq_skip rfl rfl rfl rfl (ne_ft hc3) F rfl rfl ?_; clear F a; intro a F
       refine wq_skip rfl rfl rfl rfl (ne_ft hc3) F rfl rfl ?_; clear F a; intro a F
       refine wq_skip rfl rfl rfl rfl (ne_ft hc3) F rfl rfl ?_; clear F a; intro a F
       refine wq_skip rfl rfl rfl rfl (ne_ft hc3) F rfl rfl ?_; clear F a; intro a F
       refine wq_skip rfl rfl rfl rfl (ne_ft hc3) F rfl rfl ?_; clear F a; intro a F
       refine wq_skip rfl rfl rfl rfl (ne_ft hc3) F rfl rfl ?_; clear F a; intro a F
       refine wq_skip rfl rfl rfl rfl (ne_ft hc3) F rfl rfl ?_; clear F a; intro a F
       refine wq_ev (wn rfl) (ev_pickT rfl hc3 rfl) F rfl rfl ?_; clear F a; intro a F
       obtain rfl := sinj hm
       refine wq_nil ?_; exact F.sub ⟨rfl, rfl, rfl, rfl, trivial⟩
      ·refine wq_ev (wg F rfl rfl rfl rfl hc3) (ev_fieldAddr' tu38 tf38_0 (z := 0) ts36 rfl ⟨_, rfl⟩ rfl) F rfl rfl ?_; clear F a; intro a F
       refine wq_ev (wg F rfl rfl rfl rfl hc3) (ev_load1 tu36 rfl rfl (box_ptr (cells := [va_1]) 1 rfl 0 rfl (lb rfl))) F rfl rfl ?_; clear F a; intro a F
       refine wq_ev (wg F rfl rfl rfl rfl hc3) (ev_move rfl) F rfl rfl ?_; clear F a; intro a F
       obtain ⟨y3, hy3, hm⟩ := bind_some hm
       obtain ⟨cs3, hr4, hp5⟩ := elemS (ha_1.mono l2) hy3
       obtain ⟨v5, v6, rfl, h5, h6⟩ := rep_Hunk hr4
       refine wq_ev (wg F rfl rfl rfl rfl hc3) (ev_idxS (ha_1.mono l2) hy3 tu36 ts60 rfl rfl) F rfl rfl ?_; clear F a; intro a F
       have hp6 := PtrC.field hp5 1 1 (lb rfl)
       have hp6 : PtrC g2 (addP (elemP va_1 x1 3) 1) [v5] := hp6
       refine wq_ev (wg F rfl rfl rfl rfl hc3) (ev_fieldAddr' tu60 tf60_1 (z := 0) ts31 rfl hp5.ptr rfl) F rfl rfl ?_; clear F a; intro a F
       refine wq_ev (wg F rfl rfl rfl rfl hc3) (ev_load1 tu31 rfl rfl (ptr_mono (cks := [[bx b2 #[vb_1] 38], [bx b1 #[va_1] 38]]) (fr := fr) hp6 (Le.refl _))) F rfl rfl ?_; clear F a; intro a F
       refine wq_ev (wg F rfl rfl rfl rfl hc3) (ev_fieldAddr' tu38 tf38_0 (z := 0) ts36 rfl ⟨_, rfl⟩ rfl) F rfl rfl ?_; clear F a; intro a F
       refine wq_ev (wg F rfl rfl rfl rfl hc3) (ev_load1 tu36 rfl rfl (box_ptr (cells := [vb_1]) 0 rfl 0 rfl (lb rfl))) F rfl rfl ?_; clear F a; intro a F
       refine wq_ev (wg F rfl rfl rfl rfl hc3) (ev_move rfl) F rfl rfl ?_; clear F a; intro a F
       obtain ⟨y4, hy4, hm⟩ := bind_some hm
       obtain ⟨cs4, hr5, hp7⟩ := elemS (hb_1.mono l2) hy4
       obtain ⟨v7, v8, rfl, h7, h8⟩ := rep_Hunk hr5
       refine wq_ev (wg F rfl rfl rfl rfl hc3) (ev_idxS (hb_1.mono l2) hy4 tu36 ts60 rfl rfl) F rfl rfl ?_; clear F a; intro a F
       have hp8 := PtrC.field hp7 1 1 (lb rfl)
       have hp8 : PtrC g2 (addP (elemP vb_1 x1 3) 1) [v7] := hp8
       refine wq_ev (wg F rfl rfl rfl rfl hc3) (ev_fieldAddr' tu60 tf60_1 (z := 0) ts31 rfl hp7.ptr rfl) F rfl rfl ?_; clear F a; intro a F
       refine wq_ev (wg F rfl rfl rfl rfl hc3) (ev_load1 tu31 rfl rfl (ptr_mono (cks := [[bx b2 #[vb_1] 38], [bx b1 #[va_1] 38]]) (fr := fr) hp8 (Le.refl _))) F rfl rfl ?_; clear F a; intro a F
       obtain ⟨y5, hy5, hm⟩ := bind_some hm
       refine wq_call (wg F rfl rfl rfl rfl hc3) rfl (xs := [.tmp 39, .tmp 45]) (vs := [v5, v7]) (cap := []) F rfl rfl tc17 (v := .bool y5) (fun w S => (changeforgeequal_Strings_ok (g := g2) (fr := (fl [[bx b2 #[vb_1] 38], [bx b1 #[va_1] 38]] fr)) (w := w) y3.Old v5 h5 y4.Old v7 h7 S hy5).mono (by rintro en w' ⟨_, rfl, g2, l2, S2, rfl⟩; exact ⟨rfl, S2.weak l2⟩)) rfl rfl ?_; clear F a; intro a F
       refine wq_ev (wg F rfl rfl rfl rfl hc3) (ev_not rfl) F rfl rfl ?_; clear F a; intro a F
       refine wq_ev (wn rfl) (ev_pickF rfl hc3 rfl) F rfl rfl ?_; clear F a; intro a F
       obtain rfl := sinj hm
       refine wq_nil ?_; exact F.sub ⟨rfl, rfl, rfl, rfl, trivial⟩
     clear F; intro a F
     refine wq_ev (wn rfl) (ev_move rfl) F rfl rfl ?_; clear F a; intro a F
     obtain ⟨x4, hx3, hm⟩ := bind_some hm
     refine wq_cut 15 (fun a => Fr 65 a [(64, .bool x4), (5, .i6 x1), (3, bp b2 0), (2, bp b1 0)]) ?_ ?_
     ·clear hm; obtain ⟨hc4, hm⟩ | ⟨hc4, hm⟩ := ite_or hx3
      ·refine wq_skip rfl rfl rfl rfl (ne_ft hc4) F rfl rfl ?_; clear F a; intro a F
       refine wq_skip rfl rfl rfl rfl (ne_ft hc4) F rfl rfl ?_; clear F a; intro a F
       refine wq_skip rfl rfl rfl rfl (ne_ft hc4) F rfl rfl ?_; clear F a; intro a F
       refine wq_skip rfl rfl rfl rfl (ne_ft hc4) F rfl rfl ?_; clear F a; intro a F
       refine wq_skip rfl rfl rfl rfl (ne_ft hc4) F rfl rfl ?_; clear F a; intro a F
       refine wq_skip rfl rfl rfl rfl (ne_ft hc4) F rfl rfl ?_; clear F a; intro a F
       refine wq_skip rfl rfl rfl rfl (ne_ft hc4) F rfl rfl ?_; clear F a; intro a F
       refine wq_skip rfl rfl rfl rfl (ne_ft hc4) F rfl rfl ?_; clear F a; intro a F
       refine wq_skip rfl rfl rfl rfl (ne_ft hc4) F rfl rfl ?_; clear F a; intro a F
       refine wq_skip rfl rfl rfl rfl (ne_ft hc4) F rfl rfl ?_; clear F a; intro a F
       refine wq_skip rfl rfl rfl rfl (ne_ft hc4) F rfl rfl ?_; clear F a; intro a F
       refine wq_skip rfl rfl rfl rfl (ne_ft hc4) F rfl rfl ?_; clear F a; intro a F
       refine wq_skip rfl rfl rfl rfl (ne_ft hc4) F rfl rfl ?_; clear F a; intro a F
       refine wq_skip rfl rfl rfl rfl (ne_ft hc4) F rfl rfl ?_; clear F a; intro a F
       refine wq_ev (wn rfl) (ev_pickT rfl hc4 rfl) F rfl rfl ?_; clear F a; intro a F
       obtain rfl := sinj hm
       refine wq_nil ?_; exact F.sub ⟨rfl, rfl, rfl, rfl, trivial⟩
      ·refine wq_ev (wg F rfl rfl rfl rfl hc4) (ev_fieldAddr' tu38 tf38_0 (z := 0) ts36 rfl ⟨_, rfl⟩ rfl) F rfl rfl ?_; clear F a; intro a F
       refine wq_ev (wg F rfl rfl rfl rfl hc4) (ev_load1 tu36 rfl rfl (box_ptr (cells := [va_1]) 1 rfl 0 rfl (lb rfl))) F rfl rfl ?_; clear F a; intro a F
       refine wq_ev (wg F rfl rfl rfl rfl hc4) (ev_move rfl) F rfl rfl ?_; clear F a; intro a F
       obtain ⟨y6, hy6, hm⟩ := bind_some hm
       obtain ⟨cs5, hr6, hp9⟩ := elemS (ha_1.mono l2) hy6
       obtain ⟨v9, v10, rfl, h9, h10⟩ := rep_Hunk hr6
       refine wq_ev (wg F rfl rfl rfl rfl hc4) (ev_idxS (ha_1.mono l2) hy6 tu36 ts60 rfl rfl) F rfl rfl ?_; clear F a; intro a F
       have hp10 := PtrC.field hp9 2 1 (lb rfl)
       have hp10 : PtrC g2 (addP (elemP va_1 x1 3) 2) [v10] := hp10
       refine wq_ev (wg F rfl rfl rfl rfl hc4) (ev_fieldAddr' tu60 tf60_2 (z := 0) ts31 rfl hp9.ptr rfl) F rfl rfl ?_; clear F a; intro a F
       refine wq_ev (wg F rfl rfl rfl rfl hc4) (ev_load1 tu31 rfl rfl (ptr_mono (cks := [[bx b2 #[vb_1] 38], [bx b1 #[va_1] 38]]) (fr := fr) hp10 (Le.refl _))) F rfl rfl ?_; clear F a; intro a F
       refine wq_ev (wg F rfl rfl rfl rfl hc4) (ev_fieldAddr' tu38 tf38_0 (z := 0) ts36 rfl ⟨_, rfl⟩ rfl) F rfl rfl ?_; clear F a; intro a F
       refine wq_ev (wg F rfl rfl rfl rfl hc4) (ev_load1 tu36 rfl rfl (box_ptr (cells := [vb_1]) 0 rfl 0 rfl (lb rfl))) F rfl rfl ?_; clear F a; intro a F
       refine wq_ev (wg F rfl rfl rfl rfl hc4) (ev_move rfl) F rfl rfl ?_; clear F a; intro a F
       obtain ⟨y7, hy7, hm⟩ := bind_some hm
       obtain ⟨cs6, hr7, hp11⟩ := elemS (hb_1.mono l2) hy7
       obtain ⟨v11, v12, rfl, h11, h12⟩ := rep_Hunk hr7
       refine wq_ev (wg F rfl rfl rfl rfl hc4) (ev_idxS (hb_1.mono l2) hy7 tu36 ts60 rfl rfl) F rfl rfl ?_; clear F a; intro a F
       have hp12 := PtrC.field hp11 2 1 (lb rfl)
       have hp12 : PtrC g2 (addP (elemP vb_1 x1 3) 2) [v12] := hp12
       refine wq_ev (wg F rfl rfl rfl rfl hc4) (ev_fieldAddr' tu60 tf60_2 (z := 0) ts31 rfl hp11.ptr rfl) F rfl rfl ?_; clear F a; intro a F
       refine wq_ev (wg F rfl rfl rfl rfl hc4) (ev_load1 tu31 rfl rfl (ptr_mono (cks := [[bx b2 #[vb_1] 38], [bx b1 #[va_1] 38]]) (fr := fr) hp12 (Le.refl _))) F rfl rfl ?_; clear F a; intro a F
       obtain ⟨y8, hy8, hm⟩ := bind_some hm
       refine wq_call (wg F rfl rfl rfl rfl hc4) rfl (xs := [.tmp 55, .tmp 61]) (vs := [v10, v12]) (cap := []) F rfl rfl tc17 (v := .bool y8) (fun w S => (changeforgeequal_Strings_ok (g := g2) (fr := (fl [[bx b2 #[vb_1] 38], [bx b1 #[va_1] 38]] fr)) (w := w) y6.New v10 h10 y7.New v12 h12 S hy8).mono (by rintro en w' ⟨_, rfl, g2, l2, S2, rfl⟩; exact ⟨rfl, S2.weak l2⟩)) rfl rfl ?_; clear F a; intro a F
       refine wq_ev (wg F rfl rfl rfl rfl hc4) (ev_not rfl) F rfl rfl ?_; clear F a; intro a F
       refine wq_ev (wn rfl) (ev_pickF rfl hc4 rfl) F rfl rfl ?_; clear F a; intro a F
       obtain rfl := sinj hm
       refine wq_nil ?_; exact F.sub ⟨rfl, rfl, rfl, rfl, trivial⟩
     clear F; intro a F
     refine wq_nil ?_; clear S; intro w S
     refine then_n ?_
     obtain ⟨hc5, hm⟩ | ⟨hc5, hm⟩ := ite_or hm
     ·refine wp_condT F rfl hc5 ?_
      refine wp_seq ?_
      refine wp_region_lit ?_
      refine wE (ev_assign rfl) F S rfl fun a F=>?_
      refine wpList_nil ?_
      refine then_n ?_
      refine wp_ret ?_
      refine inb_r ?_
      refine then_r ?_
      refine then_r ?_
      refine inb_r ?_
      refine then_r ?_
      obtain rfl := sinj hm
      obtain rfl := hfin1 _ rfl
      clear hm
      have hm : (some false : Option Bool) = some _ := hmo1
      obtain rfl := sinj hm
      refine post_r _ F rfl (ar_cons (resT rfl) ar_nil) ?_
      replace S : St g2 [] fr w := St.tail [] _ S
      exact ⟨_, rfl, g2, l2, S, rfl⟩
     ·refine wp_condF F rfl hc5 ?_
      refine wp_skip ?_
      refine inb_n ?_
      refine then_n ?_
      refine wp_region_lit ?_
      refine wE (ev_move rfl) F S rfl fun a F=>?_
      obtain ⟨z1, hz1, hm⟩ := bind_some hm
      refine wE (ev_int rfl rfl (bo_add hz1)) F S rfl fun a F=>?_
      refine wE (ev_assign rfl) F S rfl fun a F=>?_
      refine wpList_nil ?_
      refine then_n ?_
      obtain rfl := sinj hm
      refine ⟨_, rfl, ?_⟩
      exact ⟨g2, F.sub ⟨rfl, rfl, rfl, trivial⟩, l2, S⟩
    ·refine wp_condF F rfl hc2 ?_
     refine wp_exit ?_
     refine then_e ?_
     refine then_e ?_
     refine inb_x ?_
     refine then_n ?_
     obtain rfl := sinj hm
     obtain rfl := hfin1 _ rfl
     clear hm
     have hm : (changeforgeequal_Patch.j1 : Option Bool) = some _ := hmo1
     replace S : St g2 [] fr w := St.tail [] _ S
     exact ⟨g2, F.sub trivial, l2, S, hm⟩
  ·clear F S hm; rintro a w ⟨g1, F, l1, S, hm⟩
   refine wp_seq ?_
   refine wp_region_lit ?_
   refine wE (ev_assign rfl) F S rfl fun a F=>?_
   refine wpList_nil ?_
   refine then_n ?_
   refine wp_ret ?_
   obtain rfl := sinj hm
   refine post_r _ F rfl (ar_cons (resT rfl) ar_nil) ?_
   exact ⟨_, rfl, g1, l1, S, rfl⟩

theorem changeforgeequal_Patches_ok {g : Gh} {fr : Hl} {w : World} {r : Bool} (a_ : (List Patch)) (va_1 : Value) (ha_1 : RepSl g a_ va_1) (b_ : (List Patch)) (vb_1 : Value) (hb_1 : RepSl g b_ vb_1) (S : St g [] fr w) (hm : changeforgeequal_Patches a_ b_ = some r) :
  Calls Try.prog 14 [va_1, vb_1].toArray w (fun en w' => ∃ v, en = .returned v ∧ ∃ (g' : Gh), Le g g' ∧ St g' [] fr w' ∧ .bool r = v) := by
 unfold changeforgeequal_Patches at hm
 refine calls_enter (fn := Try.f14) Try.func14 rfl Try.ntmps14 (lb rfl) ?_
 intro a F
 replace F : Fr 27 a [(0, va_1), (1, vb_1)] := F
 refine wp_seq ?_
 refine wp_region_lit ?_
 refine wE (ev_assign rfl) F S rfl fun a F=>?_
 refine wpList_nil ?_
 refine then_n ?_
 refine wp_seq ?_
 refine wp_seq ?_
 refine wp_region_lit ?_
 refine wE (ev_move rfl) F S rfl fun a F=>?_
 refine wE (ev_lenSh ha_1 rfl tu22) F S rfl fun a F=>?_
 refine wE (ev_move rfl) F S rfl fun a F=>?_
 refine wE (ev_lenSh hb_1 rfl tu22) F S rfl fun a F=>?_
 refine wE (ev_int rfl rfl (bo_neq _ _ _ _)) F S rfl fun a F=>?_
 refine wpList_nil ?_
 refine then_n ?_
 obtain ⟨hc1, hm⟩ | ⟨hc1, hm⟩ := ite_or hm
 ·refine wp_condT F rfl hc1 ?_
  refine wp_seq ?_
  refine wp_region_lit ?_
  refine wE (ev_assign rfl) F S rfl fun a F=>?_
  refine wpList_nil ?_
  refine then_n ?_
  refine wp_ret ?_
  refine then_r ?_
  obtain rfl := sinj hm
  refine post_r _ F rfl (ar_cons (resT rfl) ar_nil) ?_
  exact ⟨_, rfl, g, (Le.refl _), S, rfl⟩
 ·refine wp_condF F rfl hc1 ?_
  refine wp_skip ?_
  refine then_n ?_
  refine wp_cut (fun a w => ∃ (g1 : Gh), Fr 27 a [] ∧ Le g g1 ∧ St g1 [] fr w ∧ changeforgeequal_Patches.j1 = some r) ?_ ?_
  ·refine wp_seq ?_
   refine wp_region_lit ?_
   refine wE (ev_assign rfl) F S rfl fun a F=>?_
   refine wpList_nil ?_
   refine then_n ?_
   refine wp_block ?_
   obtain ⟨r1, hr1, hm⟩ := bind_some hm
   have hmo1 := hm; clear hm
   refine wp_iter (σ := Int) (ρ := Bool ⊕ Unit) (m := fun s => changeforgeequal_Patches.l1 a_ b_ s) (I := fun x1 a w => ∃ (g2 : Gh), Fr 27 a [(5, .i6 x1), (0, va_1), (1, vb_1)] ∧ Le g g2 ∧ St g2 [] fr w) hr1 ?_ ?_
   ·exact ⟨g, F.sub ⟨rfl, rfl, rfl, trivial⟩, (Le.refl _), S⟩
   ·clear F S; rintro x1 a w x2 ⟨g2, F, l2, S⟩ hx1 hfin1
    have hm : changeforgeequal_Patches.l1 a_ b_ x1 = some x2 := hx1; clear hx1
    unfold changeforgeequal_Patches.l1 at hm
    refine wp_seq ?_
    refine wp_seq ?_
    refine wp_region_lit ?_
    refine wE (ev_move rfl) F S rfl fun a F=>?_
    refine wE (ev_move rfl) F S rfl fun a F=>?_
    refine wE (ev_lenSh ha_1 rfl tu22) F S rfl fun a F=>?_
    refine wE (ev_int rfl rfl (bo_lss _ _ _ _)) F S rfl fun a F=>?_
    refine wpList_nil ?_
    refine then_n ?_
    obtain ⟨hc2, hm⟩ | ⟨hc2, hm⟩ := ite_or hm
    ·refine wp_condT F rfl hc2 ?_
     refine wp_skip ?_
     refine then_n ?_
     refine wp_seq ?_
     refine wp_block ?_
     refine wp_seq ?_
     refine wp_quiet mo (by kernel_rfl) S ?_
     refine wq_ev (wn rfl) (ev_move rfl) F rfl rfl ?_; clear F a; intro a F
     refine wq_ev (wn rfl) (ev_move rfl) F rfl rfl ?_; clear F a; intro a F
     obtain ⟨y1, hy1, hm⟩ := bind_some hm
     obtain ⟨cs1, hr2, hp1⟩ := elemS (ha_1.mono l2) hy1
     obtain ⟨v1, rfl, h1⟩ := rep_Patch hr2
     refine wq_ev (wn rfl) (ev_idxS (ha_1.mono l2) hy1 tu22 ts38 rfl rfl) F rfl rfl ?_; clear F a; intro a F
     refine wq_ev (wn rfl) (ev_loadA tu38 rfl (cs := [v1]) ts38 rfl (ptr_mono (cks := []) (fr := fr) hp1 (Le.refl _))) F rfl rfl ?_; clear F a; intro a F
     refine wq_ev (wn rfl) (ev_move rfl) F rfl rfl ?_; clear F a; intro a F
     refine wq_ev (wn rfl) (ev_move rfl) F rfl rfl ?_; clear F a; intro a F
     obtain ⟨y2, hy2, hm⟩ := bind_some hm
     obtain ⟨cs2, hr3, hp2⟩ := elemS (hb_1.mono l2) hy2
     obtain ⟨v2, rfl, h2⟩ := rep_Patch hr3
     refine wq_ev (wn rfl) (ev_idxS (hb_1.mono l2) hy2 tu22 ts38 rfl rfl) F rfl rfl ?_; clear F a; intro a F
     refine wq_ev (wn rfl) (ev_loadA tu38 rfl (cs := [v2]) ts38 rfl (ptr_mono (cks := []) (fr := fr) hp2 (Le.refl _))) F rfl rfl ?_; clear F a; intro a F
     obtain ⟨y3, hy3, hm⟩ := bind_some hm
     refine wq_call (wn rfl) rfl (xs := [.tmp 20, .tmp 24]) (vs := [.agg #[v1], .agg #[v2]]) (cap := []) F rfl rfl tc28 (v := .bool y3) (fun w S => (changeforgeequal_Patch_ok (g := g2) (fr := fr) (w := w) y1 v1 h1 y2 v2 h2 S hy3).mono (by rintro en w' ⟨_, rfl, g2, l2, S2, rfl⟩; exact ⟨rfl, S2.weak l2⟩)) rfl rfl ?_; clear F a; intro a F
     refine wq_ev (wn rfl) (ev_not rfl) F rfl rfl ?_; clear F a; intro a F
     refine wq_nil ?_; clear S; intro w S
     refine then_n ?_
     obtain ⟨hc3, hm⟩ | ⟨hc3, hm⟩ := ite_or hm
     ·refine wp_condT F rfl hc3 ?_
      refine wp_seq ?_
      refine wp_region_lit ?_
      refine wE (ev_assign rfl) F S rfl fun a F=>?_
      refine wpList_nil ?_
      refine then_n ?_
      refine wp_ret ?_
      refine inb_r ?_
      refine then_r ?_
      refine then_r ?_
      refine inb_r ?_
      refine then_r ?_
      obtain rfl := sinj hm
      obtain rfl := hfin1 _ rfl
      clear hm
      have hm : (some false : Option Bool) = some _ := hmo1
      obtain rfl := sinj hm
      refine post_r _ F rfl (ar_cons (resT rfl) ar_nil) ?_
      exact ⟨_, rfl, g2, l2, S, rfl⟩
     ·refine wp_condF F rfl hc3 ?_
      refine wp_skip ?_
      refine inb_n ?_
      refine then_n ?_
      refine wp_region_lit ?_
      refine wE (ev_move rfl) F S rfl fun a F=>?_
      obtain ⟨z1, hz1, hm⟩ := bind_some hm
      refine wE (ev_int rfl rfl (bo_add hz1)) F S rfl fun a F=>?_
      refine wE (ev_assign rfl) F S rfl fun a F=>?_
      refine wpList_nil ?_
      refine then_n ?_
      obtain rfl := sinj hm
      refine ⟨_, rfl, ?_⟩
      exact ⟨g2, F.sub ⟨rfl, rfl, rfl, trivial⟩, l2, S⟩
    ·refine wp_condF F rfl hc2 ?_
     refine wp_exit ?_
     refine then_e ?_
     refine then_e ?_
     refine inb_x ?_
     refine then_n ?_
     obtain rfl := sinj hm
     obtain rfl := hfin1 _ rfl
     clear hm
     have hm : (changeforgeequal_Patches.j1 : Option Bool) = some _ := hmo1
     exact ⟨g2, F.sub trivial, l2, S, hm⟩
  ·clear F S hm; rintro a w ⟨g1, F, l1, S, hm⟩
   refine wp_seq ?_
   refine wp_region_lit ?_
   refine wE (ev_assign rfl) F S rfl fun a F=>?_
   refine wpList_nil ?_
   refine then_n ?_
   refine wp_ret ?_
   obtain rfl := sinj hm
   refine post_r _ F rfl (ar_cons (resT rfl) ar_nil) ?_
   exact ⟨_, rfl, g1, l1, S, rfl⟩

theorem lines_Second_ok {g : Gh} {fr : Hl} {w : World} {r : Fault} (b_ : (List ByteArray)) (vb_1 : Value) (hb_1 : RepSl g b_ vb_1) (index : Int) (S : St g [] fr w) (hm : lines_Second b_ index = some r) :
  Calls Try.prog 30 [vb_1, .i6 index].toArray w (fun en w' => ∃ v, en = .returned v ∧ ∃ (g' : Gh), Le g g' ∧ St g' [] fr w' ∧ .agg #[.i6 r.Code, .i6 r.Index] = v) := by
 unfold lines_Second at hm
 refine calls_enter (fn := Try.f30) Try.func30 rfl Try.ntmps30 (lb rfl) ?_
 intro a F
 replace F : Fr 16 a [(0, vb_1), (1, .i6 index)] := F
 refine wp_seq ?_
 refine wp_region_lit ?_
 refine wl_alloc (wn rfl) rfl tz24 (cs := [.i6 0, .i6 0]) rfl F S rfl rfl ?_; clear F a S; rintro b1 a w F S
 refine wpList_nil ?_
 refine then_n ?_
 refine wp_seq ?_
 refine wp_seq ?_
 refine wp_region_lit ?_
 refine wE (ev_move rfl) F S rfl fun a F=>?_
 obtain ⟨y1, hy1, hm⟩ := bind_some hm
 refine wl_call0 (wn rfl) rfl F rfl (lines_Validate_ok (fr := (fl [[bx b1 #[.i6 0, .i6 0] 24]] fr)) b_ vb_1 hb_1 S hy1) rfl tc48 rfl rfl ?_; clear F a S
 rintro _ a w ⟨g1, l1, S, rfl⟩ F; replace S : St g1 [[bx b1 #[.i6 0, .i6 0] 24]] fr w := S
 refine wl_alloc (wn rfl) rfl tz24 (cs := [.i6 0, .i6 0]) rfl F S rfl rfl ?_; clear F a S; rintro b2 a w F S
 refine wl_storeC (wn rfl) rfl F S rfl rfl (vs := [.i6 y1.Code, .i6 y1.Index]) rfl ts24 (one_cons rfl (one_cons rfl one_nil)) (k := 0) rfl (lb rfl) (c' := #[.i6 y1.Code, .i6 y1.Index]) rfl rfl ?_; clear S; intro w S
 refine wpList_nil ?_
 refine then_n ?_
 refine wp_seq ?_
 refine wp_region_lit ?_
 refine wE (ev_loadA tu24 rfl (cs := [.i6 y1.Code, .i6 y1.Index]) ts24 rfl (box_ptr (cells := [.i6 y1.Code, .i6 y1.Index]) 0 rfl 0 rfl (lb rfl))) F S rfl fun a F=>?_
 refine wE (ev_build (parts := []) (vs := []) rfl (fun w => tb24_  w)) F S rfl fun a F=>?_
 refine wE (ev_neS tu24 tqa24 tqb24 tqc24 (xs := [.i6 y1.Code, .i6 y1.Index]) (ys := [.i6 0, .i6 0]) rfl rfl ⟨_, _, rfl, by decide, ⟨_, _, rfl, rfl, leaf_int tu3⟩, ⟨_, _, rfl, by decide, ⟨_, _, rfl, rfl, leaf_int tu3⟩, rfl⟩⟩) F S rfl fun a F=>?_
 refine wpList_nil ?_
 refine then_n ?_
 obtain ⟨hc1, hm⟩ | ⟨hc1, hm⟩ := ite_or hm
 ·refine wp_condT F rfl hc1 ?_
  refine wp_seq ?_
  refine wp_region_lit ?_
  refine wE (ev_fieldAddr' tu24 tf24_0 (z := 0) ts3 rfl ⟨_, rfl⟩ rfl) F S rfl fun a F=>?_
  refine wE (ev_load1 tu3 rfl rfl (box_ptr (cells := [.i6 y1.Code]) 0 rfl 0 rfl (lb rfl))) F S rfl fun a F=>?_
  refine wE (ev_move rfl) F S rfl fun a F=>?_
  refine wE (ev_build (parts := [(0, .tmp 12), (1, .tmp 13)]) (vs := [(0, .i6 y1.Code), (1, .i6 index)]) rfl (fun w => tb24_0_1 y1.Code index w)) F S rfl fun a F=>?_
  refine wl_storeC (wn rfl) rfl F S rfl rfl (vs := [.i6 y1.Code, .i6 index]) rfl ts24 (one_cons rfl (one_cons rfl one_nil)) (k := 1) rfl (lb rfl) (c' := #[.i6 y1.Code, .i6 index]) rfl rfl ?_; clear S; intro w S
  refine wpList_nil ?_
  refine then_n ?_
  refine wp_ret ?_
  refine then_r ?_
  obtain rfl := sinj hm
  refine post_r _ F rfl (ar_cons (resA rfl tu24 rfl (box_ptr (cells := [.i6 y1.Code, .i6 index]) 1 rfl 0 rfl (lb rfl) w S) ts24) ar_nil) ?_
  replace S : St g1 [] fr w := St.tail [] _ S
  exact ⟨_, rfl, g1, l1, S, rfl⟩
 ·refine wp_condF F rfl hc1 ?_
  refine wp_skip ?_
  refine then_n ?_
  refine wp_seq ?_
  refine wp_region_lit ?_
  refine wE (ev_build (parts := []) (vs := []) rfl (fun w => tb24_  w)) F S rfl fun a F=>?_
  refine wl_storeC (wn rfl) rfl F S rfl rfl (vs := [.i6 0, .i6 0]) rfl ts24 (one_cons rfl (one_cons rfl one_nil)) (k := 1) rfl (lb rfl) (c' := #[.i6 0, .i6 0]) rfl rfl ?_; clear S; intro w S
  refine wpList_nil ?_
  refine then_n ?_
  refine wp_ret ?_
  obtain rfl := sinj hm
  refine post_r _ F rfl (ar_cons (resA rfl tu24 rfl (box_ptr (cells := [.i6 0, .i6 0]) 1 rfl 0 rfl (lb rfl) w S) ts24) ar_nil) ?_
  replace S : St g1 [] fr w := St.tail [] _ S
  exact ⟨_, rfl, g1, l1, S, rfl⟩

theorem slices_Equal_ok {g : Gh} {fr : Hl} {w : World} {r : Bool} (s1_ : (List ByteArray)) (vs1_1 : Value) (hs1_1 : RepSl g s1_ vs1_1) (s2_ : (List ByteArray)) (vs2_1 : Value) (hs2_1 : RepSl g s2_ vs2_1) (S : St g [] fr w) (hm : slices_Equal s1_ s2_ = some r) :
  Calls Try.prog 54 [vs1_1, vs2_1].toArray w (fun en w' => ∃ v, en = .returned v ∧ ∃ (g' : Gh), Le g g' ∧ St g' [] fr w' ∧ .bool r = v) := by
 unfold slices_Equal at hm
 refine calls_enter (fn := Try.f54) Try.func54 rfl Try.ntmps54 (lb rfl) ?_
 intro a F
 replace F : Fr 26 a [(0, vs1_1), (1, vs2_1)] := F
 refine wp_seq ?_
 refine wp_region_lit ?_
 refine wE (ev_assign rfl) F S rfl fun a F=>?_
 refine wpList_nil ?_
 refine then_n ?_
 refine wp_seq ?_
 refine wp_seq ?_
 refine wp_region_lit ?_
 refine wE (ev_move rfl) F S rfl fun a F=>?_
 refine wE (ev_lenSh hs1_1 rfl tu31) F S rfl fun a F=>?_
 refine wE (ev_move rfl) F S rfl fun a F=>?_
 refine wE (ev_lenSh hs2_1 rfl tu31) F S rfl fun a F=>?_
 refine wE (ev_int rfl rfl (bo_neq _ _ _ _)) F S rfl fun a F=>?_
 refine wpList_nil ?_
 refine then_n ?_
 obtain ⟨hc1, hm⟩ | ⟨hc1, hm⟩ := ite_or hm
 ·refine wp_condT F rfl hc1 ?_
  refine wp_seq ?_
  refine wp_region_lit ?_
  refine wE (ev_assign rfl) F S rfl fun a F=>?_
  refine wpList_nil ?_
  refine then_n ?_
  refine wp_ret ?_
  refine then_r ?_
  obtain rfl := sinj hm
  refine post_r _ F rfl (ar_cons (resT rfl) ar_nil) ?_
  exact ⟨_, rfl, g, (Le.refl _), S, rfl⟩
 ·refine wp_condF F rfl hc1 ?_
  refine wp_skip ?_
  refine then_n ?_
  refine wp_cut (fun a w => ∃ (g1 : Gh), Fr 26 a [] ∧ Le g g1 ∧ St g1 [] fr w ∧ slices_Equal.j1 = some r) ?_ ?_
  ·refine wp_seq ?_
   refine wp_region_lit ?_
   refine wE (ev_move rfl) F S rfl fun a F=>?_
   refine wE (ev_lenSh hs1_1 rfl tu31) F S rfl fun a F=>?_
   refine wE (ev_move rfl) F S rfl fun a F=>?_
   refine wpList_nil ?_
   refine then_n ?_
   refine wp_block ?_
   obtain ⟨r1, hr1, hm⟩ := bind_some hm
   have hmo1 := hm; clear hm
   refine wp_iter (σ := Int) (ρ := Bool ⊕ Unit) (m := fun s => slices_Equal.l1 s1_ s2_ s) (I := fun x1 a w => ∃ (g2 : Gh), Fr 26 a [(13, .i6 x1), (12, .i6 (s1_.length : Int)), (0, vs1_1), (1, vs2_1)] ∧ Le g g2 ∧ St g2 [] fr w) hr1 ?_ ?_
   ·exact ⟨g, F.sub ⟨rfl, rfl, rfl, rfl, trivial⟩, (Le.refl _), S⟩
   ·clear F S; rintro x1 a w x2 ⟨g2, F, l2, S⟩ hx1 hfin1
    have hm : slices_Equal.l1 s1_ s2_ x1 = some x2 := hx1; clear hx1
    unfold slices_Equal.l1 at hm
    refine wp_seq ?_
    refine wp_region_lit ?_
    refine wE (ev_int rfl rfl (bo_lss _ _ _ _)) F S rfl fun a F=>?_
    refine wpList_nil ?_
    refine then_n ?_
    refine wp_seq ?_
    obtain ⟨hc2, hm⟩ | ⟨hc2, hm⟩ := ite_or hm
    ·refine wp_condT F rfl hc2 ?_
     refine wp_skip ?_
     refine then_n ?_
     refine wp_seq ?_
     refine wp_block ?_
     refine wp_seq ?_
     refine wp_region_lit ?_
     refine wE (ev_move rfl) F S rfl fun a F=>?_
     refine wE (ev_assign rfl) F S rfl fun a F=>?_
     refine wpList_nil ?_
     refine then_n ?_
     refine wp_seq ?_
     refine wp_quiet mo (by kernel_rfl) S ?_
     refine wq_ev (wn rfl) (ev_move rfl) F rfl rfl ?_; clear F a; intro a F
     refine wq_ev (wn rfl) (ev_move rfl) F rfl rfl ?_; clear F a; intro a F
     obtain ⟨y1, hy1, hm⟩ := bind_some hm
     obtain ⟨cs1, hr2, hp1⟩ := elemS (hs1_1.mono l2) hy1
     obtain rfl := rep_str hr2
     refine wq_ev (wn rfl) (ev_idxS (hs1_1.mono l2) hy1 tu31 ts9 rfl rfl) F rfl rfl ?_; clear F a; intro a F
     refine wq_ev (wn rfl) (ev_load1 tu9 rfl rfl (ptr_mono (cks := []) (fr := fr) hp1 (Le.refl _))) F rfl rfl ?_; clear F a; intro a F
     refine wq_ev (wn rfl) (ev_move rfl) F rfl rfl ?_; clear F a; intro a F
     refine wq_ev (wn rfl) (ev_move rfl) F rfl rfl ?_; clear F a; intro a F
     obtain ⟨y2, hy2, hm⟩ := bind_some hm
     obtain ⟨cs2, hr3, hp2⟩ := elemS (hs2_1.mono l2) hy2
     obtain rfl := rep_str hr3
     refine wq_ev (wn rfl) (ev_idxS (hs2_1.mono l2) hy2 tu31 ts9 rfl rfl) F rfl rfl ?_; clear F a; intro a F
     refine wq_ev (wn rfl) (ev_load1 tu9 rfl rfl (ptr_mono (cks := []) (fr := fr) hp2 (Le.refl _))) F rfl rfl ?_; clear F a; intro a F
     refine wq_ev (wn rfl) (ev_str rfl rfl (bs_neq _ _ _)) F rfl rfl ?_; clear F a; intro a F
     refine wq_nil ?_; clear S; intro w S
     refine then_n ?_
     obtain ⟨hc3, hm⟩ | ⟨hc3, hm⟩ := ite_or hm
     ·refine wp_condT F rfl hc3 ?_
      refine wp_seq ?_
      refine wp_region_lit ?_
      refine wE (ev_assign rfl) F S rfl fun a F=>?_
      refine wpList_nil ?_
      refine then_n ?_
      refine wp_ret ?_
      refine inb_r ?_
      refine then_r ?_
      refine then_r ?_
      refine inb_r ?_
      refine then_r ?_
      obtain rfl := sinj hm
      obtain rfl := hfin1 _ rfl
      clear hm
      have hm : (some false : Option Bool) = some _ := hmo1
      obtain rfl := sinj hm
      refine post_r _ F rfl (ar_cons (resT rfl) ar_nil) ?_
      exact ⟨_, rfl, g2, l2, S, rfl⟩
     ·refine wp_condF F rfl hc3 ?_
      refine wp_skip ?_
      refine inb_n ?_
      refine then_n ?_
      refine wp_region_lit ?_
      obtain ⟨z1, hz1, hm⟩ := bind_some hm
      refine wE (ev_int rfl rfl (bo_add hz1)) F S rfl fun a F=>?_
      refine wE (ev_move rfl) F S rfl fun a F=>?_
      refine wpList_nil ?_
      refine then_n ?_
      obtain rfl := sinj hm
      refine ⟨_, rfl, ?_⟩
      exact ⟨g2, F.sub ⟨rfl, rfl, rfl, rfl, trivial⟩, l2, S⟩
    ·refine wp_condF F rfl hc2 ?_
     refine wp_exit ?_
     refine then_e ?_
     refine then_e ?_
     refine inb_x ?_
     refine then_n ?_
     obtain rfl := sinj hm
     obtain rfl := hfin1 _ rfl
     clear hm
     have hm : (slices_Equal.j1 : Option Bool) = some _ := hmo1
     exact ⟨g2, F.sub trivial, l2, S, hm⟩
  ·clear F S hm; rintro a w ⟨g1, F, l1, S, hm⟩
   refine wp_seq ?_
   refine wp_region_lit ?_
   refine wE (ev_assign rfl) F S rfl fun a F=>?_
   refine wpList_nil ?_
   refine then_n ?_
   refine wp_ret ?_
   obtain rfl := sinj hm
   refine post_r _ F rfl (ar_cons (resT rfl) ar_nil) ?_
   exact ⟨_, rfl, g1, l1, S, rfl⟩
end Go.Dc
