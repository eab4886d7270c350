/- Walks: each function comes to what its model says. -/
import Derived.Test.YtibigfejalemjaaDcTab
import Derived.Test.YtibigfejalemjaaDcM
import Derived.Test.YtibigfejalemjaaDcW11
import Derived.Test.YtibigfejalemjaaDcW5
namespace Go.Dc
open Go Go.Proofs
set_option maxRecDepth 100000
set_option maxHeartbeats 4000000
set_option linter.unusedVariables false
theorem changeforgeref2_Sorted_ok {g : Gh} {fr : Hl} {w : World} {r : (List SeqOp)} (l_ : (List SeqOp)) (vl_1 : Value) (hl_1 : RepSl g l_ vl_1) (S : St g [] fr w) (hm : changeforgeref2_Sorted l_ = some r) :
  Calls Try.prog 35 [vl_1].toArray w (fun en w' => ∃ v, en = .returned v ∧ ∃ (g' : Gh) (v1 : Value) (c1 : Hl), Le g g' ∧ St g' [c1] fr w' ∧ OwnS g' r v1 c1 ∧ v1 = v) := by
 unfold changeforgeref2_Sorted at hm
 refine calls_enter (fn := Try.f35) Try.func35 rfl Try.ntmps35 (lb rfl) ?_
 intro a F
 replace F : Fr 92 a [(0, vl_1)] := F
 refine wp_seq ?_
 refine wp_region_lit ?_
 refine wE (ev_assign rfl) F S rfl fun a F=>?_
 refine wpList_nil ?_
 refine then_n ?_
 refine wp_seq ?_
 refine wp_region_lit ?_
 refine wE (ev_assign rfl) F S rfl fun a F=>?_
 refine wpList_nil ?_
 refine then_n ?_
 refine wp_cut (fun a w => ∃ (x1 : List SeqOp) (v1 : Value) (c1 : Hl) (g1 : Gh), Fr 92 a [(3, v1)] ∧ Le g g1 ∧ St g1 [c1] fr w ∧ OwnS g1 x1 v1 c1 ∧ changeforgeref2_Sorted.j1 x1 = some r) ?_ ?_
 ·refine wp_seq ?_
  refine wp_region_lit ?_
  refine wE (ev_assign rfl) F S rfl fun a F=>?_
  refine wpList_nil ?_
  refine then_n ?_
  refine wp_block ?_
  obtain ⟨r1, hr1, hm⟩ := bind_some hm
  have hmo1 := hm; clear hm
  refine wp_iter (σ := Int × (List SeqOp)) (ρ := (List SeqOp)) (m := fun s => changeforgeref2_Sorted.l1 l_ s.1 s.2) (I := fun s a w => match s with | (x2, x3) => ∃ (v2 : Value) (c2 : Hl) (g2 : Gh), Fr 92 a [(4, .i6 x2), (3, v2), (0, vl_1)] ∧ Le g g2 ∧ St g2 [c2] fr w ∧ OwnS g2 x3 v2 c2) hr1 ?_ ?_
  ·dsimp only
   replace S : St g [[]] fr w := S
   exact ⟨(nilS), [], g, F.sub ⟨rfl, rfl, rfl, trivial⟩, (Le.refl _), S, (OwnS.nil _)⟩
  ·clear F S; rintro ⟨x2, x3⟩ a w x4 ⟨v2, c2, g2, F, l2, S, h2⟩ hx1 hfin1
   have hm : changeforgeref2_Sorted.l1 l_ x2 x3 = some x4 := hx1; clear hx1
   unfold changeforgeref2_Sorted.l1 at hm
   refine wp_seq ?_
   refine wp_seq ?_
   refine wp_region_lit ?_
   refine wE (ev_move rfl) F S rfl fun a F=>?_
   refine wE (ev_move rfl) F S rfl fun a F=>?_
   refine wE (ev_lenSh hl_1 rfl tu22) F S rfl fun a F=>?_
   refine wE (ev_int rfl rfl (bo_lss _ _ _ _)) F S rfl fun a F=>?_
   refine wpList_nil ?_
   refine then_n ?_
   obtain ⟨hc1, hm⟩ | ⟨hc1, hm⟩ := ite_or hm
   ·refine wp_condT F rfl hc1 ?_
    refine wp_skip ?_
    refine then_n ?_
    refine wp_cut (fun a w => ∃ (x5 : List SeqOp) (v3 : Value) (c3 : Hl) (g3 : Gh), Fr 92 a [(3, v3), (4, .i6 x2), (0, vl_1)] ∧ Le g2 g3 ∧ St g3 [c3] fr w ∧ OwnS g3 x5 v3 c3 ∧ changeforgeref2_Sorted.j2 x2 x5 = some x4) ?_ ?_
    ·refine wp_block ?_
     refine wp_seq ?_
     refine wp_region_lit ?_
     refine wE (ev_move rfl) F S rfl fun a F=>?_
     refine wE (ev_lenOw h2 rfl tu22) F S rfl fun a F=>?_
     refine wE (ev_assign rfl) F S rfl fun a F=>?_
     refine wpList_nil ?_
     refine then_n ?_
     refine wp_cut (fun a w => ∃ (x6 : Int) (g4 : Gh), Fr 92 a [(5, .i6 x6), (4, .i6 x2), (3, v2), (0, vl_1)] ∧ Le g2 g4 ∧ St g4 [c2] fr w ∧ changeforgeref2_Sorted.j3 l_ x2 x3 x6 = some x4) ?_ ?_
     ·refine wp_block ?_
      obtain ⟨r3, hr6, hm⟩ := bind_some hm
      have hmo3 := hm; clear hm
      refine wp_iter (σ := Int) (ρ := Int) (m := fun s => changeforgeref2_Sorted.l3 l_ x2 x3 s) (I := fun x11 a w => ∃ (g7 : Gh), Fr 92 a [(5, .i6 x11), (4, .i6 x2), (3, v2), (0, vl_1)] ∧ Le g2 g7 ∧ St g7 [c2] fr w) hr6 ?_ ?_
      ·exact ⟨g2, F.sub ⟨rfl, rfl, rfl, rfl, trivial⟩, (Le.refl _), S⟩
      ·clear F S; rintro x11 a w x12 ⟨g7, F, l7, S⟩ hx3 hfin3
       have hm : changeforgeref2_Sorted.l3 l_ x2 x3 x11 = some x12 := hx3; clear hx3
       unfold changeforgeref2_Sorted.l3 at hm
       refine wp_seq ?_
       refine wp_seq ?_
       refine wp_quiet mo (by kernel_rfl) S ?_
       refine wq_ev (wn rfl) (ev_move rfl) F rfl rfl ?_; clear F a; intro a F
       refine wq_ev (wn rfl) (ev_int rfl rfl (bo_gtr _ _ _ _)) F rfl rfl ?_; clear F a; intro a F
       refine wq_ev (wn rfl) (ev_move rfl) F rfl rfl ?_; clear F a; intro a F
       obtain ⟨x13, hx4, hm⟩ := bind_some hm
       refine wq_cut 44 (fun a => Fr 92 a [(61, .bool x13), (5, .i6 x11), (4, .i6 x2), (3, v2), (0, vl_1)]) ?_ ?_
       ·clear hm; obtain ⟨hc3, hm⟩ | ⟨hc3, hm⟩ := ite_or hx4
        ·refine wq_ev (wg F rfl rfl rfl rfl hc3) (ev_move rfl) F rfl rfl ?_; clear F a; intro a F
         refine wq_ev (wg F rfl rfl rfl rfl hc3) (ev_move rfl) F rfl rfl ?_; clear F a; intro a F
         obtain ⟨y8, hy8, hm⟩ := bind_some hm
         obtain ⟨cs4, hr7, hp2⟩ := elemS (hl_1.mono (l2.trans l7)) hy8
         obtain rfl := rep_SeqOp hr7
         refine wq_ev (wg F rfl rfl rfl rfl hc3) (ev_idxS (hl_1.mono (l2.trans l7)) hy8 tu22 ts33 rfl rfl) F rfl rfl ?_; clear F a; intro a F
         have hp3 := PtrC.field hp2 2 1 (lb rfl)
         have hp3 : PtrC g7 (addP (elemP vl_1 x2 6) 2) [.i6 y8.Counter] := hp3
         refine wq_ev (wg F rfl rfl rfl rfl hc3) (ev_fieldAddr' tu33 tf33_2 (z := 0) ts3 rfl hp2.ptr rfl) F rfl rfl ?_; clear F a; intro a F
         refine wq_ev (wg F rfl rfl rfl rfl hc3) (ev_load1 tu3 rfl rfl (ptr_mono (cks := [c2]) (fr := fr) hp3 (Le.refl _))) F rfl rfl ?_; clear F a; intro a F
         refine wq_ev (wg F rfl rfl rfl rfl hc3) (ev_move rfl) F rfl rfl ?_; clear F a; intro a F
         refine wq_ev (wg F rfl rfl rfl rfl hc3) (ev_move rfl) F rfl rfl ?_; clear F a; intro a F
         obtain ⟨y9, hy9, hm⟩ := bind_some hm
         obtain ⟨cs5, hr8, hp4⟩ := elemS (hl_1.mono (l2.trans l7)) hy9
         obtain rfl := rep_SeqOp hr8
         refine wq_ev (wg F rfl rfl rfl rfl hc3) (ev_idxS (hl_1.mono (l2.trans l7)) hy9 tu22 ts33 rfl rfl) F rfl rfl ?_; clear F a; intro a F
         have hp5 := PtrC.field hp4 1 1 (lb rfl)
         have hp5 : PtrC g7 (addP (elemP vl_1 x2 6) 1) [.i6 y9.Replica] := hp5
         refine wq_ev (wg F rfl rfl rfl rfl hc3) (ev_fieldAddr' tu33 tf33_1 (z := 0) ts3 rfl hp4.ptr rfl) F rfl rfl ?_; clear F a; intro a F
         refine wq_ev (wg F rfl rfl rfl rfl hc3) (ev_load1 tu3 rfl rfl (ptr_mono (cks := [c2]) (fr := fr) hp5 (Le.refl _))) F rfl rfl ?_; clear F a; intro a F
         refine wq_ev (wg F rfl rfl rfl rfl hc3) (ev_move rfl) F rfl rfl ?_; clear F a; intro a F
         refine wq_ev (wg F rfl rfl rfl rfl hc3) (ev_move rfl) F rfl rfl ?_; clear F a; intro a F
         obtain ⟨z5, hz5, hm⟩ := bind_some hm
         refine wq_ev (wg F rfl rfl rfl rfl hc3) (ev_int rfl rfl (bo_sub hz5)) F rfl rfl ?_; clear F a; intro a F
         obtain ⟨y10, hy10, hm⟩ := bind_some hm
         refine wq_ev (wg F rfl rfl rfl rfl hc3) (ev_idxO (h2.mono l7) hy10 tu22 ts33 rfl rfl) F rfl rfl ?_; clear F a; intro a F
         refine wq_ev (wg F rfl rfl rfl rfl hc3) (ev_fieldAddr' tu33 tf33_2 (z := 0) ts3 rfl (elemO_ptr (h2.mono l7) hy10) rfl) F rfl rfl ?_; clear F a; intro a F
         obtain ⟨cs6, hr9, hq2⟩ := elemO (h2.mono l7) hy10
         obtain rfl := rep_SeqOp hr9
         refine wq_ev (wg F rfl rfl rfl rfl hc3) (ev_load1 tu3 rfl rfl (fun w s => fieldP (cells := [.i6 y10.Counter]) 2 (hq2 _ _ 0 rfl w s) rfl (lb rfl))) F rfl rfl ?_; clear F a; intro a F
         refine wq_ev (wg F rfl rfl rfl rfl hc3) (ev_move rfl) F rfl rfl ?_; clear F a; intro a F
         refine wq_ev (wg F rfl rfl rfl rfl hc3) (ev_move rfl) F rfl rfl ?_; clear F a; intro a F
         obtain ⟨z6, hz6, hm⟩ := bind_some hm
         refine wq_ev (wg F rfl rfl rfl rfl hc3) (ev_int rfl rfl (bo_sub hz6)) F rfl rfl ?_; clear F a; intro a F
         obtain ⟨y11, hy11, hm⟩ := bind_some hm
         refine wq_ev (wg F rfl rfl rfl rfl hc3) (ev_idxO (h2.mono l7) hy11 tu22 ts33 rfl rfl) F rfl rfl ?_; clear F a; intro a F
         refine wq_ev (wg F rfl rfl rfl rfl hc3) (ev_fieldAddr' tu33 tf33_1 (z := 0) ts3 rfl (elemO_ptr (h2.mono l7) hy11) rfl) F rfl rfl ?_; clear F a; intro a F
         obtain ⟨cs7, hr10, hq3⟩ := elemO (h2.mono l7) hy11
         obtain rfl := rep_SeqOp hr10
         refine wq_ev (wg F rfl rfl rfl rfl hc3) (ev_load1 tu3 rfl rfl (fun w s => fieldP (cells := [.i6 y11.Replica]) 1 (hq3 _ _ 0 rfl w s) rfl (lb rfl))) F rfl rfl ?_; clear F a; intro a F
         obtain ⟨y12, hy12, hm⟩ := bind_some hm
         refine wq_call (wg F rfl rfl rfl rfl hc3) rfl (xs := [.tmp 22, .tmp 27, .tmp 33, .tmp 39]) (vs := [.i6 y8.Counter, .i6 y9.Replica, .i6 y10.Counter, .i6 y11.Replica]) (cap := []) F rfl rfl tc44 (v := .bool y12) (fun w S => (changeforgeref2_Before_ok (g := g7) (fr := (fl [c2] fr)) (w := w) y8.Counter y9.Replica y10.Counter y11.Replica S hy12).mono (by rintro en w' ⟨_, rfl, g2, l2, S2, rfl⟩; exact ⟨rfl, S2.weak l2⟩)) rfl rfl ?_; clear F a; intro a F
         refine wq_ev (wg F rfl rfl rfl rfl hc3) (ev_move rfl) F rfl rfl ?_; clear F a; intro a F
         obtain ⟨x14, hx5, hm⟩ := bind_some hm
         refine wq_cut 19 (fun a => Fr 92 a [(60, .bool x14), (41, .bool y12), (40, .bool y12), (39, .i6 y11.Replica), (38, addP (elemP v2 z6 6) 1), (37, elemP v2 z6 6), (36, .i6 z6), (35, .i6 x11), (34, v2), (33, .i6 y10.Counter), (32, addP (elemP v2 z5 6) 2), (31, elemP v2 z5 6), (30, .i6 z5), (29, .i6 x11), (28, v2), (27, .i6 y9.Replica), (26, (addP (elemP vl_1 x2 6) 1)), (25, (elemP vl_1 x2 6)), (24, .i6 x2), (23, vl_1), (22, .i6 y8.Counter), (21, (addP (elemP vl_1 x2 6) 2)), (20, (elemP vl_1 x2 6)), (19, .i6 x2), (18, vl_1), (17, .bool (decide (x11 > 0))), (5, .i6 x11), (4, .i6 x2), (3, v2), (0, vl_1)]) ?_ ?_
         ·clear hm; obtain ⟨hc4, hm⟩ | ⟨hc4, hm⟩ := ite_or hx5
          ·refine wq_skip rfl rfl rfl rfl (ne_ft hc4) F rfl rfl ?_; clear F a; intro a F
           refine wq_skip rfl rfl rfl rfl (ne_ft hc4) F rfl rfl ?_; clear F a; intro a F
           refine wq_skip rfl rfl rfl rfl (ne_ft hc4) F rfl rfl ?_; clear F a; intro a F
           refine wq_skip rfl rfl rfl rfl (ne_ft hc4) F rfl rfl ?_; clear F a; intro a F
           refine wq_skip rfl rfl rfl rfl (ne_ft hc4) F rfl rfl ?_; clear F a; intro a F
           refine wq_skip rfl rfl rfl rfl (ne_ft hc4) F rfl rfl ?_; clear F a; intro a F
           refine wq_skip rfl rfl rfl rfl (ne_ft hc4) F rfl rfl ?_; clear F a; intro a F
           refine wq_skip rfl rfl rfl rfl (ne_ft hc4) F rfl rfl ?_; clear F a; intro a F
           refine wq_skip rfl rfl rfl rfl (ne_ft hc4) F rfl rfl ?_; clear F a; intro a F
           refine wq_skip rfl rfl rfl rfl (ne_ft hc4) F rfl rfl ?_; clear F a; intro a F
           refine wq_skip rfl rfl rfl rfl (ne_ft hc4) F rfl rfl ?_; clear F a; intro a F
           refine wq_skipu rfl rfl rfl rfl F rfl rfl ?_; clear F a; intro a F
           refine wq_skipu rfl rfl rfl rfl F rfl rfl ?_; clear F a; intro a F
           refine wq_skipu rfl rfl rfl rfl F rfl rfl ?_; clear F a; intro a F
           refine wq_skipu rfl rfl rfl rfl F rfl rfl ?_; clear F a; intro a F
           refine wq_skipu rfl rfl rfl rfl F rfl rfl ?_; clear F a; intro a F
           refine wq_skipu rfl rfl rfl rfl F rfl rfl ?_; clear F a; intro a F
           refine wq_skip rfl rfl rfl rfl (ne_ft hc4) F rfl rfl ?_; clear F a; intro a F
           refine wq_ev (wg F rfl rfl rfl rfl hc3) (ev_pickT rfl hc4 rfl) F rfl rfl ?_; clear F a; intro a F
           obtain rfl := sinj hm
           refine wq_nil ?_; exact F.sub ⟨rfl, rfl, rfl, rfl, rfl, rfl, rfl, rfl, rfl, rfl, rfl, rfl, rfl, rfl, rfl, rfl, rfl, rfl, rfl, rfl, rfl, rfl, rfl, rfl, rfl, rfl, rfl, rfl, rfl, rfl, trivial⟩
          ·refine wq_ev (wg F rfl rfl rfl rfl hc4) (ev_move rfl) F rfl rfl ?_; clear F a; intro a F
           refine wq_ev (wg F rfl rfl rfl rfl hc4) (ev_move rfl) F rfl rfl ?_; clear F a; intro a F
           obtain ⟨y13, hy13, hm⟩ := bind_some hm
           obtain ⟨cs8, hr11, hp6⟩ := elemS (hl_1.mono (l2.trans l7)) hy13
           obtain rfl := rep_SeqOp hr11
           refine wq_ev (wg F rfl rfl rfl rfl hc4) (ev_idxS (hl_1.mono (l2.trans l7)) hy13 tu22 ts33 rfl rfl) F rfl rfl ?_; clear F a; intro a F
           refine wq_ev (wg F rfl rfl rfl rfl hc4) (ev_loadA tu33 rfl (cs := [.bool y13.Delete, .i6 y13.Replica, .i6 y13.Counter, .i6 y13.AfterReplica, .i6 y13.AfterCounter, .string y13.Line]) ts33 rfl (ptr_mono (cks := [c2]) (fr := fr) hp6 (Le.refl _))) F rfl rfl ?_; clear F a; intro a F
           refine wq_ev (wg F rfl rfl rfl rfl hc4) (ev_move rfl) F rfl rfl ?_; clear F a; intro a F
           refine wq_ev (wg F rfl rfl rfl rfl hc4) (ev_move rfl) F rfl rfl ?_; clear F a; intro a F
           obtain ⟨z7, hz7, hm⟩ := bind_some hm
           refine wq_ev (wg F rfl rfl rfl rfl hc4) (ev_int rfl rfl (bo_sub hz7)) F rfl rfl ?_; clear F a; intro a F
           obtain ⟨y14, hy14, hm⟩ := bind_some hm
           refine wq_ev (wg F rfl rfl rfl rfl hc4) (ev_idxO (h2.mono l7) hy14 tu22 ts33 rfl rfl) F rfl rfl ?_; clear F a; intro a F
           obtain ⟨cs9, hr12, hq4⟩ := elemO (h2.mono l7) hy14
           obtain rfl := rep_SeqOp hr12
           refine wq_ev (wg F rfl rfl rfl rfl hc4) (ev_loadA tu33 rfl (cs := [.bool y14.Delete, .i6 y14.Replica, .i6 y14.Counter, .i6 y14.AfterReplica, .i6 y14.AfterCounter, .string y14.Line]) ts33 rfl (hq4 _ _ 0 rfl)) F rfl rfl ?_; clear F a; intro a F
           obtain ⟨y15, hy15, hm⟩ := bind_some hm
           refine wq_call (wg F rfl rfl rfl rfl hc4) rfl (xs := [.tmp 45, .tmp 50]) (vs := [.agg #[.bool y13.Delete, .i6 y13.Replica, .i6 y13.Counter, .i6 y13.AfterReplica, .i6 y13.AfterCounter, .string y13.Line], .agg #[.bool y14.Delete, .i6 y14.Replica, .i6 y14.Counter, .i6 y14.AfterReplica, .i6 y14.AfterCounter, .string y14.Line]]) (cap := []) F rfl rfl tc13 (v := .bool y15) (fun w S => (changeforgeref2_SameElement_ok (g := g7) (fr := (fl [c2] fr)) (w := w) y13 y14 S hy15).mono (by rintro en w' ⟨_, rfl, g2, l2, S2, rfl⟩; exact ⟨rfl, S2.weak l2⟩)) rfl rfl ?_; clear F a; intro a F
           refine wq_ev (wg F rfl rfl rfl rfl hc4) (ev_move rfl) F rfl rfl ?_; clear F a; intro a F
           obtain ⟨x15, hx6, hm⟩ := bind_some hm
           refine wq_cut 7 (fun a => Fr 92 a [(59, .bool x15), (52, .bool y15), (51, .bool y15), (50, .agg #[.bool y14.Delete, .i6 y14.Replica, .i6 y14.Counter, .i6 y14.AfterReplica, .i6 y14.AfterCounter, .string y14.Line]), (49, elemP v2 z7 6), (48, .i6 z7), (47, .i6 x11), (46, v2), (45, .agg #[.bool y13.Delete, .i6 y13.Replica, .i6 y13.Counter, .i6 y13.AfterReplica, .i6 y13.AfterCounter, .string y13.Line]), (44, (elemP vl_1 x2 6)), (43, .i6 x2), (42, vl_1), (41, .bool y12), (40, .bool y12), (39, .i6 y11.Replica), (38, addP (elemP v2 z6 6) 1), (37, elemP v2 z6 6), (36, .i6 z6), (35, .i6 x11), (34, v2), (33, .i6 y10.Counter), (32, addP (elemP v2 z5 6) 2), (31, elemP v2 z5 6), (30, .i6 z5), (29, .i6 x11), (28, v2), (27, .i6 y9.Replica), (26, (addP (elemP vl_1 x2 6) 1)), (25, (elemP vl_1 x2 6)), (24, .i6 x2), (23, vl_1), (22, .i6 y8.Counter), (21, (addP (elemP vl_1 x2 6) 2)), (20, (elemP vl_1 x2 6)), (19, .i6 x2), (18, vl_1), (17, .bool (decide (x11 > 0))), (5, .i6 x11), (4, .i6 x2), (3, v2), (0, vl_1)]) ?_ ?_
           ·clear hm; obtain ⟨hc5, hm⟩ | ⟨hc5, hm⟩ := ite_or hx6
            ·refine wq_ev (wg F rfl rfl rfl rfl hc5) (ev_move rfl) F rfl rfl ?_; clear F a; intro a F
             refine wq_ev (wg F rfl rfl rfl rfl hc5) (ev_move rfl) F rfl rfl ?_; clear F a; intro a F
             obtain ⟨y16, hy16, hm⟩ := bind_some hm
             obtain ⟨cs10, hr13, hp7⟩ := elemS (hl_1.mono (l2.trans l7)) hy16
             obtain rfl := rep_SeqOp hr13
             refine wq_ev (wg F rfl rfl rfl rfl hc5) (ev_idxS (hl_1.mono (l2.trans l7)) hy16 tu22 ts33 rfl rfl) F rfl rfl ?_; clear F a; intro a F
             have hp8 := PtrC.field hp7 0 1 (lb rfl)
             have hp8 : PtrC g7 (addP (elemP vl_1 x2 6) 0) [.bool y16.Delete] := hp8
             refine wq_ev (wg F rfl rfl rfl rfl hc5) (ev_fieldAddr' tu33 tf33_0 (z := 0) ts4 rfl hp7.ptr rfl) F rfl rfl ?_; clear F a; intro a F
             refine wq_ev (wg F rfl rfl rfl rfl hc5) (ev_load1 tu4 rfl rfl (ptr_mono (cks := [c2]) (fr := fr) hp8 (Le.refl _))) F rfl rfl ?_; clear F a; intro a F
             refine wq_ev (wg F rfl rfl rfl rfl hc5) (ev_not rfl) F rfl rfl ?_; clear F a; intro a F
             refine wq_ev (wg F rfl rfl rfl rfl hc4) (ev_pickT rfl hc5 rfl) F rfl rfl ?_; clear F a; intro a F
             obtain rfl := sinj hm
             refine wq_nil ?_; exact F.sub ⟨rfl, rfl, rfl, rfl, rfl, rfl, rfl, rfl, rfl, rfl, rfl, rfl, rfl, rfl, rfl, rfl, rfl, rfl, rfl, rfl, rfl, rfl, rfl, rfl, rfl, rfl, rfl, rfl, rfl, rfl, rfl, rfl, rfl, rfl, rfl, rfl, rfl, rfl, rfl, rfl, rfl, trivial⟩
            ·refine wq_skip rfl rfl rfl rfl (ne_tf hc5) F rfl rfl ?_; clear F a; intro a F
             refine wq_skip rfl rfl rfl rfl (ne_tf hc5) F rfl rfl ?_; clear F a; intro a F
             refine wq_skip rfl rfl rfl rfl (ne_tf hc5) F rfl rfl ?_; clear F a; intro a F
             refine wq_skip rfl rfl rfl rfl (ne_tf hc5) F rfl rfl ?_; clear F a; intro a F
             refine wq_skip rfl rfl rfl rfl (ne_tf hc5) F rfl rfl ?_; clear F a; intro a F
             refine wq_skip rfl rfl rfl rfl (ne_tf hc5) F rfl rfl ?_; clear F a; intro a F
             refine wq_ev (wg F rfl rfl rfl rfl hc4) (ev_pickF rfl hc5 rfl) F rfl rfl ?_; clear F a; intro a F
             obtain rfl := sinj hm
             refine wq_nil ?_; exact F.sub ⟨rfl, rfl, rfl, rfl, rfl, rfl, rfl, rfl, rfl, rfl, rfl, rfl, rfl, rfl, rfl, rfl, rfl, rfl, rfl, rfl, rfl, rfl, rfl, rfl, rfl, rfl, rfl, rfl, rfl, rfl, rfl, rfl, rfl, rfl, rfl, rfl, rfl, rfl, rfl, rfl, rfl, trivial⟩
           clear F; intro a F
           refine wq_ev (wg F rfl rfl rfl rfl hc3) (ev_pickF rfl hc4 rfl) F rfl rfl ?_; clear F a; intro a F
           obtain rfl := sinj hm
           refine wq_nil ?_; exact F.sub ⟨rfl, rfl, rfl, rfl, rfl, rfl, rfl, rfl, rfl, rfl, rfl, rfl, rfl, rfl, rfl, rfl, rfl, rfl, rfl, rfl, rfl, rfl, rfl, rfl, rfl, rfl, rfl, rfl, rfl, rfl, trivial⟩
         clear F; intro a F
         refine wq_ev (wn rfl) (ev_pickT rfl hc3 rfl) F rfl rfl ?_; clear F a; intro a F
         obtain rfl := sinj hm
         refine wq_nil ?_; exact F.sub ⟨rfl, rfl, rfl, rfl, rfl, trivial⟩
        ·refine wq_skip rfl rfl rfl rfl (ne_tf hc3) F rfl rfl ?_; clear F a; intro a F
         refine wq_skip rfl rfl rfl rfl (ne_tf hc3) F rfl rfl ?_; clear F a; intro a F
         refine wq_skip rfl rfl rfl rfl (ne_tf hc3) F rfl rfl ?_; clear F a; intro a F
         refine wq_skip rfl rfl rfl rfl (ne_tf hc3) F rfl rfl ?_; clear F a; intro a F
         refine wq_skip rfl rfl rfl rfl (ne_tf hc3) F rfl rfl ?_; clear F a; intro a F
         refine wq_skip rfl rfl rfl rfl (ne_tf hc3) F rfl rfl ?_; clear F a; intro a F
         refine wq_skip rfl rfl rfl rfl (ne_tf hc3) F rfl rfl ?_; clear F a; intro a F
         refine wq_skip rfl rfl rfl rfl (ne_tf hc3) F rfl rfl ?_; clear F a; intro a F
         refine wq_skip rfl rfl rfl rfl (ne_tf hc3) F rfl rfl ?_; clear F a; intro a F
         refine wq_skip rfl rfl rfl rfl (ne_tf hc3) F rfl rfl ?_; clear F a; intro a F
         refine wq_skip rfl rfl rfl rfl (ne_tf hc3) F rfl rfl ?_; clear F a; intro a F
         refine wq_skip rfl rfl rfl rfl (ne_tf hc3) F rfl rfl ?_; clear F a; intro a F
         refine wq_skip rfl rfl rfl rfl (ne_tf hc3) F rfl rfl ?_; clear F a; intro a F
         refine wq_skip rfl rfl rfl rfl (ne_tf hc3) F rfl rfl ?_; clear F a; intro a F
         refine wq_skip rfl rfl rfl rfl (ne_tf hc3) F rfl rfl ?_; clear F a; intro a F
         refine wq_skip rfl rfl rfl rfl (ne_tf hc3) F rfl rfl ?_; clear F a; intro a F
         refine wq_skip rfl rfl rfl rfl (ne_tf hc3) F rfl rfl ?_; clear F a; intro a F
         refine wq_skip rfl rfl rfl rfl (ne_tf hc3) F rfl rfl ?_; clear F a; intro a F
         refine wq_skip rfl rfl rfl rfl (ne_tf hc3) F rfl rfl ?_; clear F a; intro a F
         refine wq_skip rfl rfl rfl rfl (ne_tf hc3) F rfl rfl ?_; clear F a; intro a F
         refine wq_skip rfl rfl rfl rfl (ne_tf hc3) F rfl rfl ?_; clear F a; intro a F
         refine wq_skip rfl rfl rfl rfl (ne_tf hc3) F rfl rfl ?_; clear F a; intro a F
         refine wq_skip rfl rfl rfl rfl (ne_tf hc3) F rfl rfl ?_; clear F a; intro a F
         refine wq_skip rfl rfl rfl rfl (ne_tf hc3) F rfl rfl ?_; clear F a; intro a F
         refine wq_skipu rfl rfl rfl rfl F rfl rfl ?_; clear F a; intro a F
         refine wq_skipu rfl rfl rfl rfl F rfl rfl ?_; clear F a; intro a F
         refine wq_skipu rfl rfl rfl rfl F rfl rfl ?_; clear F a; intro a F
         refine wq_skipu rfl rfl rfl rfl F rfl rfl ?_; clear F a; intro a F
         refine wq_skipu rfl rfl rfl rfl F rfl rfl ?_; clear F a; intro a F
         refine wq_skipu rfl rfl rfl rfl F rfl rfl ?_; clear F a; intro a F
         refine wq_skipu rfl rfl rfl rfl F rfl rfl ?_; clear F a; intro a F
         refine wq_skipu rfl rfl rfl rfl F rfl rfl ?_; clear F a; intro a F
         refine wq_skipu rfl rfl rfl rfl F rfl rfl ?_; clear F a; intro a F
         refine wq_skipu rfl rfl rfl rfl F rfl rfl ?_; clear F a; intro a F
         refine wq_skipu rfl rfl rfl rfl F rfl rfl ?_; clear F a; intro a F
         refine wq_skipu rfl rfl rfl rfl F rfl rfl ?_; clear F a; intro a F
         refine wq_skipu rfl rfl rfl rfl F rfl rfl ?_; clear F a; intro a F
         refine wq_skipu rfl rfl rfl rfl F rfl rfl ?_; clear F a; intro a F
         refine wq_skipu rfl rfl rfl rfl F rfl rfl ?_; clear F a; intro a F
         refine wq_skipu rfl rfl rfl rfl F rfl rfl ?_; clear F a; intro a F
         refine wq_skipu rfl rfl rfl rfl F rfl rfl ?_; clear F a; intro a F
         refine wq_skipu rfl rfl rfl rfl F rfl rfl ?_; clear F a; intro a F
         refine wq_skip rfl rfl rfl rfl (ne_tf hc3) F rfl rfl ?_; clear F a; intro a F
         refine wq_ev (wn rfl) (ev_pickF rfl hc3 rfl) F rfl rfl ?_; clear F a; intro a F
         obtain rfl := sinj hm
         refine wq_nil ?_; exact F.sub ⟨rfl, rfl, rfl, rfl, rfl, trivial⟩
       clear F; intro a F
       refine wq_nil ?_; clear S; intro w S
       refine then_n ?_
       obtain ⟨hc6, hm⟩ | ⟨hc6, hm⟩ := ite_or hm
       ·refine wp_condT F rfl hc6 ?_
        refine wp_skip ?_
        refine then_n ?_
        refine wp_block ?_
        refine wp_region_lit ?_
        refine wE (ev_move rfl) F S rfl fun a F=>?_
        obtain ⟨z8, hz8, hm⟩ := bind_some hm
        refine wE (ev_int rfl rfl (bo_sub hz8)) F S rfl fun a F=>?_
        refine wE (ev_assign rfl) F S rfl fun a F=>?_
        refine wpList_nil ?_
        refine inb_n ?_
        refine then_n ?_
        obtain rfl := sinj hm
        refine ⟨_, rfl, ?_⟩
        exact ⟨g7, F.sub ⟨rfl, rfl, rfl, rfl, trivial⟩, l7, S⟩
       ·refine wp_condF F rfl hc6 ?_
        refine wp_exit ?_
        refine then_e ?_
        refine then_e ?_
        refine inb_x ?_
        refine then_n ?_
        obtain rfl := sinj hm
        obtain rfl := hfin3 _ rfl
        clear hm
        have hm : (changeforgeref2_Sorted.j3 l_ x2 x3 x11 : Option (Step (Int × (List SeqOp)) (List SeqOp))) = some _ := hmo3
        exact ⟨x11, g7, F.sub ⟨rfl, rfl, rfl, rfl, trivial⟩, l7, S, hm⟩
     ·clear F S hm; rintro a w ⟨x6, g4, F, l4, S, hm⟩
      refine wp_seq ?_
      refine wp_region_lit ?_
      refine wE (ev_move rfl) F S rfl fun a F=>?_
      refine wE (ev_build (parts := []) (vs := []) rfl (fun w => tb33_  w)) F S rfl fun a F=>?_
      refine wl_lit (l := ([({ Delete := false, Replica := 0, Counter := 0, AfterReplica := 0, AfterCounter := 0, Line := ByteArray.empty } : SeqOp)] : List SeqOp)) (vs := [.agg #[.bool false, .i6 0, .i6 0, .i6 0, .i6 0, .string ByteArray.empty]]) (parts := [(0, .tmp 65)]) (wn rfl) rfl rfl rfl tu22 te33 (sz_cons rfl sz_nil) rfl (Cat.cons (rep_SeqOp_mk (x := ({ Delete := false, Replica := 0, Counter := 0, AfterReplica := 0, AfterCounter := 0, Line := ByteArray.empty } : SeqOp)) ) (Cat.nil _)) (coa_cons rfl coa_nil) rfl F S rfl rfl ?_; clear F a S
      rintro v4 c4 a w h4 F S
      obtain ⟨cs1, hk1, hr2⟩ := OwnS.reads h4
      obtain ⟨y1, hy1, hm⟩ := bind_some hm
      refine wl_append (wn rfl) rfl tu22 tu22 te33 (by decide) (by decide) F S rfl rfl (k := 1) rfl (h2.mono l4) hk1 rfl (hr2 _ _ _ 0 rfl S) hy1 rfl rfl ?_; clear F a S
      rintro v5 c5 a w h5 S F; replace S : St g4 [c4, c5] fr w := S
      refine wE (ev_assign rfl) F S rfl fun a F=>?_
      refine wpList_nil ?_
      refine then_n ?_
      refine wp_cut (fun a w => ∃ (x7 : List SeqOp) (v6 : Value) (c6 : Hl) (g5 : Gh), Fr 92 a [(3, v6), (5, .i6 x6), (4, .i6 x2), (0, vl_1)] ∧ Le g4 g5 ∧ St g5 [c6] fr w ∧ OwnS g5 x7 v6 c6 ∧ changeforgeref2_Sorted.j4 l_ x2 x6 x7 = some x4) ?_ ?_
      ·refine wp_seq ?_
       refine wp_region_lit ?_
       refine wE (ev_move rfl) F S rfl fun a F=>?_
       refine wE (ev_lenOw h5 rfl tu22) F S rfl fun a F=>?_
       obtain ⟨z2, hz2, hm⟩ := bind_some hm
       refine wE (ev_int rfl rfl (bo_sub hz2)) F S rfl fun a F=>?_
       refine wE (ev_assign rfl) F S rfl fun a F=>?_
       refine wpList_nil ?_
       refine then_n ?_
       refine wp_block ?_
       obtain ⟨r2, hr4, hm⟩ := bind_some hm
       have hmo2 := hm; clear hm
       refine wp_iter (σ := Int × (List SeqOp)) (ρ := (List SeqOp)) (m := fun s => changeforgeref2_Sorted.l2 x6 s.1 s.2) (I := fun s a w => match s with | (x8, x9) => ∃ (v7 : Value) (c8 : Hl) (g6 : Gh), Fr 92 a [(6, .i6 x8), (3, v7), (5, .i6 x6), (4, .i6 x2), (0, vl_1)] ∧ Le g4 g6 ∧ St g6 [c8] fr w ∧ OwnS g6 x9 v7 c8) hr4 ?_ ?_
       ·dsimp only
        replace S : St g4 [c5] fr w := St.tail [c5] _ (S.frontC 1 rfl)
        exact ⟨v5, c5, g4, F.sub ⟨rfl, rfl, rfl, rfl, rfl, trivial⟩, (Le.refl _), S, h5⟩
       ·clear F S; rintro ⟨x8, x9⟩ a w x10 ⟨v7, c8, g6, F, l6, S, h8⟩ hx2 hfin2
        have hm : changeforgeref2_Sorted.l2 x6 x8 x9 = some x10 := hx2; clear hx2
        unfold changeforgeref2_Sorted.l2 at hm
        refine wp_seq ?_
        refine wp_seq ?_
        refine wp_region_lit ?_
        refine wE (ev_move rfl) F S rfl fun a F=>?_
        refine wE (ev_move rfl) F S rfl fun a F=>?_
        refine wE (ev_int rfl rfl (bo_gtr _ _ _ _)) F S rfl fun a F=>?_
        refine wpList_nil ?_
        refine then_n ?_
        obtain ⟨hc2, hm⟩ | ⟨hc2, hm⟩ := ite_or hm
        ·refine wp_condT F rfl hc2 ?_
         refine wp_skip ?_
         refine then_n ?_
         refine wp_seq ?_
         refine wp_block ?_
         refine wp_region_lit ?_
         refine wE (ev_move rfl) F S rfl fun a F=>?_
         refine wE (ev_move rfl) F S rfl fun a F=>?_
         refine wE (ev_move rfl) F S rfl fun a F=>?_
         refine wE (ev_move rfl) F S rfl fun a F=>?_
         obtain ⟨z3, hz3, hm⟩ := bind_some hm
         refine wE (ev_int rfl rfl (bo_sub hz3)) F S rfl fun a F=>?_
         obtain ⟨y5, hy5, hm⟩ := bind_some hm
         refine wE (ev_idxO h8 hy5 tu22 ts33 rfl rfl) F S rfl fun a F=>?_
         obtain ⟨cs3, hr5, hq1⟩ := elemO h8 hy5
         obtain rfl := rep_SeqOp hr5
         refine wE (ev_loadA tu33 rfl (cs := [.bool y5.Delete, .i6 y5.Replica, .i6 y5.Counter, .i6 y5.AfterReplica, .i6 y5.AfterCounter, .string y5.Line]) ts33 rfl (hq1 _ _ 0 rfl)) F S rfl fun a F=>?_
         obtain ⟨y6, hy6, hm⟩ := bind_some hm
         refine wE (ev_idxO h8 hy6 tu22 ts33 rfl rfl) F S rfl fun a F=>?_
         obtain ⟨y7, hy7, hm⟩ := bind_some hm
         refine wl_storeW (z' := y5) (wn rfl) rfl F S h8 hy6 rfl rfl (us := [.bool y5.Delete, .i6 y5.Replica, .i6 y5.Counter, .i6 y5.AfterReplica, .i6 y5.AfterCounter, .string y5.Line]) rfl ts33 (one_cons rfl (one_cons rfl (one_cons rfl (one_cons rfl (one_cons rfl (one_cons rfl one_nil)))))) (k := 0) rfl rfl (rep_SeqOp_mk (x := y5) ) rfl ?_; clear S
         rintro c9 w h9 S; replace S : St g6 [c9] fr w := S; replace h9 : OwnS g6 y7 v7 c9 := sinj hy7 ▸ h9
         replace F := F.sub (e' := [(83, elemP v7 x8 6), (82, .agg #[.bool y5.Delete, .i6 y5.Replica, .i6 y5.Counter, .i6 y5.AfterReplica, .i6 y5.AfterCounter, .string y5.Line]), (80, .i6 z3), (79, .i6 x8), (78, v7), (77, .i6 x8), (76, v7), (73, .bool (decide (x8 > x6))), (72, .i6 x6), (71, .i6 x8), (6, .i6 x8), (3, v7), (5, .i6 x6), (4, .i6 x2), (0, vl_1)]) ⟨rfl, rfl, rfl, rfl, rfl, rfl, rfl, rfl, rfl, rfl, rfl, rfl, rfl, rfl, rfl, trivial⟩
         refine wpList_nil ?_
         refine inb_n ?_
         refine then_n ?_
         refine wp_region_lit ?_
         refine wE (ev_move rfl) F S rfl fun a F=>?_
         obtain ⟨z4, hz4, hm⟩ := bind_some hm
         refine wE (ev_int rfl rfl (bo_sub hz4)) F S rfl fun a F=>?_
         refine wE (ev_assign rfl) F S rfl fun a F=>?_
         refine wpList_nil ?_
         refine then_n ?_
         obtain rfl := sinj hm
         refine ⟨_, rfl, ?_⟩
         dsimp only
         exact ⟨v7, c9, g6, F.sub ⟨rfl, rfl, rfl, rfl, rfl, trivial⟩, l6, S, h9⟩
        ·refine wp_condF F rfl hc2 ?_
         refine wp_exit ?_
         refine then_e ?_
         refine then_e ?_
         refine inb_x ?_
         refine then_n ?_
         obtain rfl := sinj hm
         obtain rfl := hfin2 _ rfl
         clear hm
         have hm : (changeforgeref2_Sorted.j4 l_ x2 x6 x9 : Option (Step (Int × (List SeqOp)) (List SeqOp))) = some _ := hmo2
         exact ⟨x9, v7, c8, g6, F.sub ⟨rfl, rfl, rfl, rfl, trivial⟩, l6, S, h8, hm⟩
      ·clear F S hm; rintro a w ⟨x7, v6, c6, g5, F, l5, S, h6, hm⟩
       refine wp_region_lit ?_
       refine wE (ev_move rfl) F S rfl fun a F=>?_
       refine wE (ev_move rfl) F S rfl fun a F=>?_
       refine wE (ev_move rfl) F S rfl fun a F=>?_
       refine wE (ev_move rfl) F S rfl fun a F=>?_
       obtain ⟨y2, hy2, hm⟩ := bind_some hm
       obtain ⟨cs2, hr3, hp1⟩ := elemS (hl_1.mono ((l2.trans l4).trans l5)) hy2
       obtain rfl := rep_SeqOp hr3
       refine wE (ev_idxS (hl_1.mono ((l2.trans l4).trans l5)) hy2 tu22 ts33 rfl rfl) F S rfl fun a F=>?_
       refine wE (ev_loadA tu33 rfl (cs := [.bool y2.Delete, .i6 y2.Replica, .i6 y2.Counter, .i6 y2.AfterReplica, .i6 y2.AfterCounter, .string y2.Line]) ts33 rfl (ptr_mono (cks := [c6]) (fr := fr) hp1 (Le.refl _))) F S rfl fun a F=>?_
       obtain ⟨y3, hy3, hm⟩ := bind_some hm
       refine wE (ev_idxO h6 hy3 tu22 ts33 rfl rfl) F S rfl fun a F=>?_
       obtain ⟨y4, hy4, hm⟩ := bind_some hm
       refine wl_storeW (z' := y2) (wn rfl) rfl F S h6 hy3 rfl rfl (us := [.bool y2.Delete, .i6 y2.Replica, .i6 y2.Counter, .i6 y2.AfterReplica, .i6 y2.AfterCounter, .string y2.Line]) rfl ts33 (one_cons rfl (one_cons rfl (one_cons rfl (one_cons rfl (one_cons rfl (one_cons rfl one_nil)))))) (k := 0) rfl rfl (rep_SeqOp_mk (x := y2) ) rfl ?_; clear S
       rintro c7 w h7 S; replace S : St g5 [c7] fr w := S; replace h7 : OwnS g5 y4 v6 c7 := sinj hy4 ▸ h7
       refine wpList_nil ?_
       refine inb_n ?_
       refine then_n ?_
       exact ⟨y4, v6, c7, g5, F.sub ⟨rfl, rfl, rfl, trivial⟩, (l4.trans l5), S, h7, hm⟩
    ·clear F S hm; rintro a w ⟨x5, v3, c3, g3, F, l3, S, h3, hm⟩
     refine wp_region_lit ?_
     refine wE (ev_move rfl) F S rfl fun a F=>?_
     obtain ⟨z1, hz1, hm⟩ := bind_some hm
     refine wE (ev_int rfl rfl (bo_add hz1)) F S rfl fun a F=>?_
     refine wE (ev_assign rfl) F S rfl fun a F=>?_
     refine wpList_nil ?_
     refine then_n ?_
     obtain rfl := sinj hm
     refine ⟨_, rfl, ?_⟩
     dsimp only
     exact ⟨v3, c3, g3, F.sub ⟨rfl, rfl, rfl, trivial⟩, (l2.trans l3), S, h3⟩
   ·refine wp_condF F rfl hc1 ?_
    refine wp_exit ?_
    refine then_e ?_
    refine then_e ?_
    refine inb_x ?_
    refine then_n ?_
    obtain rfl := sinj hm
    obtain rfl := hfin1 _ rfl
    clear hm
    have hm : (changeforgeref2_Sorted.j1 x3 : Option (List SeqOp)) = some _ := hmo1
    exact ⟨x3, v2, c2, g2, F.sub ⟨rfl, trivial⟩, l2, S, h2, hm⟩
 ·clear F S hm; rintro a w ⟨x1, v1, c1, g1, F, l1, S, h1, hm⟩
  refine wp_seq ?_
  refine wp_region_lit ?_
  refine wE (ev_move rfl) F S rfl fun a F=>?_
  refine wE (ev_assign rfl) F S rfl fun a F=>?_
  refine wpList_nil ?_
  refine then_n ?_
  refine wp_ret ?_
  obtain rfl := sinj hm
  refine post_r _ F rfl (ar_cons (resT rfl) ar_nil) ?_
  exact ⟨_, rfl, g1, v1, c1, l1, S, h1, rfl⟩

theorem changeforgeref2_Union_ok {g : Gh} {fr : Hl} {w : World} {r : (List SeqOp) × Fault} (a_ : (List SeqOp)) (va_1 : Value) (ha_1 : RepSl g a_ va_1) (b_ : (List SeqOp)) (vb_1 : Value) (hb_1 : RepSl g b_ vb_1) (S : St g [] fr w) (hm : changeforgeref2_Union a_ b_ = some r) :
  Calls Try.prog 18 [va_1, vb_1].toArray w (fun en w' => ∃ v, en = .returned v ∧ ∃ (g' : Gh) (v1 : Value) (c1 : Hl), Le g g' ∧ St g' [c1] fr w' ∧ OwnS g' r.1 v1 c1 ∧ .tuple #[v1, .agg #[.i6 r.2.Code, .i6 r.2.Index]] = v) := by
 unfold changeforgeref2_Union at hm
 refine calls_enter (fn := Try.f18) Try.func18 rfl Try.ntmps18 (lb rfl) ?_
 intro a F
 replace F : Fr 91 a [(0, va_1), (1, vb_1)] := F
 refine wp_seq ?_
 refine wp_region_lit ?_
 refine wE (ev_assign rfl) F S rfl fun a F=>?_
 refine wl_alloc (wn rfl) rfl tz25 (cs := [.i6 0, .i6 0]) rfl F S rfl rfl ?_; clear F a S; rintro b1 a w F S
 refine wpList_nil ?_
 refine then_n ?_
 refine wp_seq ?_
 refine wp_seq ?_
 refine wp_region_lit ?_
 refine wE (ev_move rfl) F S rfl fun a F=>?_
 obtain ⟨y1, hy1, hm⟩ := bind_some hm
 refine wl_call0 (wn rfl) rfl F rfl (changeforgeref2_SequenceFault_ok (fr := (fl [[bx b1 #[.i6 0, .i6 0] 25]] fr)) a_ va_1 ha_1 S hy1) rfl tc19 rfl rfl ?_; clear F a S
 rintro _ a w ⟨g1, l1, S, rfl⟩ F; replace S : St g1 [[bx b1 #[.i6 0, .i6 0] 25]] fr w := S
 refine wl_alloc (wn rfl) rfl tz25 (cs := [.i6 0, .i6 0]) rfl F S rfl rfl ?_; clear F a S; rintro b2 a w F S
 refine wl_storeC (wn rfl) rfl F S rfl rfl (vs := [.i6 y1.Code, .i6 y1.Index]) rfl ts25 (one_cons rfl (one_cons rfl one_nil)) (k := 0) rfl (lb rfl) (c' := #[.i6 y1.Code, .i6 y1.Index]) rfl rfl ?_; clear S; intro w S
 refine wpList_nil ?_
 refine then_n ?_
 refine wp_seq ?_
 refine wp_region_lit ?_
 refine wE (ev_fieldAddr' tu25 tf25_0 (z := 0) ts3 rfl ⟨_, rfl⟩ rfl) F S rfl fun a F=>?_
 refine wE (ev_load1 tu3 rfl rfl (box_ptr (cells := [.i6 y1.Code]) 0 rfl 0 rfl (lb rfl))) F S rfl fun a F=>?_
 refine wE (ev_int rfl rfl (bo_neq _ _ _ _)) F S rfl fun a F=>?_
 refine wpList_nil ?_
 refine then_n ?_
 obtain ⟨hc1, hm⟩ | ⟨hc1, hm⟩ := ite_or hm
 ·refine wp_condT F rfl hc1 ?_
  refine wp_seq ?_
  refine wp_dv [] mo S ?_; clear S; intro ok1 w S
  refine dv_ev ok1 0 rfl (ev_loadA tu25 rfl (cs := [.i6 y1.Code, .i6 y1.Index]) ts25 rfl (box_ptr (cells := [.i6 y1.Code, .i6 y1.Index]) 0 rfl 0 rfl (lb rfl))) F S rfl fun a F=>?_
  refine dv_et ok1 1 rfl (ev_assign rfl) F rfl fun a F=>?_
  refine dv_op ok1 2 rfl [] ?_
  refine wl_storeC (wn rfl) rfl F S rfl rfl (vs := [.i6 y1.Code, .i6 y1.Index]) rfl ts25 (one_cons rfl (one_cons rfl one_nil)) (k := 1) rfl (lb rfl) (c' := #[.i6 y1.Code, .i6 y1.Index]) rfl rfl ?_; clear S; intro w S
  refine dv_nx trivial ?_
  refine dv_fin ok1 ?_
  refine then_n ?_
  refine wp_ret ?_
  refine then_r ?_
  obtain rfl := sinj hm
  replace S : St g1 [[], [bx b2 #[.i6 y1.Code, .i6 y1.Index] 25], [bx b1 #[.i6 y1.Code, .i6 y1.Index] 25]] fr w := S
  refine post_r _ F rfl (ar_cons (resT rfl) (ar_cons (resA rfl tu25 rfl (box_ptr (cells := [.i6 y1.Code, .i6 y1.Index]) 2 rfl 0 rfl (lb rfl) w S) ts25) ar_nil)) ?_
  replace S : St g1 [[]] fr w := St.tail [[]] _ (S.frontC 0 rfl)
  exact ⟨_, rfl, g1, (nilS), [], l1, S, (OwnS.nil _), rfl⟩
 ·refine wp_condF F rfl hc1 ?_
  refine wp_skip ?_
  refine then_n ?_
  refine wp_seq ?_
  refine wp_seq ?_
  refine wp_region_lit ?_
  refine wE (ev_move rfl) F S rfl fun a F=>?_
  obtain ⟨y2, hy2, hm⟩ := bind_some hm
  refine wl_call0 (wn rfl) rfl F rfl (changeforgeref2_SequenceFault_ok (fr := (fl [[bx b2 #[.i6 y1.Code, .i6 y1.Index] 25], [bx b1 #[.i6 0, .i6 0] 25]] fr)) b_ vb_1 (hb_1.mono l1) S hy2) rfl tc19 rfl rfl ?_; clear F a S
  rintro _ a w ⟨g2, l2, S, rfl⟩ F; replace S : St g2 [[bx b2 #[.i6 y1.Code, .i6 y1.Index] 25], [bx b1 #[.i6 0, .i6 0] 25]] fr w := S
  refine wl_alloc (wn rfl) rfl tz25 (cs := [.i6 0, .i6 0]) rfl F S rfl rfl ?_; clear F a S; rintro b3 a w F S
  refine wl_storeC (wn rfl) rfl F S rfl rfl (vs := [.i6 y2.Code, .i6 y2.Index]) rfl ts25 (one_cons rfl (one_cons rfl one_nil)) (k := 0) rfl (lb rfl) (c' := #[.i6 y2.Code, .i6 y2.Index]) rfl rfl ?_; clear S; intro w S
  refine wpList_nil ?_
  refine then_n ?_
  refine wp_seq ?_
  refine wp_region_lit ?_
  refine wE (ev_fieldAddr' tu25 tf25_0 (z := 0) ts3 rfl ⟨_, rfl⟩ rfl) F S rfl fun a F=>?_
  refine wE (ev_load1 tu3 rfl rfl (box_ptr (cells := [.i6 y2.Code]) 0 rfl 0 rfl (lb rfl))) F S rfl fun a F=>?_
  refine wE (ev_int rfl rfl (bo_neq _ _ _ _)) F S rfl fun a F=>?_
  refine wpList_nil ?_
  refine then_n ?_
  obtain ⟨hc2, hm⟩ | ⟨hc2, hm⟩ := ite_or hm
  ·refine wp_condT F rfl hc2 ?_
   refine wp_seq ?_
   refine wp_region_lit ?_
   refine wE (ev_fieldAddr' tu25 tf25_0 (z := 0) ts3 rfl ⟨_, rfl⟩ rfl) F S rfl fun a F=>?_
   refine wE (ev_load1 tu3 rfl rfl (box_ptr (cells := [.i6 y2.Code]) 0 rfl 0 rfl (lb rfl))) F S rfl fun a F=>?_
   obtain ⟨y3, hy3, hm⟩ := bind_some hm
   refine wl_call0 (wn rfl) rfl F rfl (changeforgeref1_At_ok (fr := (fl [[bx b3 #[.i6 y2.Code, .i6 y2.Index] 25], [bx b2 #[.i6 y1.Code, .i6 y1.Index] 25], [bx b1 #[.i6 0, .i6 0] 25]] fr)) y2.Code (-2) S hy3) rfl tc34 rfl rfl ?_; clear F a S
   rintro _ a w ⟨g3, l3, S, rfl⟩ F; replace S : St g3 [[bx b3 #[.i6 y2.Code, .i6 y2.Index] 25], [bx b2 #[.i6 y1.Code, .i6 y1.Index] 25], [bx b1 #[.i6 0, .i6 0] 25]] fr w := S
   refine wE (ev_assign rfl) F S rfl fun a F=>?_
   refine wl_storeC (wn rfl) rfl F S rfl rfl (vs := [.i6 y3.Code, .i6 y3.Index]) rfl ts25 (one_cons rfl (one_cons rfl one_nil)) (k := 2) rfl (lb rfl) (c' := #[.i6 y3.Code, .i6 y3.Index]) rfl rfl ?_; clear S; intro w S
   refine wpList_nil ?_
   refine then_n ?_
   refine wp_ret ?_
   refine then_r ?_
   obtain rfl := sinj hm
   replace S : St g3 [[], [bx b3 #[.i6 y2.Code, .i6 y2.Index] 25], [bx b2 #[.i6 y1.Code, .i6 y1.Index] 25], [bx b1 #[.i6 y3.Code, .i6 y3.Index] 25]] fr w := S
   refine post_r _ F rfl (ar_cons (resT rfl) (ar_cons (resA rfl tu25 rfl (box_ptr (cells := [.i6 y3.Code, .i6 y3.Index]) 3 rfl 0 rfl (lb rfl) w S) ts25) ar_nil)) ?_
   replace S : St g3 [[]] fr w := St.tail [[]] _ (S.frontC 0 rfl)
   exact ⟨_, rfl, g3, (nilS), [], ((l1.trans l2).trans l3), S, (OwnS.nil _), rfl⟩
  ·refine wp_condF F rfl hc2 ?_
   refine wp_skip ?_
   refine then_n ?_
   refine wp_seq ?_
   refine wp_region_lit ?_
   refine wl_lit (l := ([] : List SeqOp)) (vs := []) (parts := []) (wn rfl) rfl rfl rfl tu22 te33 sz_nil rfl (Cat.nil _) coa_nil rfl F S rfl rfl ?_; clear F a S
   rintro v1 c1 a w h1 F S
   refine wE (ev_move rfl) F S rfl fun a F=>?_
   obtain ⟨cs1, hk1, hr1⟩ := RepSl.reads (ha_1.mono (l1.trans l2))
   obtain ⟨y4, hy4, hm⟩ := bind_some hm
   refine wl_append (wn rfl) rfl tu22 tu22 te33 (by decide) (by decide) F S rfl rfl (k := 0) rfl h1 hk1 rfl (hr1 _ _ S) hy4 rfl rfl ?_; clear F a S
   rintro v2 c2 a w h2 S F; replace S : St g2 [c2, [bx b3 #[.i6 y2.Code, .i6 y2.Index] 25], [bx b2 #[.i6 y1.Code, .i6 y1.Index] 25], [bx b1 #[.i6 0, .i6 0] 25]] fr w := S
   refine wE (ev_assign rfl) F S rfl fun a F=>?_
   refine wpList_nil ?_
   refine then_n ?_
   refine wp_cut (fun a w => ∃ (x1 : List SeqOp) (v3 : Value) (c3 : Hl) (g4 : Gh), Fr 91 a [(8, v3), (5, bp b1 0)] ∧ Le g2 g4 ∧ St g4 [c3, [bx b1 #[.i6 0, .i6 0] 25]] fr w ∧ OwnS g4 x1 v3 c3 ∧ changeforgeref2_Union.j1 x1 = some r) ?_ ?_
   ·refine wp_seq ?_
    refine wp_region_lit ?_
    refine wE (ev_assign rfl) F S rfl fun a F=>?_
    refine wpList_nil ?_
    refine then_n ?_
    refine wp_block ?_
    obtain ⟨r1, hr2, hm⟩ := bind_some hm
    have hmo1 := hm; clear hm
    refine wp_iter (σ := Int × (List SeqOp)) (ρ := ((List SeqOp) × Fault) ⊕ (List SeqOp)) (m := fun s => changeforgeref2_Union.l1 a_ b_ s.1 s.2) (I := fun s a w => match s with | (x2, x3) => ∃ (v5 : Value) (c5 : Hl) (g8 : Gh), Fr 91 a [(9, .i6 x2), (8, v5), (5, bp b1 0), (0, va_1), (1, vb_1)] ∧ Le g2 g8 ∧ St g8 [c5, [bx b1 #[.i6 0, .i6 0] 25]] fr w ∧ OwnS g8 x3 v5 c5) hr2 ?_ ?_
    ·dsimp only
     replace S : St g2 [c2, [bx b1 #[.i6 0, .i6 0] 25]] fr w := St.tail [c2, [bx b1 #[.i6 0, .i6 0] 25]] _ ((S.frontC 3 rfl).frontC 1 rfl)
     exact ⟨v2, c2, g2, F.sub ⟨rfl, rfl, rfl, rfl, rfl, trivial⟩, (Le.refl _), S, h2⟩
    ·clear F S; rintro ⟨x2, x3⟩ a w x4 ⟨v5, c5, g8, F, l8, S, h6⟩ hx1 hfin1
     have hm : changeforgeref2_Union.l1 a_ b_ x2 x3 = some x4 := hx1; clear hx1
     unfold changeforgeref2_Union.l1 at hm
     refine wp_seq ?_
     refine wp_seq ?_
     refine wp_region_lit ?_
     refine wE (ev_move rfl) F S rfl fun a F=>?_
     refine wE (ev_move rfl) F S rfl fun a F=>?_
     refine wE (ev_lenSh hb_1 rfl tu22) F S rfl fun a F=>?_
     refine wE (ev_int rfl rfl (bo_lss _ _ _ _)) F S rfl fun a F=>?_
     refine wpList_nil ?_
     refine then_n ?_
     obtain ⟨hc4, hm⟩ | ⟨hc4, hm⟩ := ite_or hm
     ·refine wp_condT F rfl hc4 ?_
      refine wp_skip ?_
      refine then_n ?_
      refine wp_cut (fun a w => ∃ (x5 : List SeqOp) (v6 : Value) (c6 : Hl) (g9 : Gh), Fr 91 a [(8, v6), (9, .i6 x2), (5, bp b1 0), (0, va_1), (1, vb_1)] ∧ Le g8 g9 ∧ St g9 [c6, [bx b1 #[.i6 0, .i6 0] 25]] fr w ∧ OwnS g9 x5 v6 c6 ∧ changeforgeref2_Union.j2 x2 x5 = some x4) ?_ ?_
      ·refine wp_block ?_
       refine wp_seq ?_
       refine wp_region_lit ?_
       refine wE (ev_assign rfl) F S rfl fun a F=>?_
       refine wpList_nil ?_
       refine then_n ?_
       refine wp_cut (fun a w => ∃ (x6 : Bool) (g10 : Gh), Fr 91 a [(10, .bool x6), (9, .i6 x2), (8, v5), (5, bp b1 0), (0, va_1), (1, vb_1)] ∧ Le g8 g10 ∧ St g10 [c5, [bx b1 #[.i6 0, .i6 0] 25]] fr w ∧ changeforgeref2_Union.j3 b_ x2 x3 x6 = some x4) ?_ ?_
       ·refine wp_seq ?_
        refine wp_region_lit ?_
        refine wE (ev_assign rfl) F S rfl fun a F=>?_
        refine wpList_nil ?_
        refine then_n ?_
        refine wp_block ?_
        obtain ⟨r2, hr5, hm⟩ := bind_some hm
        have hmo2 := hm; clear hm
        refine wp_iter (σ := Int × Bool) (ρ := ((List SeqOp) × Fault) ⊕ Bool) (m := fun s => changeforgeref2_Union.l2 a_ b_ x2 s.1 s.2) (I := fun s a w => match s with | (x7, x8) => ∃ (g11 : Gh), Fr 91 a [(11, .i6 x7), (10, .bool x8), (9, .i6 x2), (8, v5), (5, bp b1 0), (0, va_1), (1, vb_1)] ∧ Le g8 g11 ∧ St g11 [c5, [bx b1 #[.i6 0, .i6 0] 25]] fr w) hr5 ?_ ?_
        ·dsimp only
         exact ⟨g8, F.sub ⟨rfl, rfl, rfl, rfl, rfl, rfl, rfl, trivial⟩, (Le.refl _), S⟩
        ·clear F S; rintro ⟨x7, x8⟩ a w x9 ⟨g11, F, l11, S⟩ hx2 hfin2
         have hm : changeforgeref2_Union.l2 a_ b_ x2 x7 x8 = some x9 := hx2; clear hx2
         unfold changeforgeref2_Union.l2 at hm
         refine wp_seq ?_
         refine wp_seq ?_
         refine wp_region_lit ?_
         refine wE (ev_move rfl) F S rfl fun a F=>?_
         refine wE (ev_move rfl) F S rfl fun a F=>?_
         refine wE (ev_lenSh ha_1 rfl tu22) F S rfl fun a F=>?_
         refine wE (ev_int rfl rfl (bo_lss _ _ _ _)) F S rfl fun a F=>?_
         refine wpList_nil ?_
         refine then_n ?_
         obtain ⟨hc6, hm⟩ | ⟨hc6, hm⟩ := ite_or hm
         ·refine wp_condT F rfl hc6 ?_
          refine wp_skip ?_
          refine then_n ?_
          refine wp_cut (fun a w => ∃ (x10 : Bool) (g12 : Gh), Fr 91 a [(11, .i6 x7), (10, .bool x10), (9, .i6 x2), (8, v5), (5, bp b1 0), (0, va_1), (1, vb_1)] ∧ Le g11 g12 ∧ St g12 [c5, [bx b1 #[.i6 0, .i6 0] 25]] fr w ∧ changeforgeref2_Union.j4 x7 x10 = some x9) ?_ ?_
          ·refine wp_block ?_
           refine wp_seq ?_
           refine wp_seq ?_
           refine wp_quiet mo (by kernel_rfl) S ?_
           refine wq_ev (wn rfl) (ev_move rfl) F rfl rfl ?_; clear F a; intro a F
           refine wq_ev (wn rfl) (ev_move rfl) F rfl rfl ?_; clear F a; intro a F
           obtain ⟨y9, hy9, hm⟩ := bind_some hm
           obtain ⟨cs4, hr6, hp2⟩ := elemS (ha_1.mono (((l1.trans l2).trans l8).trans l11)) hy9
           obtain rfl := rep_SeqOp hr6
           refine wq_ev (wn rfl) (ev_idxS (ha_1.mono (((l1.trans l2).trans l8).trans l11)) hy9 tu22 ts33 rfl rfl) F rfl rfl ?_; clear F a; intro a F
           refine wq_ev (wn rfl) (ev_loadA tu33 rfl (cs := [.bool y9.Delete, .i6 y9.Replica, .i6 y9.Counter, .i6 y9.AfterReplica, .i6 y9.AfterCounter, .string y9.Line]) ts33 rfl (ptr_mono (cks := [c5, [bx b1 #[.i6 0, .i6 0] 25]]) (fr := fr) hp2 (Le.refl _))) F rfl rfl ?_; clear F a; intro a F
           refine wq_ev (wn rfl) (ev_move rfl) F rfl rfl ?_; clear F a; intro a F
           refine wq_ev (wn rfl) (ev_move rfl) F rfl rfl ?_; clear F a; intro a F
           obtain ⟨y10, hy10, hm⟩ := bind_some hm
           obtain ⟨cs5, hr7, hp3⟩ := elemS (hb_1.mono (((l1.trans l2).trans l8).trans l11)) hy10
           obtain rfl := rep_SeqOp hr7
           refine wq_ev (wn rfl) (ev_idxS (hb_1.mono (((l1.trans l2).trans l8).trans l11)) hy10 tu22 ts33 rfl rfl) F rfl rfl ?_; clear F a; intro a F
           refine wq_ev (wn rfl) (ev_loadA tu33 rfl (cs := [.bool y10.Delete, .i6 y10.Replica, .i6 y10.Counter, .i6 y10.AfterReplica, .i6 y10.AfterCounter, .string y10.Line]) ts33 rfl (ptr_mono (cks := [c5, [bx b1 #[.i6 0, .i6 0] 25]]) (fr := fr) hp3 (Le.refl _))) F rfl rfl ?_; clear F a; intro a F
           obtain ⟨y11, hy11, hm⟩ := bind_some hm
           refine wq_call (wn rfl) rfl (xs := [.tmp 44, .tmp 48]) (vs := [.agg #[.bool y9.Delete, .i6 y9.Replica, .i6 y9.Counter, .i6 y9.AfterReplica, .i6 y9.AfterCounter, .string y9.Line], .agg #[.bool y10.Delete, .i6 y10.Replica, .i6 y10.Counter, .i6 y10.AfterReplica, .i6 y10.AfterCounter, .string y10.Line]]) (cap := []) F rfl rfl tc13 (v := .bool y11) (fun w S => (changeforgeref2_SameElement_ok (g := g11) (fr := (fl [c5, [bx b1 #[.i6 0, .i6 0] 25]] fr)) (w := w) y9 y10 S hy11).mono (by rintro en w' ⟨_, rfl, g2, l2, S2, rfl⟩; exact ⟨rfl, S2.weak l2⟩)) rfl rfl ?_; clear F a; intro a F
           refine wq_ev (wn rfl) (ev_not rfl) F rfl rfl ?_; clear F a; intro a F
           refine wq_ev (wn rfl) (ev_move rfl) F rfl rfl ?_; clear F a; intro a F
           obtain ⟨x11, hx3, hm⟩ := bind_some hm
           refine wq_cut 12 (fun a => Fr 91 a [(63, .bool x11), (11, .i6 x7), (10, .bool x8), (9, .i6 x2), (8, v5), (5, bp b1 0), (0, va_1), (1, vb_1)]) ?_ ?_
           ·clear hm; obtain ⟨hc7, hm⟩ | ⟨hc7, hm⟩ := ite_or hx3
            ·refine wq_skip rfl rfl rfl rfl (ne_ft hc7) F rfl rfl ?_; clear F a; intro a F
             refine wq_skip rfl rfl rfl rfl (ne_ft hc7) F rfl rfl ?_; clear F a; intro a F
             refine wq_skip rfl rfl rfl rfl (ne_ft hc7) F rfl rfl ?_; clear F a; intro a F
             refine wq_skip rfl rfl rfl rfl (ne_ft hc7) F rfl rfl ?_; clear F a; intro a F
             refine wq_skip rfl rfl rfl rfl (ne_ft hc7) F rfl rfl ?_; clear F a; intro a F
             refine wq_skip rfl rfl rfl rfl (ne_ft hc7) F rfl rfl ?_; clear F a; intro a F
             refine wq_skip rfl rfl rfl rfl (ne_ft hc7) F rfl rfl ?_; clear F a; intro a F
             refine wq_skip rfl rfl rfl rfl (ne_ft hc7) F rfl rfl ?_; clear F a; intro a F
             refine wq_skip rfl rfl rfl rfl (ne_ft hc7) F rfl rfl ?_; clear F a; intro a F
             refine wq_skip rfl rfl rfl rfl (ne_ft hc7) F rfl rfl ?_; clear F a; intro a F
             refine wq_skip rfl rfl rfl rfl (ne_ft hc7) F rfl rfl ?_; clear F a; intro a F
             refine wq_ev (wn rfl) (ev_pickT rfl hc7 rfl) F rfl rfl ?_; clear F a; intro a F
             obtain rfl := sinj hm
             refine wq_nil ?_; exact F.sub ⟨rfl, rfl, rfl, rfl, rfl, rfl, rfl, rfl, trivial⟩
            ·refine wq_ev (wg F rfl rfl rfl rfl hc7) (ev_move rfl) F rfl rfl ?_; clear F a; intro a F
             refine wq_ev (wg F rfl rfl rfl rfl hc7) (ev_move rfl) F rfl rfl ?_; clear F a; intro a F
             obtain ⟨y12, hy12, hm⟩ := bind_some hm
             obtain ⟨cs6, hr8, hp4⟩ := elemS (ha_1.mono (((l1.trans l2).trans l8).trans l11)) hy12
             obtain rfl := rep_SeqOp hr8
             refine wq_ev (wg F rfl rfl rfl rfl hc7) (ev_idxS (ha_1.mono (((l1.trans l2).trans l8).trans l11)) hy12 tu22 ts33 rfl rfl) F rfl rfl ?_; clear F a; intro a F
             have hp5 := PtrC.field hp4 0 1 (lb rfl)
             have hp5 : PtrC g11 (addP (elemP va_1 x7 6) 0) [.bool y12.Delete] := hp5
             refine wq_ev (wg F rfl rfl rfl rfl hc7) (ev_fieldAddr' tu33 tf33_0 (z := 0) ts4 rfl hp4.ptr rfl) F rfl rfl ?_; clear F a; intro a F
             refine wq_ev (wg F rfl rfl rfl rfl hc7) (ev_load1 tu4 rfl rfl (ptr_mono (cks := [c5, [bx b1 #[.i6 0, .i6 0] 25]]) (fr := fr) hp5 (Le.refl _))) F rfl rfl ?_; clear F a; intro a F
             refine wq_ev (wg F rfl rfl rfl rfl hc7) (ev_move rfl) F rfl rfl ?_; clear F a; intro a F
             refine wq_ev (wg F rfl rfl rfl rfl hc7) (ev_move rfl) F rfl rfl ?_; clear F a; intro a F
             obtain ⟨y13, hy13, hm⟩ := bind_some hm
             obtain ⟨cs7, hr9, hp6⟩ := elemS (hb_1.mono (((l1.trans l2).trans l8).trans l11)) hy13
             obtain rfl := rep_SeqOp hr9
             refine wq_ev (wg F rfl rfl rfl rfl hc7) (ev_idxS (hb_1.mono (((l1.trans l2).trans l8).trans l11)) hy13 tu22 ts33 rfl rfl) F rfl rfl ?_; clear F a; intro a F
             have hp7 := PtrC.field hp6 0 1 (lb rfl)
             have hp7 : PtrC g11 (addP (elemP vb_1 x2 6) 0) [.bool y13.Delete] := hp7
             refine wq_ev (wg F rfl rfl rfl rfl hc7) (ev_fieldAddr' tu33 tf33_0 (z := 0) ts4 rfl hp6.ptr rfl) F rfl rfl ?_; clear F a; intro a F
             refine wq_ev (wg F rfl rfl rfl rfl hc7) (ev_load1 tu4 rfl rfl (ptr_mono (cks := [c5, [bx b1 #[.i6 0, .i6 0] 25]]) (fr := fr) hp7 (Le.refl _))) F rfl rfl ?_; clear F a; intro a F
             refine wq_ev (wg F rfl rfl rfl rfl hc7) (ev_neB tu4 rfl rfl) F rfl rfl ?_; clear F a; intro a F
             refine wq_ev (wn rfl) (ev_pickF rfl hc7 rfl) F rfl rfl ?_; clear F a; intro a F
             obtain rfl := sinj hm
             refine wq_nil ?_; exact F.sub ⟨rfl, rfl, rfl, rfl, rfl, rfl, rfl, rfl, trivial⟩
           clear F; intro a F
           refine wq_nil ?_; clear S; intro w S
           refine then_n ?_
           obtain ⟨hc8, hm⟩ | ⟨hc8, hm⟩ := ite_or hm
           ·refine wp_condT F rfl hc8 ?_
            refine wp_exit ?_
            refine then_e ?_
            refine inb_x ?_
            refine then_n ?_
            exact ⟨x8, g11, F.sub ⟨rfl, rfl, rfl, rfl, rfl, rfl, rfl, trivial⟩, (Le.refl _), S, hm⟩
           ·refine wp_condF F rfl hc8 ?_
            refine wp_skip ?_
            refine then_n ?_
            refine wp_seq ?_
            refine wp_seq ?_
            refine wp_quiet mo (by kernel_rfl) S ?_
            refine wq_ev (wn rfl) (ev_move rfl) F rfl rfl ?_; clear F a; intro a F
            refine wq_ev (wn rfl) (ev_move rfl) F rfl rfl ?_; clear F a; intro a F
            obtain ⟨y14, hy14, hm⟩ := bind_some hm
            obtain ⟨cs8, hr10, hp8⟩ := elemS (ha_1.mono (((l1.trans l2).trans l8).trans l11)) hy14
            obtain rfl := rep_SeqOp hr10
            refine wq_ev (wn rfl) (ev_idxS (ha_1.mono (((l1.trans l2).trans l8).trans l11)) hy14 tu22 ts33 rfl rfl) F rfl rfl ?_; clear F a; intro a F
            refine wq_ev (wn rfl) (ev_loadA tu33 rfl (cs := [.bool y14.Delete, .i6 y14.Replica, .i6 y14.Counter, .i6 y14.AfterReplica, .i6 y14.AfterCounter, .string y14.Line]) ts33 rfl (ptr_mono (cks := [c5, [bx b1 #[.i6 0, .i6 0] 25]]) (fr := fr) hp8 (Le.refl _))) F rfl rfl ?_; clear F a; intro a F
            refine wq_ev (wn rfl) (ev_move rfl) F rfl rfl ?_; clear F a; intro a F
            refine wq_ev (wn rfl) (ev_move rfl) F rfl rfl ?_; clear F a; intro a F
            obtain ⟨y15, hy15, hm⟩ := bind_some hm
            obtain ⟨cs9, hr11, hp9⟩ := elemS (hb_1.mono (((l1.trans l2).trans l8).trans l11)) hy15
            obtain rfl := rep_SeqOp hr11
            refine wq_ev (wn rfl) (ev_idxS (hb_1.mono (((l1.trans l2).trans l8).trans l11)) hy15 tu22 ts33 rfl rfl) F rfl rfl ?_; clear F a; intro a F
            refine wq_ev (wn rfl) (ev_loadA tu33 rfl (cs := [.bool y15.Delete, .i6 y15.Replica, .i6 y15.Counter, .i6 y15.AfterReplica, .i6 y15.AfterCounter, .string y15.Line]) ts33 rfl (ptr_mono (cks := [c5, [bx b1 #[.i6 0, .i6 0] 25]]) (fr := fr) hp9 (Le.refl _))) F rfl rfl ?_; clear F a; intro a F
            refine wq_ev (wn rfl) (ev_neS tu33 tqa33 tqb33 tqc33 (xs := [.bool y14.Delete, .i6 y14.Replica, .i6 y14.Counter, .i6 y14.AfterReplica, .i6 y14.AfterCounter, .string y14.Line]) (ys := [.bool y15.Delete, .i6 y15.Replica, .i6 y15.Counter, .i6 y15.AfterReplica, .i6 y15.AfterCounter, .string y15.Line]) rfl rfl ⟨_, _, rfl, by decide, ⟨_, _, rfl, rfl, leaf_bool tu4⟩, ⟨_, _, rfl, by decide, ⟨_, _, rfl, rfl, leaf_int tu3⟩, ⟨_, _, rfl, by decide, ⟨_, _, rfl, rfl, leaf_int tu3⟩, ⟨_, _, rfl, by decide, ⟨_, _, rfl, rfl, leaf_int tu3⟩, ⟨_, _, rfl, by decide, ⟨_, _, rfl, rfl, leaf_int tu3⟩, ⟨_, _, rfl, by decide, ⟨_, _, rfl, rfl, leaf_str tu9⟩, rfl⟩⟩⟩⟩⟩⟩) F rfl rfl ?_; clear F a; intro a F
            refine wq_nil ?_; clear S; intro w S
            refine then_n ?_
            obtain ⟨hc9, hm⟩ | ⟨hc9, hm⟩ := ite_or hm
            ·refine wp_condT F rfl hc9 ?_
             refine wp_seq ?_
             refine wp_region_lit ?_
             refine wE (ev_move rfl) F S rfl fun a F=>?_
             obtain ⟨y16, hy16, hm⟩ := bind_some hm
             refine wl_call0 (wn rfl) rfl F rfl (changeforgeref1_At_ok (fr := (fl [c5, [bx b1 #[.i6 0, .i6 0] 25]] fr)) 19 x2 S hy16) rfl tc34 rfl rfl ?_; clear F a S
             rintro _ a w ⟨g14, l14, S, rfl⟩ F; replace S : St g14 [c5, [bx b1 #[.i6 0, .i6 0] 25]] fr w := S
             refine wE (ev_assign rfl) F S rfl fun a F=>?_
             refine wl_storeC (wn rfl) rfl F S rfl rfl (vs := [.i6 y16.Code, .i6 y16.Index]) rfl ts25 (one_cons rfl (one_cons rfl one_nil)) (k := 1) rfl (lb rfl) (c' := #[.i6 y16.Code, .i6 y16.Index]) rfl rfl ?_; clear S; intro w S
             refine wpList_nil ?_
             refine then_n ?_
             refine wp_ret ?_
             refine then_r ?_
             refine inb_r ?_
             refine then_r ?_
             refine then_r ?_
             refine inb_r ?_
             refine then_r ?_
             refine inb_r ?_
             refine then_r ?_
             refine then_r ?_
             refine inb_r ?_
             refine then_r ?_
             obtain rfl := sinj hm
             obtain rfl := hfin2 _ rfl
             clear hm
             have hm : (some (Step.done (Sum.inl ([], y16))) : Option (Step (Int × (List SeqOp)) (((List SeqOp) × Fault) ⊕ (List SeqOp)))) = some _ := hmo2
             obtain rfl := sinj hm
             obtain rfl := hfin1 _ rfl
             clear hm
             have hm : (some ([], y16) : Option ((List SeqOp) × Fault)) = some _ := hmo1
             obtain rfl := sinj hm
             replace S : St g14 [[], c5, [bx b1 #[.i6 y16.Code, .i6 y16.Index] 25]] fr w := S
             refine post_r _ F rfl (ar_cons (resT rfl) (ar_cons (resA rfl tu25 rfl (box_ptr (cells := [.i6 y16.Code, .i6 y16.Index]) 2 rfl 0 rfl (lb rfl) w S) ts25) ar_nil)) ?_
             replace S : St g14 [[]] fr w := St.tail [[]] _ (S.frontC 0 rfl)
             exact ⟨_, rfl, g14, (nilS), [], ((((l1.trans l2).trans l8).trans l11).trans l14), S, (OwnS.nil _), rfl⟩
            ·refine wp_condF F rfl hc9 ?_
             refine wp_skip ?_
             refine then_n ?_
             refine wp_region_lit ?_
             refine wE (ev_assign rfl) F S rfl fun a F=>?_
             refine wpList_nil ?_
             refine inb_n ?_
             refine then_n ?_
             exact ⟨true, g11, F.sub ⟨rfl, rfl, rfl, rfl, rfl, rfl, rfl, trivial⟩, (Le.refl _), S, hm⟩
          ·clear F S hm; rintro a w ⟨x10, g12, F, l12, S, hm⟩
           refine wp_region_lit ?_
           refine wE (ev_move rfl) F S rfl fun a F=>?_
           obtain ⟨z2, hz2, hm⟩ := bind_some hm
           refine wE (ev_int rfl rfl (bo_add hz2)) F S rfl fun a F=>?_
           refine wE (ev_assign rfl) F S rfl fun a F=>?_
           refine wpList_nil ?_
           refine then_n ?_
           obtain rfl := sinj hm
           refine ⟨_, rfl, ?_⟩
           dsimp only
           exact ⟨g12, F.sub ⟨rfl, rfl, rfl, rfl, rfl, rfl, rfl, trivial⟩, (l11.trans l12), S⟩
         ·refine wp_condF F rfl hc6 ?_
          refine wp_exit ?_
          refine then_e ?_
          refine then_e ?_
          refine inb_x ?_
          refine then_n ?_
          obtain rfl := sinj hm
          obtain rfl := hfin2 _ rfl
          clear hm
          have hm : (changeforgeref2_Union.j3 b_ x2 x3 x8 : Option (Step (Int × (List SeqOp)) (((List SeqOp) × Fault) ⊕ (List SeqOp)))) = some _ := hmo2
          exact ⟨x8, g11, F.sub ⟨rfl, rfl, rfl, rfl, rfl, rfl, trivial⟩, l11, S, hm⟩
       ·clear F S hm; rintro a w ⟨x6, g10, F, l10, S, hm⟩
        refine wp_seq ?_
        refine wp_region_lit ?_
        refine wE (ev_move rfl) F S rfl fun a F=>?_
        refine wE (ev_not rfl) F S rfl fun a F=>?_
        refine wpList_nil ?_
        refine then_n ?_
        obtain ⟨hc5, hm⟩ | ⟨hc5, hm⟩ := ite_or hm
        ·refine wp_condT F rfl hc5 ?_
         refine wp_region_lit ?_
         refine wE (ev_move rfl) F S rfl fun a F=>?_
         refine wE (ev_move rfl) F S rfl fun a F=>?_
         refine wE (ev_move rfl) F S rfl fun a F=>?_
         obtain ⟨y7, hy7, hm⟩ := bind_some hm
         obtain ⟨cs2, hr3, hp1⟩ := elemS (hb_1.mono (((l1.trans l2).trans l8).trans l10)) hy7
         obtain rfl := rep_SeqOp hr3
         refine wE (ev_idxS (hb_1.mono (((l1.trans l2).trans l8).trans l10)) hy7 tu22 ts33 rfl rfl) F S rfl fun a F=>?_
         refine wE (ev_loadA tu33 rfl (cs := [.bool y7.Delete, .i6 y7.Replica, .i6 y7.Counter, .i6 y7.AfterReplica, .i6 y7.AfterCounter, .string y7.Line]) ts33 rfl (ptr_mono (cks := [c5, [bx b1 #[.i6 0, .i6 0] 25]]) (fr := fr) hp1 (Le.refl _))) F S rfl fun a F=>?_
         refine wl_lit (l := ([y7] : List SeqOp)) (vs := [.agg #[.bool y7.Delete, .i6 y7.Replica, .i6 y7.Counter, .i6 y7.AfterReplica, .i6 y7.AfterCounter, .string y7.Line]]) (parts := [(0, .tmp 81)]) (wn rfl) rfl rfl rfl tu22 te33 (sz_cons rfl sz_nil) rfl (Cat.cons (rep_SeqOp_mk (x := y7) ) (Cat.nil _)) (coa_cons rfl coa_nil) rfl F S rfl rfl ?_; clear F a S
         rintro v7 c7 a w h8 F S
         obtain ⟨cs3, hk2, hr4⟩ := OwnS.reads h8
         obtain ⟨y8, hy8, hm⟩ := bind_some hm
         refine wl_append (wn rfl) rfl tu22 tu22 te33 (by decide) (by decide) F S rfl rfl (k := 1) rfl (h6.mono l10) hk2 rfl (hr4 _ _ _ 0 rfl S) hy8 rfl rfl ?_; clear F a S
         rintro v8 c8 a w h9 S F; replace S : St g10 [c7, c8, [bx b1 #[.i6 0, .i6 0] 25]] fr w := S
         refine wE (ev_assign rfl) F S rfl fun a F=>?_
         refine wpList_nil ?_
         refine inb_n ?_
         refine then_n ?_
         replace S : St g10 [c8, [bx b1 #[.i6 0, .i6 0] 25]] fr w := St.tail [c8, [bx b1 #[.i6 0, .i6 0] 25]] _ ((S.frontC 2 rfl).frontC 2 rfl)
         exact ⟨y8, v8, c8, g10, F.sub ⟨rfl, rfl, rfl, rfl, rfl, trivial⟩, l10, S, h9, hm⟩
        ·refine wp_condF F rfl hc5 ?_
         refine wp_skip ?_
         refine inb_n ?_
         refine then_n ?_
         exact ⟨x3, v5, c5, g10, F.sub ⟨rfl, rfl, rfl, rfl, rfl, trivial⟩, l10, S, (h6.mono l10), hm⟩
      ·clear F S hm; rintro a w ⟨x5, v6, c6, g9, F, l9, S, h7, hm⟩
       refine wp_region_lit ?_
       refine wE (ev_move rfl) F S rfl fun a F=>?_
       obtain ⟨z1, hz1, hm⟩ := bind_some hm
       refine wE (ev_int rfl rfl (bo_add hz1)) F S rfl fun a F=>?_
       refine wE (ev_assign rfl) F S rfl fun a F=>?_
       refine wpList_nil ?_
       refine then_n ?_
       obtain rfl := sinj hm
       refine ⟨_, rfl, ?_⟩
       dsimp only
       exact ⟨v6, c6, g9, F.sub ⟨rfl, rfl, rfl, rfl, rfl, trivial⟩, (l8.trans l9), S, h7⟩
     ·refine wp_condF F rfl hc4 ?_
      refine wp_exit ?_
      refine then_e ?_
      refine then_e ?_
      refine inb_x ?_
      refine then_n ?_
      obtain rfl := sinj hm
      obtain rfl := hfin1 _ rfl
      clear hm
      have hm : (changeforgeref2_Union.j1 x3 : Option ((List SeqOp) × Fault)) = some _ := hmo1
      exact ⟨x3, v5, c5, g8, F.sub ⟨rfl, rfl, trivial⟩, l8, S, h6, hm⟩
   ·clear F S hm; rintro a w ⟨x1, v3, c3, g4, F, l4, S, h3, hm⟩
    refine wp_seq ?_
    refine wp_seq ?_
    refine wp_region_lit ?_
    refine wE (ev_move rfl) F S rfl fun a F=>?_
    refine wE (ev_lenOw h3 rfl tu22) F S rfl fun a F=>?_
    refine wE (ev_int rfl rfl (bo_gtr _ _ _ _)) F S rfl fun a F=>?_
    refine wpList_nil ?_
    refine then_n ?_
    obtain ⟨hc3, hm⟩ | ⟨hc3, hm⟩ := ite_or hm
    ·refine wp_condT F rfl hc3 ?_
     refine wp_seq ?_
     refine wp_region_lit ?_
     obtain ⟨y5, hy5, hm⟩ := bind_some hm
     refine wl_call0 (wn rfl) rfl F rfl (changeforgeref1_At_ok (fr := (fl [c3, [bx b1 #[.i6 0, .i6 0] 25]] fr)) 10 (-1) S hy5) rfl tc34 rfl rfl ?_; clear F a S
     rintro _ a w ⟨g5, l5, S, rfl⟩ F; replace S : St g5 [c3, [bx b1 #[.i6 0, .i6 0] 25]] fr w := S
     refine wE (ev_assign rfl) F S rfl fun a F=>?_
     refine wl_storeC (wn rfl) rfl F S rfl rfl (vs := [.i6 y5.Code, .i6 y5.Index]) rfl ts25 (one_cons rfl (one_cons rfl one_nil)) (k := 1) rfl (lb rfl) (c' := #[.i6 y5.Code, .i6 y5.Index]) rfl rfl ?_; clear S; intro w S
     refine wpList_nil ?_
     refine then_n ?_
     refine wp_ret ?_
     refine then_r ?_
     obtain rfl := sinj hm
     replace S : St g5 [[], c3, [bx b1 #[.i6 y5.Code, .i6 y5.Index] 25]] fr w := S
     refine post_r _ F rfl (ar_cons (resT rfl) (ar_cons (resA rfl tu25 rfl (box_ptr (cells := [.i6 y5.Code, .i6 y5.Index]) 2 rfl 0 rfl (lb rfl) w S) ts25) ar_nil)) ?_
     replace S : St g5 [[]] fr w := St.tail [[]] _ (S.frontC 0 rfl)
     exact ⟨_, rfl, g5, (nilS), [], (((l1.trans l2).trans l4).trans l5), S, (OwnS.nil _), rfl⟩
    ·refine wp_condF F rfl hc3 ?_
     refine wp_skip ?_
     refine then_n ?_
     refine wp_seq ?_
     refine wp_region_lit ?_
     refine wE (ev_move rfl) F S rfl fun a F=>?_
     obtain ⟨g6, l6, S, h4⟩ : ∃ gz, Le g4 gz ∧ St gz [[bx b1 #[.i6 0, .i6 0] 25]] fr w ∧ RepSl gz x1 v3 := ⟨_, Le.add _ _, S.freeze 0 rfl, OwnS.freeze (S.front 0 rfl) h3⟩
     obtain ⟨y6, hy6, hm⟩ := bind_some hm
     refine wl_call0 (wn rfl) rfl F rfl (changeforgeref2_Sorted_ok (fr := (fl [[bx b1 #[.i6 0, .i6 0] 25]] fr)) x1 v3 h4 S hy6) rfl tc35 rfl rfl ?_; clear F a S
     rintro _ a w ⟨g7, v4, c4, l7, S, h5, rfl⟩ F; replace S : St g7 [c4, [bx b1 #[.i6 0, .i6 0] 25]] fr w := S
     refine wE (ev_build (parts := []) (vs := []) rfl (fun w => tb25_  w)) F S rfl fun a F=>?_
     refine wE (ev_assign rfl) F S rfl fun a F=>?_
     refine wl_storeC (wn rfl) rfl F S rfl rfl (vs := [.i6 0, .i6 0]) rfl ts25 (one_cons rfl (one_cons rfl one_nil)) (k := 1) rfl (lb rfl) (c' := #[.i6 0, .i6 0]) rfl rfl ?_; clear S; intro w S
     refine wpList_nil ?_
     refine then_n ?_
     refine wp_ret ?_
     obtain rfl := sinj hm
     refine post_r _ F rfl (ar_cons (resT rfl) (ar_cons (resA rfl tu25 rfl (box_ptr (cells := [.i6 0, .i6 0]) 1 rfl 0 rfl (lb rfl) w S) ts25) ar_nil)) ?_
     replace S : St g7 [c4] fr w := St.tail [c4] _ (S.frontC 0 rfl)
     exact ⟨_, rfl, g7, v4, c4, ((((l1.trans l2).trans l4).trans l6).trans l7), S, h5, rfl⟩

theorem changeforgeref2_Visible_ok {g : Gh} {fr : Hl} {w : World} {r : (List ByteArray)} (l_ : (List SeqOp)) (vl_1 : Value) (hl_1 : RepSl g l_ vl_1) (S : St g [] fr w) (hm : changeforgeref2_Visible l_ = some r) :
  Calls Try.prog 22 [vl_1].toArray w (fun en w' => ∃ v, en = .returned v ∧ ∃ (g' : Gh) (v1 : Value) (c1 : Hl), Le g g' ∧ St g' [c1] fr w' ∧ OwnS g' r v1 c1 ∧ v1 = v) := by
 unfold changeforgeref2_Visible at hm
 refine calls_enter (fn := Try.f22) Try.func22 rfl Try.ntmps22 (lb rfl) ?_
 intro a F
 replace F : Fr 127 a [(0, vl_1)] := F
 refine wp_seq ?_
 refine wp_region_lit ?_
 refine wE (ev_assign rfl) F S rfl fun a F=>?_
 refine wpList_nil ?_
 refine then_n ?_
 refine wp_seq ?_
 refine wp_region_lit ?_
 refine wE (ev_move rfl) F S rfl fun a F=>?_
 obtain ⟨y1, hy1, hm⟩ := bind_some hm
 refine wl_call0 (wn rfl) rfl F rfl (changeforgeref2_Sorted_ok l_ vl_1 hl_1 S hy1) rfl tc35 rfl rfl ?_; clear F a S
 rintro _ a w ⟨g1, v1, c1, l1, S, h1, rfl⟩ F; replace S : St g1 [c1] fr w := S
 refine wE (ev_assign rfl) F S rfl fun a F=>?_
 refine wpList_nil ?_
 refine then_n ?_
 refine wp_seq ?_
 refine wp_region_lit ?_
 refine wE (ev_assign rfl) F S rfl fun a F=>?_
 refine wpList_nil ?_
 refine then_n ?_
 refine wp_cut (fun a w => ∃ (x1 : List SeqOp) (v2 : Value) (c2 : Hl) (g2 : Gh), Fr 127 a [(4, v2), (0, vl_1)] ∧ Le g1 g2 ∧ St g2 [c2] fr w ∧ OwnS g2 x1 v2 c2 ∧ changeforgeref2_Visible.j1 l_ x1 = some r) ?_ ?_
 ·refine wp_seq ?_
  refine wp_region_lit ?_
  refine wE (ev_assign rfl) F S rfl fun a F=>?_
  refine wpList_nil ?_
  refine then_n ?_
  refine wp_block ?_
  obtain ⟨r3, hr8, hm⟩ := bind_some hm
  have hmo3 := hm; clear hm
  refine wp_iter (σ := Int × (List SeqOp)) (ρ := (List SeqOp)) (m := fun s => changeforgeref2_Visible.l3 y1 s.1 s.2) (I := fun s a w => match s with | (x13, x14) => ∃ (v8 : Value) (c8 : Hl) (g9 : Gh), Fr 127 a [(5, .i6 x13), (4, v8), (3, v1), (0, vl_1)] ∧ Le g1 g9 ∧ St g9 [c8, c1] fr w ∧ OwnS g9 x14 v8 c8) hr8 ?_ ?_
  ·dsimp only
   replace S : St g1 [[], c1] fr w := S
   exact ⟨(nilS), [], g1, F.sub ⟨rfl, rfl, rfl, rfl, trivial⟩, (Le.refl _), S, (OwnS.nil _)⟩
  ·clear F S; rintro ⟨x13, x14⟩ a w x15 ⟨v8, c8, g9, F, l9, S, h8⟩ hx5 hfin3
   have hm : changeforgeref2_Visible.l3 y1 x13 x14 = some x15 := hx5; clear hx5
   unfold changeforgeref2_Visible.l3 at hm
   refine wp_seq ?_
   refine wp_seq ?_
   refine wp_region_lit ?_
   refine wE (ev_move rfl) F S rfl fun a F=>?_
   refine wE (ev_move rfl) F S rfl fun a F=>?_
   refine wE (ev_lenOw h1 rfl tu22) F S rfl fun a F=>?_
   refine wE (ev_int rfl rfl (bo_lss _ _ _ _)) F S rfl fun a F=>?_
   refine wpList_nil ?_
   refine then_n ?_
   obtain ⟨hc6, hm⟩ | ⟨hc6, hm⟩ := ite_or hm
   ·refine wp_condT F rfl hc6 ?_
    refine wp_skip ?_
    refine then_n ?_
    refine wp_cut (fun a w => ∃ (x16 : List SeqOp) (v9 : Value) (c9 : Hl) (g10 : Gh), Fr 127 a [(5, .i6 x13), (4, v9), (3, v1), (0, vl_1)] ∧ Le g9 g10 ∧ St g10 [c9, c1] fr w ∧ OwnS g10 x16 v9 c9 ∧ changeforgeref2_Visible.j5 x13 x16 = some x15) ?_ ?_
    ·refine wp_block ?_
     refine wp_seq ?_
     refine wp_seq ?_
     refine wp_region_lit ?_
     refine wE (ev_move rfl) F S rfl fun a F=>?_
     refine wE (ev_move rfl) F S rfl fun a F=>?_
     obtain ⟨y8, hy8, hm⟩ := bind_some hm
     refine wE (ev_idxO (h1.mono l9) hy8 tu22 ts33 rfl rfl) F S rfl fun a F=>?_
     refine wE (ev_fieldAddr' tu33 tf33_0 (z := 0) ts4 rfl (elemO_ptr (h1.mono l9) hy8) addP_zero) F S rfl fun a F=>?_
     obtain ⟨cs6, hr9, hq3⟩ := elemO (h1.mono l9) hy8
     obtain rfl := rep_SeqOp hr9
     refine wE (ev_load1 tu4 rfl rfl (fun w s => fieldP0 (cells := [.bool y8.Delete]) (hq3 _ _ 1 rfl w s) rfl (lb rfl))) F S rfl fun a F=>?_
     refine wpList_nil ?_
     refine then_n ?_
     obtain ⟨hc7, hm⟩ | ⟨hc7, hm⟩ := ite_or hm
     ·refine wp_condT F rfl hc7 ?_
      refine wp_exit ?_
      refine then_e ?_
      refine inb_x ?_
      refine then_n ?_
      exact ⟨x14, v8, c8, g9, F.sub ⟨rfl, rfl, rfl, rfl, trivial⟩, (Le.refl _), S, h8, hm⟩
     ·refine wp_condF F rfl hc7 ?_
      refine wp_skip ?_
      refine then_n ?_
      refine wp_seq ?_
      refine wp_region_lit ?_
      refine wE (ev_assign rfl) F S rfl fun a F=>?_
      refine wpList_nil ?_
      refine then_n ?_
      refine wp_cut (fun a w => ∃ (x17 : Int) (g11 : Gh), Fr 127 a [(6, .i6 x17), (5, .i6 x13), (4, v8), (3, v1), (0, vl_1)] ∧ Le g9 g11 ∧ St g11 [c8, c1] fr w ∧ changeforgeref2_Visible.j6 y1 x13 x14 x17 = some x15) ?_ ?_
      ·refine wp_seq ?_
       refine wp_region_lit ?_
       refine wE (ev_assign rfl) F S rfl fun a F=>?_
       refine wpList_nil ?_
       refine then_n ?_
       refine wp_block ?_
       obtain ⟨r5, hr14, hm⟩ := bind_some hm
       have hmo5 := hm; clear hm
       refine wp_iter (σ := Int × Int) (ρ := Int) (m := fun s => changeforgeref2_Visible.l5 y1 x13 x14 s.1 s.2) (I := fun s a w => match s with | (x22, x23) => ∃ (g14 : Gh), Fr 127 a [(7, .i6 x22), (6, .i6 x23), (5, .i6 x13), (4, v8), (3, v1), (0, vl_1)] ∧ Le g9 g14 ∧ St g14 [c8, c1] fr w) hr14 ?_ ?_
       ·dsimp only
        exact ⟨g9, F.sub ⟨rfl, rfl, rfl, rfl, rfl, rfl, trivial⟩, (Le.refl _), S⟩
       ·clear F S; rintro ⟨x22, x23⟩ a w x24 ⟨g14, F, l14, S⟩ hx7 hfin5
        have hm : changeforgeref2_Visible.l5 y1 x13 x14 x22 x23 = some x24 := hx7; clear hx7
        unfold changeforgeref2_Visible.l5 at hm
        refine wp_seq ?_
        refine wp_seq ?_
        refine wp_region_lit ?_
        refine wE (ev_move rfl) F S rfl fun a F=>?_
        refine wE (ev_move rfl) F S rfl fun a F=>?_
        refine wE (ev_lenOw h8 rfl tu22) F S rfl fun a F=>?_
        refine wE (ev_int rfl rfl (bo_lss _ _ _ _)) F S rfl fun a F=>?_
        refine wpList_nil ?_
        refine then_n ?_
        obtain ⟨hc9, hm⟩ | ⟨hc9, hm⟩ := ite_or hm
        ·refine wp_condT F rfl hc9 ?_
         refine wp_skip ?_
         refine then_n ?_
         refine wp_cut (fun a w => ∃ (x25 : Int) (g15 : Gh), Fr 127 a [(6, .i6 x25), (7, .i6 x22), (5, .i6 x13), (4, v8), (3, v1), (0, vl_1)] ∧ Le g14 g15 ∧ St g15 [c8, c1] fr w ∧ changeforgeref2_Visible.j8 x22 x25 = some x24) ?_ ?_
         ·refine wp_block ?_
          refine wp_seq ?_
          refine wp_quiet mo (by kernel_rfl) S ?_
          refine wq_ev (wn rfl) (ev_move rfl) F rfl rfl ?_; clear F a; intro a F
          refine wq_ev (wn rfl) (ev_move rfl) F rfl rfl ?_; clear F a; intro a F
          obtain ⟨y16, hy16, hm⟩ := bind_some hm
          refine wq_ev (wn rfl) (ev_idxO (h8.mono l14) hy16 tu22 ts33 rfl rfl) F rfl rfl ?_; clear F a; intro a F
          refine wq_ev (wn rfl) (ev_fieldAddr' tu33 tf33_2 (z := 0) ts3 rfl (elemO_ptr (h8.mono l14) hy16) rfl) F rfl rfl ?_; clear F a; intro a F
          obtain ⟨cs10, hr15, hq6⟩ := elemO (h8.mono l14) hy16
          obtain rfl := rep_SeqOp hr15
          refine wq_ev (wn rfl) (ev_load1 tu3 rfl rfl (fun w s => fieldP (cells := [.i6 y16.Counter]) 2 (hq6 _ _ 0 rfl w s) rfl (lb rfl))) F rfl rfl ?_; clear F a; intro a F
          refine wq_ev (wn rfl) (ev_move rfl) F rfl rfl ?_; clear F a; intro a F
          refine wq_ev (wn rfl) (ev_move rfl) F rfl rfl ?_; clear F a; intro a F
          obtain ⟨y17, hy17, hm⟩ := bind_some hm
          refine wq_ev (wn rfl) (ev_idxO (h1.mono (l9.trans l14)) hy17 tu22 ts33 rfl rfl) F rfl rfl ?_; clear F a; intro a F
          refine wq_ev (wn rfl) (ev_fieldAddr' tu33 tf33_4 (z := 0) ts3 rfl (elemO_ptr (h1.mono (l9.trans l14)) hy17) rfl) F rfl rfl ?_; clear F a; intro a F
          obtain ⟨cs11, hr16, hq7⟩ := elemO (h1.mono (l9.trans l14)) hy17
          obtain rfl := rep_SeqOp hr16
          refine wq_ev (wn rfl) (ev_load1 tu3 rfl rfl (fun w s => fieldP (cells := [.i6 y17.AfterCounter]) 4 (hq7 _ _ 1 rfl w s) rfl (lb rfl))) F rfl rfl ?_; clear F a; intro a F
          refine wq_ev (wn rfl) (ev_int rfl rfl (bo_eql _ _ _ _)) F rfl rfl ?_; clear F a; intro a F
          refine wq_ev (wn rfl) (ev_move rfl) F rfl rfl ?_; clear F a; intro a F
          obtain ⟨x26, hx8, hm⟩ := bind_some hm
          refine wq_cut 12 (fun a => Fr 127 a [(55, .bool x26), (7, .i6 x22), (6, .i6 x23), (5, .i6 x13), (4, v8), (3, v1), (0, vl_1)]) ?_ ?_
          ·clear hm; obtain ⟨hc10, hm⟩ | ⟨hc10, hm⟩ := ite_or hx8
           ·refine wq_ev (wg F rfl rfl rfl rfl hc10) (ev_move rfl) F rfl rfl ?_; clear F a; intro a F
            refine wq_ev (wg F rfl rfl rfl rfl hc10) (ev_move rfl) F rfl rfl ?_; clear F a; intro a F
            obtain ⟨y18, hy18, hm⟩ := bind_some hm
            refine wq_ev (wg F rfl rfl rfl rfl hc10) (ev_idxO (h8.mono l14) hy18 tu22 ts33 rfl rfl) F rfl rfl ?_; clear F a; intro a F
            refine wq_ev (wg F rfl rfl rfl rfl hc10) (ev_fieldAddr' tu33 tf33_1 (z := 0) ts3 rfl (elemO_ptr (h8.mono l14) hy18) rfl) F rfl rfl ?_; clear F a; intro a F
            obtain ⟨cs12, hr17, hq8⟩ := elemO (h8.mono l14) hy18
            obtain rfl := rep_SeqOp hr17
            refine wq_ev (wg F rfl rfl rfl rfl hc10) (ev_load1 tu3 rfl rfl (fun w s => fieldP (cells := [.i6 y18.Replica]) 1 (hq8 _ _ 0 rfl w s) rfl (lb rfl))) F rfl rfl ?_; clear F a; intro a F
            refine wq_ev (wg F rfl rfl rfl rfl hc10) (ev_move rfl) F rfl rfl ?_; clear F a; intro a F
            refine wq_ev (wg F rfl rfl rfl rfl hc10) (ev_move rfl) F rfl rfl ?_; clear F a; intro a F
            obtain ⟨y19, hy19, hm⟩ := bind_some hm
            refine wq_ev (wg F rfl rfl rfl rfl hc10) (ev_idxO (h1.mono (l9.trans l14)) hy19 tu22 ts33 rfl rfl) F rfl rfl ?_; clear F a; intro a F
            refine wq_ev (wg F rfl rfl rfl rfl hc10) (ev_fieldAddr' tu33 tf33_3 (z := 0) ts3 rfl (elemO_ptr (h1.mono (l9.trans l14)) hy19) rfl) F rfl rfl ?_; clear F a; intro a F
            obtain ⟨cs13, hr18, hq9⟩ := elemO (h1.mono (l9.trans l14)) hy19
            obtain rfl := rep_SeqOp hr18
            refine wq_ev (wg F rfl rfl rfl rfl hc10) (ev_load1 tu3 rfl rfl (fun w s => fieldP (cells := [.i6 y19.AfterReplica]) 3 (hq9 _ _ 1 rfl w s) rfl (lb rfl))) F rfl rfl ?_; clear F a; intro a F
            refine wq_ev (wg F rfl rfl rfl rfl hc10) (ev_int rfl rfl (bo_eql _ _ _ _)) F rfl rfl ?_; clear F a; intro a F
            refine wq_ev (wn rfl) (ev_pickT rfl hc10 rfl) F rfl rfl ?_; clear F a; intro a F
            obtain rfl := sinj hm
            refine wq_nil ?_; exact F.sub ⟨rfl, rfl, rfl, rfl, rfl, rfl, rfl, trivial⟩
           ·refine wq_skip rfl rfl rfl rfl (ne_tf hc10) F rfl rfl ?_; clear F a; intro a F
            refine wq_skip rfl rfl rfl rfl (ne_tf hc10) F rfl rfl ?_; clear F a; intro a F
            refine wq_skip rfl rfl rfl rfl (ne_tf hc10) F rfl rfl ?_; clear F a; intro a F
            refine wq_skip rfl rfl rfl rfl (ne_tf hc10) F rfl rfl ?_; clear F a; intro a F
            refine wq_skip rfl rfl rfl rfl (ne_tf hc10) F rfl rfl ?_; clear F a; intro a F
            refine wq_skip rfl rfl rfl rfl (ne_tf hc10) F rfl rfl ?_; clear F a; intro a F
            refine wq_skip rfl rfl rfl rfl (ne_tf hc10) F rfl rfl ?_; clear F a; intro a F
            refine wq_skip rfl rfl rfl rfl (ne_tf hc10) F rfl rfl ?_; clear F a; intro a F
            refine wq_skip rfl rfl rfl rfl (ne_tf hc10) F rfl rfl ?_; clear F a; intro a F
            refine wq_skip rfl rfl rfl rfl (ne_tf hc10) F rfl rfl ?_; clear F a; intro a F
            refine wq_skip rfl rfl rfl rfl (ne_tf hc10) F rfl rfl ?_; clear F a; intro a F
            refine wq_ev (wn rfl) (ev_pickF rfl hc10 rfl) F rfl rfl ?_; clear F a; intro a F
            obtain rfl := sinj hm
            refine wq_nil ?_; exact F.sub ⟨rfl, rfl, rfl, rfl, rfl, rfl, rfl, trivial⟩
          clear F; intro a F
          refine wq_nil ?_; clear S; intro w S
          refine then_n ?_
          obtain ⟨hc11, hm⟩ | ⟨hc11, hm⟩ := ite_or hm
          ·refine wp_condT F rfl hc11 ?_
           refine wp_region_lit ?_
           refine wE (ev_move rfl) F S rfl fun a F=>?_
           obtain ⟨z8, hz8, hm⟩ := bind_some hm
           refine wE (ev_int rfl rfl (bo_add hz8)) F S rfl fun a F=>?_
           refine wE (ev_assign rfl) F S rfl fun a F=>?_
           refine wpList_nil ?_
           refine inb_n ?_
           refine then_n ?_
           exact ⟨z8, g14, F.sub ⟨rfl, rfl, rfl, rfl, rfl, rfl, trivial⟩, (Le.refl _), S, hm⟩
          ·refine wp_condF F rfl hc11 ?_
           refine wp_skip ?_
           refine inb_n ?_
           refine then_n ?_
           exact ⟨x23, g14, F.sub ⟨rfl, rfl, rfl, rfl, rfl, rfl, trivial⟩, (Le.refl _), S, hm⟩
         ·clear F S hm; rintro a w ⟨x25, g15, F, l15, S, hm⟩
          refine wp_region_lit ?_
          refine wE (ev_move rfl) F S rfl fun a F=>?_
          obtain ⟨z7, hz7, hm⟩ := bind_some hm
          refine wE (ev_int rfl rfl (bo_add hz7)) F S rfl fun a F=>?_
          refine wE (ev_assign rfl) F S rfl fun a F=>?_
          refine wpList_nil ?_
          refine then_n ?_
          obtain rfl := sinj hm
          refine ⟨_, rfl, ?_⟩
          dsimp only
          exact ⟨g15, F.sub ⟨rfl, rfl, rfl, rfl, rfl, rfl, trivial⟩, (l14.trans l15), S⟩
        ·refine wp_condF F rfl hc9 ?_
         refine wp_exit ?_
         refine then_e ?_
         refine then_e ?_
         refine inb_x ?_
         refine then_n ?_
         obtain rfl := sinj hm
         obtain rfl := hfin5 _ rfl
         clear hm
         have hm : (changeforgeref2_Visible.j6 y1 x13 x14 x23 : Option (Step (Int × (List SeqOp)) (List SeqOp))) = some _ := hmo5
         exact ⟨x23, g14, F.sub ⟨rfl, rfl, rfl, rfl, rfl, trivial⟩, l14, S, hm⟩
      ·clear F S hm; rintro a w ⟨x17, g11, F, l11, S, hm⟩
       refine wp_seq ?_
       refine wp_region_lit ?_
       refine wE (ev_move rfl) F S rfl fun a F=>?_
       refine wE (ev_build (parts := []) (vs := []) rfl (fun w => tb33_  w)) F S rfl fun a F=>?_
       refine wl_lit (l := ([({ Delete := false, Replica := 0, Counter := 0, AfterReplica := 0, AfterCounter := 0, Line := ByteArray.empty } : SeqOp)] : List SeqOp)) (vs := [.agg #[.bool false, .i6 0, .i6 0, .i6 0, .i6 0, .string ByteArray.empty]]) (parts := [(0, .tmp 59)]) (wn rfl) rfl rfl rfl tu22 te33 (sz_cons rfl sz_nil) rfl (Cat.cons (rep_SeqOp_mk (x := ({ Delete := false, Replica := 0, Counter := 0, AfterReplica := 0, AfterCounter := 0, Line := ByteArray.empty } : SeqOp)) ) (Cat.nil _)) (coa_cons rfl coa_nil) rfl F S rfl rfl ?_; clear F a S
       rintro v10 c10 a w h10 F S
       obtain ⟨cs7, hk2, hr10⟩ := OwnS.reads h10
       obtain ⟨y9, hy9, hm⟩ := bind_some hm
       refine wl_append (wn rfl) rfl tu22 tu22 te33 (by decide) (by decide) F S rfl rfl (k := 1) rfl (h8.mono l11) hk2 rfl (hr10 _ _ _ 0 rfl S) hy9 rfl rfl ?_; clear F a S
       rintro v11 c11 a w h11 S F; replace S : St g11 [c10, c11, c1] fr w := S
       refine wE (ev_assign rfl) F S rfl fun a F=>?_
       refine wpList_nil ?_
       refine then_n ?_
       refine wp_cut (fun a w => ∃ (x18 : List SeqOp) (v12 : Value) (c12 : Hl) (g12 : Gh), Fr 127 a [(4, v12), (6, .i6 x17), (5, .i6 x13), (3, v1), (0, vl_1)] ∧ Le g11 g12 ∧ St g12 [c12, c1] fr w ∧ OwnS g12 x18 v12 c12 ∧ changeforgeref2_Visible.j7 y1 x13 x17 x18 = some x15) ?_ ?_
       ·refine wp_seq ?_
        refine wp_region_lit ?_
        refine wE (ev_move rfl) F S rfl fun a F=>?_
        refine wE (ev_lenOw h11 rfl tu22) F S rfl fun a F=>?_
        obtain ⟨z4, hz4, hm⟩ := bind_some hm
        refine wE (ev_int rfl rfl (bo_sub hz4)) F S rfl fun a F=>?_
        refine wE (ev_assign rfl) F S rfl fun a F=>?_
        refine wpList_nil ?_
        refine then_n ?_
        refine wp_block ?_
        obtain ⟨r4, hr12, hm⟩ := bind_some hm
        have hmo4 := hm; clear hm
        refine wp_iter (σ := Int × (List SeqOp)) (ρ := (List SeqOp)) (m := fun s => changeforgeref2_Visible.l4 x17 s.1 s.2) (I := fun s a w => match s with | (x19, x20) => ∃ (v13 : Value) (c14 : Hl) (g13 : Gh), Fr 127 a [(8, .i6 x19), (4, v13), (6, .i6 x17), (5, .i6 x13), (3, v1), (0, vl_1)] ∧ Le g11 g13 ∧ St g13 [c14, c1] fr w ∧ OwnS g13 x20 v13 c14) hr12 ?_ ?_
        ·dsimp only
         replace S : St g11 [c11, c1] fr w := St.tail [c11, c1] _ ((S.frontC 2 rfl).frontC 2 rfl)
         exact ⟨v11, c11, g11, F.sub ⟨rfl, rfl, rfl, rfl, rfl, rfl, trivial⟩, (Le.refl _), S, h11⟩
        ·clear F S; rintro ⟨x19, x20⟩ a w x21 ⟨v13, c14, g13, F, l13, S, h14⟩ hx6 hfin4
         have hm : changeforgeref2_Visible.l4 x17 x19 x20 = some x21 := hx6; clear hx6
         unfold changeforgeref2_Visible.l4 at hm
         refine wp_seq ?_
         refine wp_seq ?_
         refine wp_region_lit ?_
         refine wE (ev_move rfl) F S rfl fun a F=>?_
         refine wE (ev_move rfl) F S rfl fun a F=>?_
         refine wE (ev_int rfl rfl (bo_gtr _ _ _ _)) F S rfl fun a F=>?_
         refine wpList_nil ?_
         refine then_n ?_
         obtain ⟨hc8, hm⟩ | ⟨hc8, hm⟩ := ite_or hm
         ·refine wp_condT F rfl hc8 ?_
          refine wp_skip ?_
          refine then_n ?_
          refine wp_seq ?_
          refine wp_block ?_
          refine wp_region_lit ?_
          refine wE (ev_move rfl) F S rfl fun a F=>?_
          refine wE (ev_move rfl) F S rfl fun a F=>?_
          refine wE (ev_move rfl) F S rfl fun a F=>?_
          refine wE (ev_move rfl) F S rfl fun a F=>?_
          obtain ⟨z5, hz5, hm⟩ := bind_some hm
          refine wE (ev_int rfl rfl (bo_sub hz5)) F S rfl fun a F=>?_
          obtain ⟨y13, hy13, hm⟩ := bind_some hm
          refine wE (ev_idxO h14 hy13 tu22 ts33 rfl rfl) F S rfl fun a F=>?_
          obtain ⟨cs9, hr13, hq5⟩ := elemO h14 hy13
          obtain rfl := rep_SeqOp hr13
          refine wE (ev_loadA tu33 rfl (cs := [.bool y13.Delete, .i6 y13.Replica, .i6 y13.Counter, .i6 y13.AfterReplica, .i6 y13.AfterCounter, .string y13.Line]) ts33 rfl (hq5 _ _ 0 rfl)) F S rfl fun a F=>?_
          obtain ⟨y14, hy14, hm⟩ := bind_some hm
          refine wE (ev_idxO h14 hy14 tu22 ts33 rfl rfl) F S rfl fun a F=>?_
          obtain ⟨y15, hy15, hm⟩ := bind_some hm
          refine wl_storeW (z' := y13) (wn rfl) rfl F S h14 hy14 rfl rfl (us := [.bool y13.Delete, .i6 y13.Replica, .i6 y13.Counter, .i6 y13.AfterReplica, .i6 y13.AfterCounter, .string y13.Line]) rfl ts33 (one_cons rfl (one_cons rfl (one_cons rfl (one_cons rfl (one_cons rfl (one_cons rfl one_nil)))))) (k := 0) rfl rfl (rep_SeqOp_mk (x := y13) ) rfl ?_; clear S
          rintro c15 w h15 S; replace S : St g13 [c15, c1] fr w := S; replace h15 : OwnS g13 y15 v13 c15 := sinj hy15 ▸ h15
          replace F := F.sub (e' := [(77, elemP v13 x19 6), (76, .agg #[.bool y13.Delete, .i6 y13.Replica, .i6 y13.Counter, .i6 y13.AfterReplica, .i6 y13.AfterCounter, .string y13.Line]), (74, .i6 z5), (73, .i6 x19), (72, v13), (71, .i6 x19), (70, v13), (67, .bool (decide (x19 > x17))), (66, .i6 x17), (65, .i6 x19), (8, .i6 x19), (4, v13), (6, .i6 x17), (5, .i6 x13), (3, v1), (0, vl_1)]) ⟨rfl, rfl, rfl, rfl, rfl, rfl, rfl, rfl, rfl, rfl, rfl, rfl, rfl, rfl, rfl, rfl, trivial⟩
          refine wpList_nil ?_
          refine inb_n ?_
          refine then_n ?_
          refine wp_region_lit ?_
          refine wE (ev_move rfl) F S rfl fun a F=>?_
          obtain ⟨z6, hz6, hm⟩ := bind_some hm
          refine wE (ev_int rfl rfl (bo_sub hz6)) F S rfl fun a F=>?_
          refine wE (ev_assign rfl) F S rfl fun a F=>?_
          refine wpList_nil ?_
          refine then_n ?_
          obtain rfl := sinj hm
          refine ⟨_, rfl, ?_⟩
          dsimp only
          exact ⟨v13, c15, g13, F.sub ⟨rfl, rfl, rfl, rfl, rfl, rfl, trivial⟩, l13, S, h15⟩
         ·refine wp_condF F rfl hc8 ?_
          refine wp_exit ?_
          refine then_e ?_
          refine then_e ?_
          refine inb_x ?_
          refine then_n ?_
          obtain rfl := sinj hm
          obtain rfl := hfin4 _ rfl
          clear hm
          have hm : (changeforgeref2_Visible.j7 y1 x13 x17 x20 : Option (Step (Int × (List SeqOp)) (List SeqOp))) = some _ := hmo4
          exact ⟨x20, v13, c14, g13, F.sub ⟨rfl, rfl, rfl, rfl, rfl, trivial⟩, l13, S, h14, hm⟩
       ·clear F S hm; rintro a w ⟨x18, v12, c12, g12, F, l12, S, h12, hm⟩
        refine wp_region_lit ?_
        refine wE (ev_move rfl) F S rfl fun a F=>?_
        refine wE (ev_move rfl) F S rfl fun a F=>?_
        refine wE (ev_move rfl) F S rfl fun a F=>?_
        refine wE (ev_move rfl) F S rfl fun a F=>?_
        obtain ⟨y10, hy10, hm⟩ := bind_some hm
        refine wE (ev_idxO (h1.mono ((l9.trans l11).trans l12)) hy10 tu22 ts33 rfl rfl) F S rfl fun a F=>?_
        obtain ⟨cs8, hr11, hq4⟩ := elemO (h1.mono ((l9.trans l11).trans l12)) hy10
        obtain rfl := rep_SeqOp hr11
        refine wE (ev_loadA tu33 rfl (cs := [.bool y10.Delete, .i6 y10.Replica, .i6 y10.Counter, .i6 y10.AfterReplica, .i6 y10.AfterCounter, .string y10.Line]) ts33 rfl (hq4 _ _ 1 rfl)) F S rfl fun a F=>?_
        obtain ⟨y11, hy11, hm⟩ := bind_some hm
        refine wE (ev_idxO h12 hy11 tu22 ts33 rfl rfl) F S rfl fun a F=>?_
        obtain ⟨y12, hy12, hm⟩ := bind_some hm
        refine wl_storeW (z' := y10) (wn rfl) rfl F S h12 hy11 rfl rfl (us := [.bool y10.Delete, .i6 y10.Replica, .i6 y10.Counter, .i6 y10.AfterReplica, .i6 y10.AfterCounter, .string y10.Line]) rfl ts33 (one_cons rfl (one_cons rfl (one_cons rfl (one_cons rfl (one_cons rfl (one_cons rfl one_nil)))))) (k := 0) rfl rfl (rep_SeqOp_mk (x := y10) ) rfl ?_; clear S
        rintro c13 w h13 S; replace S : St g12 [c13, c1] fr w := S; replace h13 : OwnS g12 y12 v12 c13 := sinj hy12 ▸ h13
        refine wpList_nil ?_
        refine inb_n ?_
        refine then_n ?_
        exact ⟨y12, v12, c13, g12, F.sub ⟨rfl, rfl, rfl, rfl, trivial⟩, (l11.trans l12), S, h13, hm⟩
    ·clear F S hm; rintro a w ⟨x16, v9, c9, g10, F, l10, S, h9, hm⟩
     refine wp_region_lit ?_
     refine wE (ev_move rfl) F S rfl fun a F=>?_
     obtain ⟨z3, hz3, hm⟩ := bind_some hm
     refine wE (ev_int rfl rfl (bo_add hz3)) F S rfl fun a F=>?_
     refine wE (ev_assign rfl) F S rfl fun a F=>?_
     refine wpList_nil ?_
     refine then_n ?_
     obtain rfl := sinj hm
     refine ⟨_, rfl, ?_⟩
     dsimp only
     exact ⟨v9, c9, g10, F.sub ⟨rfl, rfl, rfl, rfl, trivial⟩, (l9.trans l10), S, h9⟩
   ·refine wp_condF F rfl hc6 ?_
    refine wp_exit ?_
    refine then_e ?_
    refine then_e ?_
    refine inb_x ?_
    refine then_n ?_
    obtain rfl := sinj hm
    obtain rfl := hfin3 _ rfl
    clear hm
    have hm : (changeforgeref2_Visible.j1 l_ x14 : Option (List ByteArray)) = some _ := hmo3
    replace S : St g9 [c8] fr w := St.tail [c8] _ (S.frontC 0 rfl)
    exact ⟨x14, v8, c8, g9, F.sub ⟨rfl, rfl, trivial⟩, l9, S, h8, hm⟩
 ·clear F S hm; rintro a w ⟨x1, v2, c2, g2, F, l2, S, h2, hm⟩
  refine wp_seq ?_
  refine wp_region_lit ?_
  refine wE (ev_assign rfl) F S rfl fun a F=>?_
  refine wpList_nil ?_
  refine then_n ?_
  refine wp_cut (fun a w => ∃ (x2 : List ByteArray) (v3 : Value) (c3 : Hl) (g3 : Gh), Fr 127 a [(9, v3)] ∧ Le g2 g3 ∧ St g3 [c3] fr w ∧ OwnS g3 x2 v3 c3 ∧ changeforgeref2_Visible.j2 x2 = some r) ?_ ?_
  ·refine wp_seq ?_
   refine wp_region_lit ?_
   refine wE (ev_assign rfl) F S rfl fun a F=>?_
   refine wpList_nil ?_
   refine then_n ?_
   refine wp_block ?_
   obtain ⟨r1, hr1, hm⟩ := bind_some hm
   have hmo1 := hm; clear hm
   refine wp_iter (σ := Int × (List ByteArray)) (ρ := (List ByteArray)) (m := fun s => changeforgeref2_Visible.l1 l_ x1 s.1 s.2) (I := fun s a w => match s with | (x3, x4) => ∃ (v4 : Value) (c4 : Hl) (g4 : Gh), Fr 127 a [(10, .i6 x3), (9, v4), (4, v2), (0, vl_1)] ∧ Le g2 g4 ∧ St g4 [c4, c2] fr w ∧ OwnS g4 x4 v4 c4) hr1 ?_ ?_
   ·dsimp only
    replace S : St g2 [[], c2] fr w := S
    exact ⟨(nilS), [], g2, F.sub ⟨rfl, rfl, rfl, rfl, trivial⟩, (Le.refl _), S, (OwnS.nil _)⟩
   ·clear F S; rintro ⟨x3, x4⟩ a w x5 ⟨v4, c4, g4, F, l4, S, h4⟩ hx1 hfin1
    have hm : changeforgeref2_Visible.l1 l_ x1 x3 x4 = some x5 := hx1; clear hx1
    unfold changeforgeref2_Visible.l1 at hm
    refine wp_seq ?_
    refine wp_seq ?_
    refine wp_region_lit ?_
    refine wE (ev_move rfl) F S rfl fun a F=>?_
    refine wE (ev_move rfl) F S rfl fun a F=>?_
    refine wE (ev_lenOw h2 rfl tu22) F S rfl fun a F=>?_
    refine wE (ev_int rfl rfl (bo_lss _ _ _ _)) F S rfl fun a F=>?_
    refine wpList_nil ?_
    refine then_n ?_
    obtain ⟨hc1, hm⟩ | ⟨hc1, hm⟩ := ite_or hm
    ·refine wp_condT F rfl hc1 ?_
     refine wp_skip ?_
     refine then_n ?_
     refine wp_cut (fun a w => ∃ (x6 : List ByteArray) (v5 : Value) (c5 : Hl) (g5 : Gh), Fr 127 a [(9, v5), (10, .i6 x3), (4, v2), (0, vl_1)] ∧ Le g4 g5 ∧ St g5 [c5, c2] fr w ∧ OwnS g5 x6 v5 c5 ∧ changeforgeref2_Visible.j3 x3 x6 = some x5) ?_ ?_
     ·refine wp_block ?_
      refine wp_seq ?_
      refine wp_region_lit ?_
      refine wE (ev_assign rfl) F S rfl fun a F=>?_
      refine wpList_nil ?_
      refine then_n ?_
      refine wp_cut (fun a w => ∃ (x7 : Bool) (g6 : Gh), Fr 127 a [(11, .bool x7), (10, .i6 x3), (9, v4), (4, v2), (0, vl_1)] ∧ Le g4 g6 ∧ St g6 [c4, c2] fr w ∧ changeforgeref2_Visible.j4 x1 x3 x4 x7 = some x5) ?_ ?_
      ·refine wp_seq ?_
       refine wp_region_lit ?_
       refine wE (ev_assign rfl) F S rfl fun a F=>?_
       refine wpList_nil ?_
       refine then_n ?_
       refine wp_block ?_
       obtain ⟨r2, hr4, hm⟩ := bind_some hm
       have hmo2 := hm; clear hm
       refine wp_iter (σ := Int × Bool) (ρ := Bool) (m := fun s => changeforgeref2_Visible.l2 l_ x1 x3 s.1 s.2) (I := fun s a w => match s with | (x8, x9) => ∃ (g7 : Gh), Fr 127 a [(12, .i6 x8), (11, .bool x9), (10, .i6 x3), (9, v4), (4, v2), (0, vl_1)] ∧ Le g4 g7 ∧ St g7 [c4, c2] fr w) hr4 ?_ ?_
       ·dsimp only
        exact ⟨g4, F.sub ⟨rfl, rfl, rfl, rfl, rfl, rfl, trivial⟩, (Le.refl _), S⟩
       ·clear F S; rintro ⟨x8, x9⟩ a w x10 ⟨g7, F, l7, S⟩ hx2 hfin2
        have hm : changeforgeref2_Visible.l2 l_ x1 x3 x8 x9 = some x10 := hx2; clear hx2
        unfold changeforgeref2_Visible.l2 at hm
        refine wp_seq ?_
        refine wp_seq ?_
        refine wp_region_lit ?_
        refine wE (ev_move rfl) F S rfl fun a F=>?_
        refine wE (ev_move rfl) F S rfl fun a F=>?_
        refine wE (ev_lenSh hl_1 rfl tu22) F S rfl fun a F=>?_
        refine wE (ev_int rfl rfl (bo_lss _ _ _ _)) F S rfl fun a F=>?_
        refine wpList_nil ?_
        refine then_n ?_
        obtain ⟨hc3, hm⟩ | ⟨hc3, hm⟩ := ite_or hm
        ·refine wp_condT F rfl hc3 ?_
         refine wp_skip ?_
         refine then_n ?_
         refine wp_seq ?_
         refine wp_block ?_
         refine wp_quiet mo (by kernel_rfl) S ?_
         refine wq_ev (wn rfl) (ev_move rfl) F rfl rfl ?_; clear F a; intro a F
         refine wq_ev (wn rfl) (ev_move rfl) F rfl rfl ?_; clear F a; intro a F
         obtain ⟨x11, hx3, hm⟩ := bind_some hm
         refine wq_cut 17 (fun a => Fr 127 a [(115, .bool x11), (12, .i6 x8), (11, .bool x9), (10, .i6 x3), (9, v4), (4, v2), (0, vl_1)]) ?_ ?_
         ·clear hm; obtain ⟨hc4, hm⟩ | ⟨hc4, hm⟩ := ite_or hx3
          ·refine wq_skip rfl rfl rfl rfl (ne_ft hc4) F rfl rfl ?_; clear F a; intro a F
           refine wq_skip rfl rfl rfl rfl (ne_ft hc4) F rfl rfl ?_; clear F a; intro a F
           refine wq_skip rfl rfl rfl rfl (ne_ft hc4) F rfl rfl ?_; clear F a; intro a F
           refine wq_skip rfl rfl rfl rfl (ne_ft hc4) F rfl rfl ?_; clear F a; intro a F
           refine wq_skip rfl rfl rfl rfl (ne_ft hc4) F rfl rfl ?_; clear F a; intro a F
           refine wq_skip rfl rfl rfl rfl (ne_ft hc4) F rfl rfl ?_; clear F a; intro a F
           refine wq_skipu rfl rfl rfl rfl F rfl rfl ?_; clear F a; intro a F
           refine wq_skipu rfl rfl rfl rfl F rfl rfl ?_; clear F a; intro a F
           refine wq_skipu rfl rfl rfl rfl F rfl rfl ?_; clear F a; intro a F
           refine wq_skipu rfl rfl rfl rfl F rfl rfl ?_; clear F a; intro a F
           refine wq_skipu rfl rfl rfl rfl F rfl rfl ?_; clear F a; intro a F
           refine wq_skipu rfl rfl rfl rfl F rfl rfl ?_; clear F a; intro a F
           refine wq_skipu rfl rfl rfl rfl F rfl rfl ?_; clear F a; intro a F
           refine wq_skipu rfl rfl rfl rfl F rfl rfl ?_; clear F a; intro a F
           refine wq_skipu rfl rfl rfl rfl F rfl rfl ?_; clear F a; intro a F
           refine wq_skip rfl rfl rfl rfl (ne_ft hc4) F rfl rfl ?_; clear F a; intro a F
           refine wq_ev (wn rfl) (ev_pickT rfl hc4 rfl) F rfl rfl ?_; clear F a; intro a F
           obtain rfl := sinj hm
           refine wq_nil ?_; exact F.sub ⟨rfl, rfl, rfl, rfl, rfl, rfl, rfl, trivial⟩
          ·refine wq_ev (wg F rfl rfl rfl rfl hc4) (ev_move rfl) F rfl rfl ?_; clear F a; intro a F
           refine wq_ev (wg F rfl rfl rfl rfl hc4) (ev_move rfl) F rfl rfl ?_; clear F a; intro a F
           obtain ⟨y4, hy4, hm⟩ := bind_some hm
           obtain ⟨cs3, hr5, hp1⟩ := elemS (hl_1.mono (((l1.trans l2).trans l4).trans l7)) hy4
           obtain rfl := rep_SeqOp hr5
           refine wq_ev (wg F rfl rfl rfl rfl hc4) (ev_idxS (hl_1.mono (((l1.trans l2).trans l4).trans l7)) hy4 tu22 ts33 rfl rfl) F rfl rfl ?_; clear F a; intro a F
           have hp2 := PtrC.field hp1 0 1 (lb rfl)
           have hp2 : PtrC g7 (addP (elemP vl_1 x8 6) 0) [.bool y4.Delete] := hp2
           refine wq_ev (wg F rfl rfl rfl rfl hc4) (ev_fieldAddr' tu33 tf33_0 (z := 0) ts4 rfl hp1.ptr rfl) F rfl rfl ?_; clear F a; intro a F
           refine wq_ev (wg F rfl rfl rfl rfl hc4) (ev_load1 tu4 rfl rfl (ptr_mono (cks := [c4, c2]) (fr := fr) hp2 (Le.refl _))) F rfl rfl ?_; clear F a; intro a F
           refine wq_ev (wg F rfl rfl rfl rfl hc4) (ev_move rfl) F rfl rfl ?_; clear F a; intro a F
           obtain ⟨x12, hx4, hm⟩ := bind_some hm
           refine wq_cut 10 (fun a => Fr 127 a [(114, .bool x12), (104, .bool y4.Delete), (103, .bool y4.Delete), (102, (addP (elemP vl_1 x8 6) 0)), (101, (elemP vl_1 x8 6)), (100, .i6 x8), (99, vl_1), (98, .bool x9), (12, .i6 x8), (11, .bool x9), (10, .i6 x3), (9, v4), (4, v2), (0, vl_1)]) ?_ ?_
           ·clear hm; obtain ⟨hc5, hm⟩ | ⟨hc5, hm⟩ := ite_or hx4
            ·refine wq_ev (wg F rfl rfl rfl rfl hc5) (ev_move rfl) F rfl rfl ?_; clear F a; intro a F
             refine wq_ev (wg F rfl rfl rfl rfl hc5) (ev_move rfl) F rfl rfl ?_; clear F a; intro a F
             obtain ⟨y5, hy5, hm⟩ := bind_some hm
             obtain ⟨cs4, hr6, hp3⟩ := elemS (hl_1.mono (((l1.trans l2).trans l4).trans l7)) hy5
             obtain rfl := rep_SeqOp hr6
             refine wq_ev (wg F rfl rfl rfl rfl hc5) (ev_idxS (hl_1.mono (((l1.trans l2).trans l4).trans l7)) hy5 tu22 ts33 rfl rfl) F rfl rfl ?_; clear F a; intro a F
             refine wq_ev (wg F rfl rfl rfl rfl hc5) (ev_loadA tu33 rfl (cs := [.bool y5.Delete, .i6 y5.Replica, .i6 y5.Counter, .i6 y5.AfterReplica, .i6 y5.AfterCounter, .string y5.Line]) ts33 rfl (ptr_mono (cks := [c4, c2]) (fr := fr) hp3 (Le.refl _))) F rfl rfl ?_; clear F a; intro a F
             refine wq_ev (wg F rfl rfl rfl rfl hc5) (ev_move rfl) F rfl rfl ?_; clear F a; intro a F
             refine wq_ev (wg F rfl rfl rfl rfl hc5) (ev_move rfl) F rfl rfl ?_; clear F a; intro a F
             obtain ⟨y6, hy6, hm⟩ := bind_some hm
             refine wq_ev (wg F rfl rfl rfl rfl hc5) (ev_idxO (h2.mono (l4.trans l7)) hy6 tu22 ts33 rfl rfl) F rfl rfl ?_; clear F a; intro a F
             obtain ⟨cs5, hr7, hq2⟩ := elemO (h2.mono (l4.trans l7)) hy6
             obtain rfl := rep_SeqOp hr7
             refine wq_ev (wg F rfl rfl rfl rfl hc5) (ev_loadA tu33 rfl (cs := [.bool y6.Delete, .i6 y6.Replica, .i6 y6.Counter, .i6 y6.AfterReplica, .i6 y6.AfterCounter, .string y6.Line]) ts33 rfl (hq2 _ _ 1 rfl)) F rfl rfl ?_; clear F a; intro a F
             obtain ⟨y7, hy7, hm⟩ := bind_some hm
             refine wq_call (wg F rfl rfl rfl rfl hc5) rfl (xs := [.tmp 108, .tmp 112]) (vs := [.agg #[.bool y5.Delete, .i6 y5.Replica, .i6 y5.Counter, .i6 y5.AfterReplica, .i6 y5.AfterCounter, .string y5.Line], .agg #[.bool y6.Delete, .i6 y6.Replica, .i6 y6.Counter, .i6 y6.AfterReplica, .i6 y6.AfterCounter, .string y6.Line]]) (cap := []) F rfl rfl tc13 (v := .bool y7) (fun w S => (changeforgeref2_SameElement_ok (g := g7) (fr := (fl [c4, c2] fr)) (w := w) y5 y6 S hy7).mono (by rintro en w' ⟨_, rfl, g2, l2, S2, rfl⟩; exact ⟨rfl, S2.weak l2⟩)) rfl rfl ?_; clear F a; intro a F
             refine wq_ev (wg F rfl rfl rfl rfl hc4) (ev_pickT rfl hc5 rfl) F rfl rfl ?_; clear F a; intro a F
             obtain rfl := sinj hm
             refine wq_nil ?_; exact F.sub ⟨rfl, rfl, rfl, rfl, rfl, rfl, rfl, rfl, rfl, rfl, rfl, rfl, rfl, rfl, trivial⟩
            ·refine wq_skip rfl rfl rfl rfl (ne_tf hc5) F rfl rfl ?_; clear F a; intro a F
             refine wq_skip rfl rfl rfl rfl (ne_tf hc5) F rfl rfl ?_; clear F a; intro a F
             refine wq_skip rfl rfl rfl rfl (ne_tf hc5) F rfl rfl ?_; clear F a; intro a F
             refine wq_skip rfl rfl rfl rfl (ne_tf hc5) F rfl rfl ?_; clear F a; intro a F
             refine wq_skip rfl rfl rfl rfl (ne_tf hc5) F rfl rfl ?_; clear F a; intro a F
             refine wq_skip rfl rfl rfl rfl (ne_tf hc5) F rfl rfl ?_; clear F a; intro a F
             refine wq_skip rfl rfl rfl rfl (ne_tf hc5) F rfl rfl ?_; clear F a; intro a F
             refine wq_skip rfl rfl rfl rfl (ne_tf hc5) F rfl rfl ?_; clear F a; intro a F
             refine wq_skip rfl rfl rfl rfl (ne_tf hc5) F rfl rfl ?_; clear F a; intro a F
             refine wq_ev (wg F rfl rfl rfl rfl hc4) (ev_pickF rfl hc5 rfl) F rfl rfl ?_; clear F a; intro a F
             obtain rfl := sinj hm
             refine wq_nil ?_; exact F.sub ⟨rfl, rfl, rfl, rfl, rfl, rfl, rfl, rfl, rfl, rfl, rfl, rfl, rfl, rfl, trivial⟩
           clear F; intro a F
           refine wq_ev (wn rfl) (ev_pickF rfl hc4 rfl) F rfl rfl ?_; clear F a; intro a F
           obtain rfl := sinj hm
           refine wq_nil ?_; exact F.sub ⟨rfl, rfl, rfl, rfl, rfl, rfl, rfl, trivial⟩
         clear F; intro a F
         refine wq_ev (wn rfl) (ev_assign rfl) F rfl rfl ?_; clear F a; intro a F
         refine wq_nil ?_; clear S; intro w S
         refine inb_n ?_
         refine then_n ?_
         refine wp_region_lit ?_
         refine wE (ev_move rfl) F S rfl fun a F=>?_
         obtain ⟨z2, hz2, hm⟩ := bind_some hm
         refine wE (ev_int rfl rfl (bo_add hz2)) F S rfl fun a F=>?_
         refine wE (ev_assign rfl) F S rfl fun a F=>?_
         refine wpList_nil ?_
         refine then_n ?_
         obtain rfl := sinj hm
         refine ⟨_, rfl, ?_⟩
         dsimp only
         exact ⟨g7, F.sub ⟨rfl, rfl, rfl, rfl, rfl, rfl, trivial⟩, l7, S⟩
        ·refine wp_condF F rfl hc3 ?_
         refine wp_exit ?_
         refine then_e ?_
         refine then_e ?_
         refine inb_x ?_
         refine then_n ?_
         obtain rfl := sinj hm
         obtain rfl := hfin2 _ rfl
         clear hm
         have hm : (changeforgeref2_Visible.j4 x1 x3 x4 x9 : Option (Step (Int × (List ByteArray)) (List ByteArray))) = some _ := hmo2
         exact ⟨x9, g7, F.sub ⟨rfl, rfl, rfl, rfl, rfl, trivial⟩, l7, S, hm⟩
      ·clear F S hm; rintro a w ⟨x7, g6, F, l6, S, hm⟩
       refine wp_seq ?_
       refine wp_region_lit ?_
       refine wE (ev_move rfl) F S rfl fun a F=>?_
       refine wE (ev_not rfl) F S rfl fun a F=>?_
       refine wpList_nil ?_
       refine then_n ?_
       obtain ⟨hc2, hm⟩ | ⟨hc2, hm⟩ := ite_or hm
       ·refine wp_condT F rfl hc2 ?_
        refine wp_region_lit ?_
        refine wE (ev_move rfl) F S rfl fun a F=>?_
        refine wE (ev_move rfl) F S rfl fun a F=>?_
        refine wE (ev_move rfl) F S rfl fun a F=>?_
        obtain ⟨y2, hy2, hm⟩ := bind_some hm
        refine wE (ev_idxO (h2.mono (l4.trans l6)) hy2 tu22 ts33 rfl rfl) F S rfl fun a F=>?_
        refine wE (ev_fieldAddr' tu33 tf33_5 (z := 0) ts9 rfl (elemO_ptr (h2.mono (l4.trans l6)) hy2) rfl) F S rfl fun a F=>?_
        obtain ⟨cs1, hr2, hq1⟩ := elemO (h2.mono (l4.trans l6)) hy2
        obtain rfl := rep_SeqOp hr2
        refine wE (ev_load1 tu9 rfl rfl (fun w s => fieldP (cells := [.string y2.Line]) 5 (hq1 _ _ 1 rfl w s) rfl (lb rfl))) F S rfl fun a F=>?_
        refine wl_lit (l := ([y2.Line] : List ByteArray)) (vs := [.string y2.Line]) (parts := [(0, .tmp 123)]) (wn rfl) rfl rfl rfl tu23 te9 (sz_cons rfl sz_nil) rfl (Cat.cons (show Rep.rep _ y2.Line _ from rfl) (Cat.nil _)) (coa_cons rfl coa_nil) rfl F S rfl rfl ?_; clear F a S
        rintro v6 c6 a w h6 F S
        obtain ⟨cs2, hk1, hr3⟩ := OwnS.reads h6
        obtain ⟨y3, hy3, hm⟩ := bind_some hm
        refine wl_append (wn rfl) rfl tu23 tu23 te9 (by decide) (by decide) F S rfl rfl (k := 1) rfl (h4.mono l6) hk1 rfl (hr3 _ _ _ 0 rfl S) hy3 rfl rfl ?_; clear F a S
        rintro v7 c7 a w h7 S F; replace S : St g6 [c6, c7, c2] fr w := S
        refine wE (ev_assign rfl) F S rfl fun a F=>?_
        refine wpList_nil ?_
        refine inb_n ?_
        refine then_n ?_
        replace S : St g6 [c7, c2] fr w := St.tail [c7, c2] _ ((S.frontC 2 rfl).frontC 2 rfl)
        exact ⟨y3, v7, c7, g6, F.sub ⟨rfl, rfl, rfl, rfl, trivial⟩, l6, S, h7, hm⟩
       ·refine wp_condF F rfl hc2 ?_
        refine wp_skip ?_
        refine inb_n ?_
        refine then_n ?_
        exact ⟨x4, v4, c4, g6, F.sub ⟨rfl, rfl, rfl, rfl, trivial⟩, l6, S, (h4.mono l6), hm⟩
     ·clear F S hm; rintro a w ⟨x6, v5, c5, g5, F, l5, S, h5, hm⟩
      refine wp_region_lit ?_
      refine wE (ev_move rfl) F S rfl fun a F=>?_
      obtain ⟨z1, hz1, hm⟩ := bind_some hm
      refine wE (ev_int rfl rfl (bo_add hz1)) F S rfl fun a F=>?_
      refine wE (ev_assign rfl) F S rfl fun a F=>?_
      refine wpList_nil ?_
      refine then_n ?_
      obtain rfl := sinj hm
      refine ⟨_, rfl, ?_⟩
      dsimp only
      exact ⟨v5, c5, g5, F.sub ⟨rfl, rfl, rfl, rfl, trivial⟩, (l4.trans l5), S, h5⟩
    ·refine wp_condF F rfl hc1 ?_
     refine wp_exit ?_
     refine then_e ?_
     refine then_e ?_
     refine inb_x ?_
     refine then_n ?_
     obtain rfl := sinj hm
     obtain rfl := hfin1 _ rfl
     clear hm
     have hm : (changeforgeref2_Visible.j2 x4 : Option (List ByteArray)) = some _ := hmo1
     replace S : St g4 [c4] fr w := St.tail [c4] _ (S.frontC 0 rfl)
     exact ⟨x4, v4, c4, g4, F.sub ⟨rfl, trivial⟩, l4, S, h4, hm⟩
  ·clear F S hm; rintro a w ⟨x2, v3, c3, g3, F, l3, S, h3, hm⟩
   refine wp_seq ?_
   refine wp_region_lit ?_
   refine wE (ev_move rfl) F S rfl fun a F=>?_
   refine wE (ev_assign rfl) F S rfl fun a F=>?_
   refine wpList_nil ?_
   refine then_n ?_
   refine wp_ret ?_
   obtain rfl := sinj hm
   refine post_r _ F rfl (ar_cons (resT rfl) ar_nil) ?_
   exact ⟨_, rfl, g3, v3, c3, ((l1.trans l2).trans l3), S, h3, rfl⟩
end Go.Dc
