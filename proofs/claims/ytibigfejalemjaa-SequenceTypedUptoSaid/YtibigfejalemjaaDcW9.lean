/- Walks: each function comes to what its model says. -/
import Derived.Test.YtibigfejalemjaaDcTab
import Derived.Test.YtibigfejalemjaaDcM
import Derived.Test.YtibigfejalemjaaDcW1
import Derived.Test.YtibigfejalemjaaDcW3
namespace Go.Dc
open Go Go.Proofs
set_option maxRecDepth 100000
set_option maxHeartbeats 4000000
set_option linter.unusedVariables false
theorem changeforgelaw2_SequenceTyped_ok {g : Gh} {fr : Hl} {w : World} {r : Bool} (l_ : (List ByteArray)) (vl_1 : Value) (hl_1 : RepSl g l_ vl_1) (replica : Int) (S : St g [] fr w) (hm : changeforgelaw2_SequenceTyped l_ replica = some r) :
  Calls Try.prog 6 [vl_1, .i6 replica].toArray w (fun en w' => ∃ v, en = .returned v ∧ ∃ (g' : Gh), Le g g' ∧ St g' [] fr w' ∧ .bool r = v) := by
 unfold changeforgelaw2_SequenceTyped at hm
 refine calls_enter (fn := Try.f6) Try.func6 rfl Try.ntmps6 (lb rfl) ?_
 intro a F
 replace F : Fr 76 a [(0, vl_1), (1, .i6 replica)] := F
 refine wp_seq ?_
 refine wp_region_lit ?_
 refine wE (ev_assign rfl) F S rfl fun a F=>?_
 refine wpList_nil ?_
 refine then_n ?_
 refine wp_seq ?_
 refine wp_region_lit ?_
 refine wE (ev_assign rfl) F S rfl fun a F=>?_
 refine wpList_nil ?_
 refine then_n ?_
 refine wp_cut (fun a w => ∃ (x1 : List SeqOp) (v1 : Value) (c1 : Hl) (g1 : Gh), Fr 76 a [(5, v1), (0, vl_1), (1, .i6 replica)] ∧ Le g g1 ∧ St g1 [c1] fr w ∧ OwnS g1 x1 v1 c1 ∧ changeforgelaw2_SequenceTyped.j1 l_ replica x1 = some r) ?_ ?_
 ·refine wp_seq ?_
  refine wp_region_lit ?_
  refine wE (ev_assign rfl) F S rfl fun a F=>?_
  refine wpList_nil ?_
  refine then_n ?_
  refine wp_block ?_
  obtain ⟨r1, hr1, hm⟩ := bind_some hm
  have hmo1 := hm; clear hm
  refine wp_iter (σ := Int × (List SeqOp)) (ρ := (List SeqOp)) (m := fun s => changeforgelaw2_SequenceTyped.l1 l_ replica s.1 s.2) (I := fun s a w => match s with | (x8, x9) => ∃ (v3 : Value) (c3 : Hl) (g13 : Gh), Fr 76 a [(6, .i6 x8), (5, v3), (0, vl_1), (1, .i6 replica)] ∧ Le g g13 ∧ St g13 [c3] fr w ∧ OwnS g13 x9 v3 c3) hr1 ?_ ?_
  ·dsimp only
   replace S : St g [[]] fr w := S
   exact ⟨(nilS), [], g, F.sub ⟨rfl, rfl, rfl, rfl, trivial⟩, (Le.refl _), S, (OwnS.nil _)⟩
  ·clear F S; rintro ⟨x8, x9⟩ a w x10 ⟨v3, c3, g13, F, l13, S, h5⟩ hx7 hfin1
   have hm : changeforgelaw2_SequenceTyped.l1 l_ replica x8 x9 = some x10 := hx7; clear hx7
   unfold changeforgelaw2_SequenceTyped.l1 at hm
   refine wp_seq ?_
   refine wp_seq ?_
   refine wp_region_lit ?_
   refine wE (ev_move rfl) F S rfl fun a F=>?_
   refine wE (ev_move rfl) F S rfl fun a F=>?_
   refine wE (ev_lenSh hl_1 rfl tu23) F S rfl fun a F=>?_
   refine wE (ev_int rfl rfl (bo_lss _ _ _ _)) F S rfl fun a F=>?_
   refine wpList_nil ?_
   refine then_n ?_
   obtain ⟨hc8, hm⟩ | ⟨hc8, hm⟩ := ite_or hm
   ·refine wp_condT F rfl hc8 ?_
    refine wp_skip ?_
    refine then_n ?_
    refine wp_seq ?_
    refine wp_block ?_
    refine wp_seq ?_
    refine wp_region_lit ?_
    refine wE (ev_move rfl) F S rfl fun a F=>?_
    obtain ⟨z1, hz1, hm⟩ := bind_some hm
    refine wE (ev_int rfl rfl (bo_add hz1)) F S rfl fun a F=>?_
    refine wE (ev_move rfl) F S rfl fun a F=>?_
    refine wE (ev_move rfl) F S rfl fun a F=>?_
    refine wE (ev_move rfl) F S rfl fun a F=>?_
    refine wE (ev_move rfl) F S rfl fun a F=>?_
    refine wE (ev_move rfl) F S rfl fun a F=>?_
    obtain ⟨y6, hy6, hm⟩ := bind_some hm
    obtain ⟨cs1, hr2, hp1⟩ := elemS (hl_1.mono l13) hy6
    obtain rfl := rep_str hr2
    refine wE (ev_idxS (hl_1.mono l13) hy6 tu23 ts9 rfl rfl) F S rfl fun a F=>?_
    refine wE (ev_load1 tu9 rfl rfl (ptr_mono (cks := [c3]) (fr := fr) hp1 (Le.refl _))) F S rfl fun a F=>?_
    obtain ⟨y7, hy7, hm⟩ := bind_some hm
    refine wl_call0 (wn rfl) rfl F rfl (changeforgelaw2_insert_ok (fr := (fl [c3] fr)) z1 replica x8 replica y6 S hy7) rfl tc15 rfl rfl ?_; clear F a S
    rintro _ a w ⟨g14, l14, S, rfl⟩ F; replace S : St g14 [c3] fr w := S
    refine wl_alloc (wn rfl) rfl tz33 (cs := [.bool false, .i6 0, .i6 0, .i6 0, .i6 0, .string ByteArray.empty]) rfl F S rfl rfl ?_; clear F a S; rintro b2 a w F S
    refine wl_storeC (wn rfl) rfl F S rfl rfl (vs := [.bool y7.Delete, .i6 y7.Replica, .i6 y7.Counter, .i6 y7.AfterReplica, .i6 y7.AfterCounter, .string y7.Line]) rfl ts33 (one_cons rfl (one_cons rfl (one_cons rfl (one_cons rfl (one_cons rfl (one_cons rfl one_nil)))))) (k := 0) rfl (lb rfl) (c' := #[.bool y7.Delete, .i6 y7.Replica, .i6 y7.Counter, .i6 y7.AfterReplica, .i6 y7.AfterCounter, .string y7.Line]) rfl rfl ?_; clear S; intro w S
    refine wpList_nil ?_
    refine then_n ?_
    refine wp_cut (fun a w => ∃ (x11 : Int) (g15 : Gh), Fr 76 a [(7, bp b2 0), (6, .i6 x8), (5, v3), (0, vl_1), (1, .i6 replica)] ∧ Le g14 g15 ∧ St g15 [[bx b2 #[.bool y7.Delete, .i6 y7.Replica, .i6 y7.Counter, .i6 x11, .i6 y7.AfterCounter, .string y7.Line] 33], c3] fr w ∧ changeforgelaw2_SequenceTyped.j2 x8 x9 y7 x11 = some x10) ?_ ?_
    ·refine wp_seq ?_
     refine wp_region_lit ?_
     refine wE (ev_move rfl) F S rfl fun a F=>?_
     refine wE (ev_int rfl rfl (bo_eql _ _ _ _)) F S rfl fun a F=>?_
     refine wpList_nil ?_
     refine then_n ?_
     obtain ⟨hc9, hm⟩ | ⟨hc9, hm⟩ := ite_or hm
     ·refine wp_condT F rfl hc9 ?_
      refine wp_region_lit ?_
      refine wE (ev_fieldAddr' tu33 tf33_3 (z := 0) ts3 rfl ⟨_, rfl⟩ rfl) F S rfl fun a F=>?_
      refine wl_storeC (wn rfl) rfl F S rfl rfl (vs := [.i6 0]) rfl ts3 (one_cons rfl one_nil) (k := 0) rfl (lb rfl) (c' := #[.bool y7.Delete, .i6 y7.Replica, .i6 y7.Counter, .i6 0, .i6 y7.AfterCounter, .string y7.Line]) rfl rfl ?_; clear S; intro w S
      refine wpList_nil ?_
      refine then_n ?_
      exact ⟨0, g14, F.sub ⟨rfl, rfl, rfl, rfl, rfl, trivial⟩, (Le.refl _), S, hm⟩
     ·refine wp_condF F rfl hc9 ?_
      refine wp_skip ?_
      refine then_n ?_
      exact ⟨y7.AfterReplica, g14, F.sub ⟨rfl, rfl, rfl, rfl, rfl, trivial⟩, (Le.refl _), S, hm⟩
    ·clear F S hm; rintro a w ⟨x11, g15, F, l15, S, hm⟩
     refine wp_region_lit ?_
     refine wE (ev_move rfl) F S rfl fun a F=>?_
     refine wE (ev_loadA tu33 rfl (cs := [.bool y7.Delete, .i6 y7.Replica, .i6 y7.Counter, .i6 x11, .i6 y7.AfterCounter, .string y7.Line]) ts33 rfl (box_ptr (cells := [.bool y7.Delete, .i6 y7.Replica, .i6 y7.Counter, .i6 x11, .i6 y7.AfterCounter, .string y7.Line]) 0 rfl 0 rfl (lb rfl))) F S rfl fun a F=>?_
     refine wl_lit (l := ([({ Delete := y7.Delete, Replica := y7.Replica, Counter := y7.Counter, AfterReplica := x11, AfterCounter := y7.AfterCounter, Line := y7.Line } : SeqOp)] : List SeqOp)) (vs := [.agg #[.bool y7.Delete, .i6 y7.Replica, .i6 y7.Counter, .i6 x11, .i6 y7.AfterCounter, .string y7.Line]]) (parts := [(0, .tmp 30)]) (wn rfl) rfl rfl rfl tu22 te33 (sz_cons rfl sz_nil) rfl (Cat.cons (rep_SeqOp_mk (x := ({ Delete := y7.Delete, Replica := y7.Replica, Counter := y7.Counter, AfterReplica := x11, AfterCounter := y7.AfterCounter, Line := y7.Line } : SeqOp)) ) (Cat.nil _)) (coa_cons rfl coa_nil) rfl F S rfl rfl ?_; clear F a S
     rintro v4 c4 a w h6 F S
     obtain ⟨cs2, hk1, hr3⟩ := OwnS.reads h6
     obtain ⟨y8, hy8, hm⟩ := bind_some hm
     refine wl_append (wn rfl) rfl tu22 tu22 te33 (by decide) (by decide) F S rfl rfl (k := 2) rfl (h5.mono (l14.trans l15)) hk1 rfl (hr3 _ _ _ 0 rfl S) hy8 rfl rfl ?_; clear F a S
     rintro v5 c5 a w h7 S F; replace S : St g15 [c4, [bx b2 #[.bool y7.Delete, .i6 y7.Replica, .i6 y7.Counter, .i6 x11, .i6 y7.AfterCounter, .string y7.Line] 33], c5] fr w := S
     refine wE (ev_assign rfl) F S rfl fun a F=>?_
     refine wpList_nil ?_
     refine inb_n ?_
     refine then_n ?_
     refine wp_region_lit ?_
     refine wE (ev_move rfl) F S rfl fun a F=>?_
     obtain ⟨z2, hz2, hm⟩ := bind_some hm
     refine wE (ev_int rfl rfl (bo_add hz2)) F S rfl fun a F=>?_
     refine wE (ev_assign rfl) F S rfl fun a F=>?_
     refine wpList_nil ?_
     refine then_n ?_
     obtain rfl := sinj hm
     refine ⟨_, rfl, ?_⟩
     dsimp only
     replace S : St g15 [c5] fr w := St.tail [c5] _ (S.frontC 2 rfl)
     exact ⟨v5, c5, g15, F.sub ⟨rfl, rfl, rfl, rfl, trivial⟩, ((l13.trans l14).trans l15), S, h7⟩
   ·refine wp_condF F rfl hc8 ?_
    refine wp_exit ?_
    refine then_e ?_
    refine then_e ?_
    refine inb_x ?_
    refine then_n ?_
    obtain rfl := sinj hm
    obtain rfl := hfin1 _ rfl
    clear hm
    have hm : (changeforgelaw2_SequenceTyped.j1 l_ replica x9 : Option Bool) = some _ := hmo1
    exact ⟨x9, v3, c3, g13, F.sub ⟨rfl, rfl, rfl, trivial⟩, l13, S, h5, hm⟩
 ·clear F S hm; rintro a w ⟨x1, v1, c1, g1, F, l1, S, h1, hm⟩
  refine wp_seq ?_
  refine wp_region_lit ?_
  refine wE (ev_move rfl) F S rfl fun a F=>?_
  obtain ⟨g2, l2, S, h2⟩ : ∃ gz, Le g1 gz ∧ St gz [] fr w ∧ RepSl gz x1 v1 := ⟨_, Le.add _ _, S.freeze 0 rfl, OwnS.freeze (S.front 0 rfl) h1⟩
  obtain ⟨y1, hy1, hm⟩ := bind_some hm
  refine wl_call0 (wn rfl) rfl F rfl (sequence_Visible_ok x1 v1 h2 S hy1) rfl tc9 rfl rfl ?_; clear F a S
  rintro _ a w ⟨g3, v2, c2, l3, S, h3, rfl⟩ F; replace S : St g3 [c2] fr w := S
  refine wE (ev_move rfl) F S rfl fun a F=>?_
  refine wE (ev_extract rfl rfl) F S rfl fun a F=>?_
  refine wE (ev_extract rfl rfl) F S rfl fun a F=>?_
  refine wl_alloc (wn rfl) rfl tz25 (cs := [.i6 0, .i6 0]) rfl F S rfl rfl ?_; clear F a S; rintro b1 a w F S
  refine wE (ev_assign rfl) F S rfl fun a F=>?_
  refine wl_storeC (wn rfl) rfl F S rfl rfl (vs := [.i6 y1.2.Code, .i6 y1.2.Index]) rfl ts25 (one_cons rfl (one_cons rfl one_nil)) (k := 0) rfl (lb rfl) (c' := #[.i6 y1.2.Code, .i6 y1.2.Index]) rfl rfl ?_; clear S; intro w S
  refine wpList_nil ?_
  refine then_n ?_
  refine wp_seq ?_
  refine wp_seq ?_
  refine wp_region_lit ?_
  refine wE (ev_move rfl) F S rfl fun a F=>?_
  refine wE (ev_int rfl rfl (bo_lss _ _ _ _)) F S rfl fun a F=>?_
  refine wE (ev_move rfl) F S rfl fun a F=>?_
  obtain ⟨x2, hx1, hm⟩ := bind_some hm
  refine wl_cut 3 (fun a w' => w = w' ∧ Fr 76 a [(43, .bool x2), (8, v2), (9, bp b1 0), (0, vl_1)]) ?_ ?_
  ·clear hm; obtain ⟨hc1, hm⟩ | ⟨hc1, hm⟩ := ite_or hx1
   ·refine wl_skip rfl rfl rfl rfl (ne_ft hc1) F rfl rfl ?_; clear F a; intro a F
    refine wl_skip rfl rfl rfl rfl (ne_ft hc1) F rfl rfl ?_; clear F a; intro a F
    refine wE (ev_pickT rfl hc1 rfl) F S rfl fun a F=>?_
    obtain rfl := sinj hm
    refine wpList_nil (then_n ?_); exact ⟨rfl, F.sub ⟨rfl, rfl, rfl, rfl, trivial⟩⟩
   ·refine wl_ev (wg F rfl rfl rfl rfl hc1) (ev_move rfl) F S rfl rfl ?_; clear F a; intro a F
    refine wl_ev (wg F rfl rfl rfl rfl hc1) (ev_int rfl rfl (bo_geq _ _ _ _)) F S rfl rfl ?_; clear F a; intro a F
    refine wE (ev_pickF rfl hc1 rfl) F S rfl fun a F=>?_
    obtain rfl := sinj hm
    refine wpList_nil (then_n ?_); exact ⟨rfl, F.sub ⟨rfl, rfl, rfl, rfl, trivial⟩⟩
  clear F; rintro a w' ⟨rfl, F⟩
  refine wE (ev_move rfl) F S rfl fun a F=>?_
  obtain ⟨x3, hx2, hm⟩ := bind_some hm
  refine wl_cut 4 (fun a w' => w = w' ∧ Fr 76 a [(48, .bool x3), (8, v2), (9, bp b1 0), (0, vl_1)]) ?_ ?_
  ·clear hm; obtain ⟨hc2, hm⟩ | ⟨hc2, hm⟩ := ite_or hx2
   ·refine wl_skip rfl rfl rfl rfl (ne_ft hc2) F rfl rfl ?_; clear F a; intro a F
    refine wl_skip rfl rfl rfl rfl (ne_ft hc2) F rfl rfl ?_; clear F a; intro a F
    refine wl_skip rfl rfl rfl rfl (ne_ft hc2) F rfl rfl ?_; clear F a; intro a F
    refine wE (ev_pickT rfl hc2 rfl) F S rfl fun a F=>?_
    obtain rfl := sinj hm
    refine wpList_nil (then_n ?_); exact ⟨rfl, F.sub ⟨rfl, rfl, rfl, rfl, trivial⟩⟩
   ·refine wl_ev (wg F rfl rfl rfl rfl hc2) (ev_move rfl) F S rfl rfl ?_; clear F a; intro a F
    refine wl_ev (wg F rfl rfl rfl rfl hc2) (ev_lenSh hl_1 rfl tu23) F S rfl rfl ?_; clear F a; intro a F
    refine wl_ev (wg F rfl rfl rfl rfl hc2) (ev_int rfl rfl (bo_gtr _ _ _ _)) F S rfl rfl ?_; clear F a; intro a F
    refine wE (ev_pickF rfl hc2 rfl) F S rfl fun a F=>?_
    obtain rfl := sinj hm
    refine wpList_nil (then_n ?_); exact ⟨rfl, F.sub ⟨rfl, rfl, rfl, rfl, trivial⟩⟩
  clear F; rintro a w' ⟨rfl, F⟩
  refine wE (ev_move rfl) F S rfl fun a F=>?_
  obtain ⟨x4, hx3, hm⟩ := bind_some hm
  refine wl_cut 5 (fun a w => ∃ g4, Fr 76 a [(54, .bool x4), (8, v2), (9, bp b1 0), (0, vl_1)] ∧ Le g3 g4 ∧ St g4 [[bx b1 #[.i6 y1.2.Code, .i6 y1.2.Index] 25], c2] fr w) ?_ ?_
  ·clear hm; obtain ⟨hc3, hm⟩ | ⟨hc3, hm⟩ := ite_or hx3
   ·refine wl_skip rfl rfl rfl rfl (ne_ft hc3) F rfl rfl ?_; clear F a; intro a F
    refine wl_skip rfl rfl rfl rfl (ne_ft hc3) F rfl rfl ?_; clear F a; intro a F
    refine wl_skip rfl rfl rfl rfl (ne_ft hc3) F rfl rfl ?_; clear F a; intro a F
    refine wl_skip rfl rfl rfl rfl (ne_ft hc3) F rfl rfl ?_; clear F a; intro a F
    refine wE (ev_pickT rfl hc3 rfl) F S rfl fun a F=>?_
    obtain rfl := sinj hm
    refine wpList_nil (then_n ?_); exact ⟨g3, F.sub ⟨rfl, rfl, rfl, rfl, trivial⟩, (Le.refl _), S⟩
   ·refine wl_ev (wg F rfl rfl rfl rfl hc3) (ev_move rfl) F S rfl rfl ?_; clear F a; intro a F
    obtain ⟨y2, hy2, hm⟩ := bind_some hm
    refine wl_call0 (wg F rfl rfl rfl rfl hc3) rfl F rfl (lines_Validate_ok (fr := (fl [[bx b1 #[.i6 y1.2.Code, .i6 y1.2.Index] 25], c2] fr)) l_ vl_1 (hl_1.mono ((l1.trans l2).trans l3)) S hy2) rfl tc16 rfl rfl ?_; clear F a S
    rintro _ a w ⟨g5, l5, S, rfl⟩ F; replace S : St g5 [[bx b1 #[.i6 y1.2.Code, .i6 y1.2.Index] 25], c2] fr w := S
    refine wl_ev (wg F rfl rfl rfl rfl hc3) (ev_field1 tu25 tf25_0 tu3 rfl (cs := [.i6 y2.Code, .i6 y2.Index]) rfl rfl) F S rfl rfl ?_; clear F a; intro a F
    refine wl_ev (wg F rfl rfl rfl rfl hc3) (ev_int rfl rfl (bo_neq _ _ _ _)) F S rfl rfl ?_; clear F a; intro a F
    refine wE (ev_pickF rfl hc3 rfl) F S rfl fun a F=>?_
    obtain rfl := sinj hm
    refine wpList_nil (then_n ?_); exact ⟨g5, F.sub ⟨rfl, rfl, rfl, rfl, trivial⟩, l5, S⟩
  clear F S; rintro a w ⟨g4, F, l4, S⟩
  refine wpList_nil ?_
  refine then_n ?_
  obtain ⟨hc4, hm⟩ | ⟨hc4, hm⟩ := ite_or hm
  ·refine wp_condT F rfl hc4 ?_
   refine wp_seq ?_
   refine wp_region_lit ?_
   refine wE (ev_fieldAddr' tu25 tf25_0 (z := 0) ts3 rfl ⟨_, rfl⟩ rfl) F S rfl fun a F=>?_
   refine wE (ev_load1 tu3 rfl rfl (box_ptr (cells := [.i6 y1.2.Code]) 0 rfl 0 rfl (lb rfl))) F S rfl fun a F=>?_
   refine wE (ev_int rfl rfl (bo_neq _ _ _ _)) F S rfl fun a F=>?_
   refine wE (ev_move rfl) F S rfl fun a F=>?_
   refine wE (ev_lenSh hl_1 rfl tu23) F S rfl fun a F=>?_
   refine wE (ev_int rfl rfl (bo_gtr _ _ _ _)) F S rfl fun a F=>?_
   refine wE (ev_eqB tu4 rfl rfl) F S rfl fun a F=>?_
   refine wE (ev_move rfl) F S rfl fun a F=>?_
   obtain ⟨x5, hx4, hm⟩ := bind_some hm
   refine wl_cut 2 (fun a w => ∃ g6, Fr 76 a [(64, .bool x5)] ∧ Le g4 g6 ∧ St g6 [[bx b1 #[.i6 y1.2.Code, .i6 y1.2.Index] 25], c2] fr w) ?_ ?_
   ·clear hm; obtain ⟨hc5, hm⟩ | ⟨hc5, hm⟩ := ite_or hx4
    ·obtain ⟨y3, hy3, hm⟩ := bind_some hm
     refine wl_call0 (wg F rfl rfl rfl rfl hc5) rfl F rfl (changeforgelaw2_latest_ok (fr := (fl [[bx b1 #[.i6 y1.2.Code, .i6 y1.2.Index] 25], c2] fr))  S hy3) rfl tc11 rfl rfl ?_; clear F a S
     rintro _ a w ⟨g7, l7, S, rfl⟩ F; replace S : St g7 [[bx b1 #[.i6 y1.2.Code, .i6 y1.2.Index] 25], c2] fr w := S
     refine wE (ev_pickT rfl hc5 rfl) F S rfl fun a F=>?_
     obtain rfl := sinj hm
     refine wpList_nil (then_n ?_); exact ⟨g7, F.sub ⟨rfl, trivial⟩, l7, S⟩
    ·refine wl_skip rfl rfl rfl rfl (ne_tf hc5) F rfl rfl ?_; clear F a; intro a F
     refine wE (ev_pickF rfl hc5 rfl) F S rfl fun a F=>?_
     obtain rfl := sinj hm
     refine wpList_nil (then_n ?_); exact ⟨g4, F.sub ⟨rfl, trivial⟩, (Le.refl _), S⟩
   clear F S; rintro a w ⟨g6, F, l6, S⟩
   refine wE (ev_assign rfl) F S rfl fun a F=>?_
   refine wpList_nil ?_
   refine then_n ?_
   refine wp_ret ?_
   refine then_r ?_
   obtain rfl := sinj hm
   refine post_r _ F rfl (ar_cons (resT rfl) ar_nil) ?_
   replace S : St g6 [] fr w := St.tail [] _ S
   exact ⟨_, rfl, g6, ((((l1.trans l2).trans l3).trans l4).trans l6), S, rfl⟩
  ·refine wp_condF F rfl hc4 ?_
   refine wp_skip ?_
   refine then_n ?_
   refine wp_seq ?_
   refine wp_region_lit ?_
   refine wE (ev_fieldAddr' tu25 tf25_0 (z := 0) ts3 rfl ⟨_, rfl⟩ rfl) F S rfl fun a F=>?_
   refine wE (ev_load1 tu3 rfl rfl (box_ptr (cells := [.i6 y1.2.Code]) 0 rfl 0 rfl (lb rfl))) F S rfl fun a F=>?_
   refine wE (ev_int rfl rfl (bo_eql _ _ _ _)) F S rfl fun a F=>?_
   refine wE (ev_move rfl) F S rfl fun a F=>?_
   obtain ⟨g8, l8, S, h4⟩ : ∃ gz, Le g4 gz ∧ St gz [[bx b1 #[.i6 y1.2.Code, .i6 y1.2.Index] 25]] fr w ∧ RepSl gz y1.1 v2 := ⟨_, Le.add _ _, S.freeze 1 rfl, OwnS.freeze (S.front 1 rfl) (h3.mono l4)⟩
   obtain ⟨x6, hx5, hm⟩ := bind_some hm
   refine wl_cut 4 (fun a w => ∃ g9, Fr 76 a [(72, .bool x6)] ∧ Le g8 g9 ∧ St g9 [[bx b1 #[.i6 y1.2.Code, .i6 y1.2.Index] 25]] fr w) ?_ ?_
   ·clear hm; obtain ⟨hc6, hm⟩ | ⟨hc6, hm⟩ := ite_or hx5
    ·refine wl_ev (wg F rfl rfl rfl rfl hc6) (ev_move rfl) F S rfl rfl ?_; clear F a; intro a F
     refine wl_ev (wg F rfl rfl rfl rfl hc6) (ev_move rfl) F S rfl rfl ?_; clear F a; intro a F
     obtain ⟨y4, hy4, hm⟩ := bind_some hm
     refine wl_call0 (wg F rfl rfl rfl rfl hc6) rfl F rfl (changeforgeequal_Strings_ok (fr := (fl [[bx b1 #[.i6 y1.2.Code, .i6 y1.2.Index] 25]] fr)) y1.1 v2 h4 l_ vl_1 (hl_1.mono ((((l1.trans l2).trans l3).trans l4).trans l8)) S hy4) rfl tc12 rfl rfl ?_; clear F a S
     rintro _ a w ⟨g10, l10, S, rfl⟩ F; replace S : St g10 [[bx b1 #[.i6 y1.2.Code, .i6 y1.2.Index] 25]] fr w := S
     refine wE (ev_pickT rfl hc6 rfl) F S rfl fun a F=>?_
     obtain rfl := sinj hm
     refine wpList_nil (then_n ?_); exact ⟨g10, F.sub ⟨rfl, trivial⟩, l10, S⟩
    ·refine wl_skip rfl rfl rfl rfl (ne_tf hc6) F rfl rfl ?_; clear F a; intro a F
     refine wl_skip rfl rfl rfl rfl (ne_tf hc6) F rfl rfl ?_; clear F a; intro a F
     refine wl_skip rfl rfl rfl rfl (ne_tf hc6) F rfl rfl ?_; clear F a; intro a F
     refine wE (ev_pickF rfl hc6 rfl) F S rfl fun a F=>?_
     obtain rfl := sinj hm
     refine wpList_nil (then_n ?_); exact ⟨g8, F.sub ⟨rfl, trivial⟩, (Le.refl _), S⟩
   clear F S; rintro a w ⟨g9, F, l9, S⟩
   refine wE (ev_move rfl) F S rfl fun a F=>?_
   obtain ⟨x7, hx6, hm⟩ := bind_some hm
   refine wl_cut 2 (fun a w => ∃ g11, Fr 76 a [(75, .bool x7)] ∧ Le g9 g11 ∧ St g11 [[bx b1 #[.i6 y1.2.Code, .i6 y1.2.Index] 25]] fr w) ?_ ?_
   ·clear hm; obtain ⟨hc7, hm⟩ | ⟨hc7, hm⟩ := ite_or hx6
    ·obtain ⟨y5, hy5, hm⟩ := bind_some hm
     refine wl_call0 (wg F rfl rfl rfl rfl hc7) rfl F rfl (changeforgelaw2_latest_ok (fr := (fl [[bx b1 #[.i6 y1.2.Code, .i6 y1.2.Index] 25]] fr))  S hy5) rfl tc11 rfl rfl ?_; clear F a S
     rintro _ a w ⟨g12, l12, S, rfl⟩ F; replace S : St g12 [[bx b1 #[.i6 y1.2.Code, .i6 y1.2.Index] 25]] fr w := S
     refine wE (ev_pickT rfl hc7 rfl) F S rfl fun a F=>?_
     obtain rfl := sinj hm
     refine wpList_nil (then_n ?_); exact ⟨g12, F.sub ⟨rfl, trivial⟩, l12, S⟩
    ·refine wl_skip rfl rfl rfl rfl (ne_tf hc7) F rfl rfl ?_; clear F a; intro a F
     refine wE (ev_pickF rfl hc7 rfl) F S rfl fun a F=>?_
     obtain rfl := sinj hm
     refine wpList_nil (then_n ?_); exact ⟨g9, F.sub ⟨rfl, trivial⟩, (Le.refl _), S⟩
   clear F S; rintro a w ⟨g11, F, l11, S⟩
   refine wE (ev_assign rfl) F S rfl fun a F=>?_
   refine wpList_nil ?_
   refine then_n ?_
   refine wp_ret ?_
   obtain rfl := sinj hm
   refine post_r _ F rfl (ar_cons (resT rfl) ar_nil) ?_
   replace S : St g11 [] fr w := St.tail [] _ S
   exact ⟨_, rfl, g11, ((((((l1.trans l2).trans l3).trans l4).trans l8).trans l9).trans l11), S, rfl⟩
end Go.Dc
