/- Walks: each function comes to what its model says. -/
import Derived.Test.YtibigfejalemjaaDcTab
import Derived.Test.YtibigfejalemjaaDcM
import Derived.Test.YtibigfejalemjaaDcW3
import Derived.Test.YtibigfejalemjaaDcW6
namespace Go.Dc
open Go Go.Proofs
set_option maxRecDepth 100000
set_option maxHeartbeats 4000000
set_option linter.unusedVariables false
theorem changeforgelaw2_SequenceDeletes_ok {g : Gh} {fr : Hl} {w : World} {r : Bool} (a_ : (List SeqOp)) (va_1 : Value) (ha_1 : RepSl g a_ va_1) (o_ : SeqOp) (S : St g [] fr w) (hm : changeforgelaw2_SequenceDeletes a_ o_ = some r) :
  Calls Try.prog 5 [va_1, .agg #[.bool o_.Delete, .i6 o_.Replica, .i6 o_.Counter, .i6 o_.AfterReplica, .i6 o_.AfterCounter, .string o_.Line]].toArray w (fun en w' => ∃ v, en = .returned v ∧ ∃ (g' : Gh), Le g g' ∧ St g' [] fr w' ∧ .bool r = v) := by
 unfold changeforgelaw2_SequenceDeletes at hm
 refine calls_enter (fn := Try.f5) Try.func5 rfl Try.ntmps5 (lb rfl) ?_
 intro a F
 replace F : Fr 83 a [(0, va_1), (1, .agg #[.bool o_.Delete, .i6 o_.Replica, .i6 o_.Counter, .i6 o_.AfterReplica, .i6 o_.AfterCounter, .string o_.Line])] := F
 refine wp_seq ?_
 refine wp_region_lit ?_
 refine wl_boxC (wn rfl) rfl rfl rfl F S rfl rfl ?_; clear F a S; rintro b1 a w F S
 refine wE (ev_assign rfl) F S rfl fun a F=>?_
 refine wpList_nil ?_
 refine then_n ?_
 refine wp_seq ?_
 refine wp_dv [] mo S ?_; clear S; intro ok1 w S
 refine dv_et ok1 1 rfl (ev_move rfl) F rfl fun a F=>?_
 refine dv_ev ok1 3 rfl (ev_loadA tu33 rfl (cs := [.bool o_.Delete, .i6 o_.Replica, .i6 o_.Counter, .i6 o_.AfterReplica, .i6 o_.AfterCounter, .string o_.Line]) ts33 rfl (box_ptr (cells := [.bool o_.Delete, .i6 o_.Replica, .i6 o_.Counter, .i6 o_.AfterReplica, .i6 o_.AfterCounter, .string o_.Line]) 0 rfl 0 rfl (lb rfl))) F S rfl fun a F=>?_
 obtain ⟨y1, hy1, hm⟩ := bind_some hm
 refine dv_cut [1, 3, 0, 2, 4] [] (fun a w => ∃ (x1 : List SeqOp) (v4 v5 : Value) (c4 c5 : Hl) (g1 : Gh), Fr 83 a [(17, v4), (15, v5), (3, bp b1 0), (0, va_1)] ∧ Le g g1 ∧ St g1 [c4, c5, [bx b1 #[.bool o_.Delete, .i6 o_.Replica, .i6 o_.Counter, .i6 o_.AfterReplica, .i6 o_.AfterCounter, .string o_.Line] 33]] fr w ∧ OwnS g1 x1 v4 c4 ∧ OwnS g1 y1 v5 c5 ∧ changeforgelaw2_SequenceDeletes.j1 a_ o_ y1 x1 = some r) ?_ ?_
 ·intro HJ
  refine dv_fork ok1 0 [4] (fk 0 rfl [(3, .agg #[.bool o_.Delete, .i6 o_.Replica, .i6 o_.Counter, .i6 o_.AfterReplica, .i6 o_.AfterCounter, .string o_.Line])] ?_ (fk 4 rfl [] ?_ trivial))
  ·refine wl_lit (l := ([] : List SeqOp)) (vs := []) (parts := []) (wn rfl) rfl rfl rfl tu22 te33 sz_nil rfl (Cat.nil _) coa_nil rfl F S rfl rfl ?_; clear F a S
   rintro v1 c1 a w h1 F S
   refine dv_nx ⟨yl_ev rfl rfl (ev_loadA tu33 rfl (cs := [.bool o_.Delete, .i6 o_.Replica, .i6 o_.Counter, .i6 o_.AfterReplica, .i6 o_.AfterCounter, .string o_.Line]) ts33 rfl (box_ptr (cells := [.bool o_.Delete, .i6 o_.Replica, .i6 o_.Counter, .i6 o_.AfterReplica, .i6 o_.AfterCounter, .string o_.Line]) 1 rfl 0 rfl (lb rfl))) F S, trivial⟩ ?_
   refine dv_fork ok1 2 [4] (fk 2 rfl [(3, .agg #[.bool o_.Delete, .i6 o_.Replica, .i6 o_.Counter, .i6 o_.AfterReplica, .i6 o_.AfterCounter, .string o_.Line])] ?_ (fk 4 rfl [] ?_ trivial))
   ·obtain ⟨cs1, hk1, hr1⟩ := RepSl.reads ha_1
    refine wl_append (wn rfl) rfl tu22 tu22 te33 (by decide) (by decide) F S rfl rfl (k := 0) rfl h1 hk1 rfl (hr1 _ _ S) hy1 rfl rfl ?_; clear F a S
    rintro v2 c2 a w h2 S F; replace S : St g [c2, [bx b1 #[.bool o_.Delete, .i6 o_.Replica, .i6 o_.Counter, .i6 o_.AfterReplica, .i6 o_.AfterCounter, .string o_.Line] 33]] fr w := S
    refine dv_nx ⟨yl_ev rfl rfl (ev_loadA tu33 rfl (cs := [.bool o_.Delete, .i6 o_.Replica, .i6 o_.Counter, .i6 o_.AfterReplica, .i6 o_.AfterCounter, .string o_.Line]) ts33 rfl (box_ptr (cells := [.bool o_.Delete, .i6 o_.Replica, .i6 o_.Counter, .i6 o_.AfterReplica, .i6 o_.AfterCounter, .string o_.Line]) 1 rfl 0 rfl (lb rfl))) F S, trivial⟩ ?_
    refine dv_op ok1 4 rfl [] ?_
    refine wl_lit (l := ([o_] : List SeqOp)) (vs := [.agg #[.bool o_.Delete, .i6 o_.Replica, .i6 o_.Counter, .i6 o_.AfterReplica, .i6 o_.AfterCounter, .string o_.Line]]) (parts := [(0, .tmp 16)]) (wn rfl) rfl rfl rfl tu22 te33 (sz_cons rfl sz_nil) rfl (Cat.cons (rep_SeqOp_mk (x := o_) ) (Cat.nil _)) (coa_cons rfl coa_nil) rfl F S rfl rfl ?_; clear F a S
    rintro v3 c3 a w h3 F S
    refine dv_nx trivial ?_
    refine dv_join (HJ _ _ ?_)
    exact ⟨([o_] : List SeqOp), v3, v2, c3, c2, g, F.sub ⟨rfl, rfl, rfl, rfl, trivial⟩, (Le.refl _), S, h3, h2, hm⟩
   ·refine wl_lit (l := ([o_] : List SeqOp)) (vs := [.agg #[.bool o_.Delete, .i6 o_.Replica, .i6 o_.Counter, .i6 o_.AfterReplica, .i6 o_.AfterCounter, .string o_.Line]]) (parts := [(0, .tmp 16)]) (wn rfl) rfl rfl rfl tu22 te33 (sz_cons rfl sz_nil) rfl (Cat.cons (rep_SeqOp_mk (x := o_) ) (Cat.nil _)) (coa_cons rfl coa_nil) rfl F S rfl rfl ?_; clear F a S
    rintro v3 c3 a w h3 F S
    refine dv_nx trivial ?_
    refine dv_op ok1 2 rfl [] ?_
    obtain ⟨cs1, hk1, hr1⟩ := RepSl.reads ha_1
    refine wl_append (wn rfl) rfl tu22 tu22 te33 (by decide) (by decide) F S rfl rfl (k := 1) rfl h1 hk1 rfl (hr1 _ _ S) hy1 rfl rfl ?_; clear F a S
    rintro v2 c2 a w h2 S F; replace S : St g [c3, c2, [bx b1 #[.bool o_.Delete, .i6 o_.Replica, .i6 o_.Counter, .i6 o_.AfterReplica, .i6 o_.AfterCounter, .string o_.Line] 33]] fr w := S
    refine dv_nx trivial ?_
    refine dv_join (HJ _ _ ?_)
    exact ⟨([o_] : List SeqOp), v3, v2, c3, c2, g, F.sub ⟨rfl, rfl, rfl, rfl, trivial⟩, (Le.refl _), S, h3, h2, hm⟩
  ·refine wl_lit (l := ([o_] : List SeqOp)) (vs := [.agg #[.bool o_.Delete, .i6 o_.Replica, .i6 o_.Counter, .i6 o_.AfterReplica, .i6 o_.AfterCounter, .string o_.Line]]) (parts := [(0, .tmp 16)]) (wn rfl) rfl rfl rfl tu22 te33 (sz_cons rfl sz_nil) rfl (Cat.cons (rep_SeqOp_mk (x := o_) ) (Cat.nil _)) (coa_cons rfl coa_nil) rfl F S rfl rfl ?_; clear F a S
   rintro v3 c3 a w h3 F S
   refine dv_nx trivial ?_
   refine dv_op ok1 0 rfl [] ?_
   refine wl_lit (l := ([] : List SeqOp)) (vs := []) (parts := []) (wn rfl) rfl rfl rfl tu22 te33 sz_nil rfl (Cat.nil _) coa_nil rfl F S rfl rfl ?_; clear F a S
   rintro v1 c1 a w h1 F S
   refine dv_nx trivial ?_
   refine dv_op ok1 2 rfl [] ?_
   obtain ⟨cs1, hk1, hr1⟩ := RepSl.reads ha_1
   refine wl_append (wn rfl) rfl tu22 tu22 te33 (by decide) (by decide) F S rfl rfl (k := 0) rfl h1 hk1 rfl (hr1 _ _ S) hy1 rfl rfl ?_; clear F a S
   rintro v2 c2 a w h2 S F; replace S : St g [c2, c3, [bx b1 #[.bool o_.Delete, .i6 o_.Replica, .i6 o_.Counter, .i6 o_.AfterReplica, .i6 o_.AfterCounter, .string o_.Line] 33]] fr w := S
   refine dv_nx trivial ?_
   refine dv_join (HJ _ _ ?_)
   replace S : St g [c3, c2, [bx b1 #[.bool o_.Delete, .i6 o_.Replica, .i6 o_.Counter, .i6 o_.AfterReplica, .i6 o_.AfterCounter, .string o_.Line] 33]] fr w := St.tail [c3, c2, [bx b1 #[.bool o_.Delete, .i6 o_.Replica, .i6 o_.Counter, .i6 o_.AfterReplica, .i6 o_.AfterCounter, .string o_.Line] 33]] _ (((S.frontC 2 rfl).frontC 1 rfl).frontC 3 rfl)
   exact ⟨([o_] : List SeqOp), v3, v2, c3, c2, g, F.sub ⟨rfl, rfl, rfl, rfl, trivial⟩, (Le.refl _), S, h3, h2, hm⟩
 ·clear F S hm; rintro a w ⟨x1, v4, v5, c4, c5, g1, F, l1, S, h4, h5, hm⟩
  refine dv_op ok1 5 rfl [] ?_
  obtain ⟨cs2, hk2, hr2⟩ := OwnS.reads h4
  obtain ⟨y2, hy2, hm⟩ := bind_some hm
  refine wl_append (wn rfl) rfl tu22 tu22 te33 (by decide) (by decide) F S rfl rfl (k := 1) rfl h5 hk2 rfl (hr2 _ _ _ 0 rfl S) hy2 rfl rfl ?_; clear F a S
  rintro v6 c6 a w h6 S F; replace S : St g1 [c4, c6, [bx b1 #[.bool o_.Delete, .i6 o_.Replica, .i6 o_.Counter, .i6 o_.AfterReplica, .i6 o_.AfterCounter, .string o_.Line] 33]] fr w := S
  refine dv_nx trivial ?_
  refine dv_et ok1 6 rfl (ev_assign rfl) F rfl fun a F=>?_
  refine dv_fin ok1 ?_
  refine then_n ?_
  refine wp_seq ?_
  refine wp_region_lit ?_
  refine wE (ev_move rfl) F S rfl fun a F=>?_
  obtain ⟨y3, hy3, hm⟩ := bind_some hm
  refine wl_call0 (wn rfl) rfl F rfl (sequence_Visible_ok (fr := (fl [c4, c6, [bx b1 #[.bool o_.Delete, .i6 o_.Replica, .i6 o_.Counter, .i6 o_.AfterReplica, .i6 o_.AfterCounter, .string o_.Line] 33]] fr)) a_ va_1 (ha_1.mono l1) S hy3) rfl tc9 rfl rfl ?_; clear F a S
  rintro _ a w ⟨g2, v7, c7, l2, S, h7, rfl⟩ F; replace S : St g2 [c7, c4, c6, [bx b1 #[.bool o_.Delete, .i6 o_.Replica, .i6 o_.Counter, .i6 o_.AfterReplica, .i6 o_.AfterCounter, .string o_.Line] 33]] fr w := S
  refine wE (ev_move rfl) F S rfl fun a F=>?_
  refine wE (ev_extract rfl rfl) F S rfl fun a F=>?_
  refine wE (ev_extract rfl rfl) F S rfl fun a F=>?_
  refine wl_alloc (wn rfl) rfl tz25 (cs := [.i6 0, .i6 0]) rfl F S rfl rfl ?_; clear F a S; rintro b2 a w F S
  refine wE (ev_assign rfl) F S rfl fun a F=>?_
  refine wl_storeC (wn rfl) rfl F S rfl rfl (vs := [.i6 y3.2.Code, .i6 y3.2.Index]) rfl ts25 (one_cons rfl (one_cons rfl one_nil)) (k := 0) rfl (lb rfl) (c' := #[.i6 y3.2.Code, .i6 y3.2.Index]) rfl rfl ?_; clear S; intro w S
  refine wpList_nil ?_
  refine then_n ?_
  refine wp_seq ?_
  refine wp_region_lit ?_
  refine wE (ev_move rfl) F S rfl fun a F=>?_
  obtain ⟨g3, l3, S, h8⟩ : ∃ gz, Le g2 gz ∧ St gz [[bx b2 #[.i6 y3.2.Code, .i6 y3.2.Index] 25], c7, c4, [bx b1 #[.bool o_.Delete, .i6 o_.Replica, .i6 o_.Counter, .i6 o_.AfterReplica, .i6 o_.AfterCounter, .string o_.Line] 33]] fr w ∧ RepSl gz y2 v6 := ⟨_, Le.add _ _, S.freeze 3 rfl, OwnS.freeze (S.front 3 rfl) (h6.mono l2)⟩
  obtain ⟨y4, hy4, hm⟩ := bind_some hm
  refine wl_call0 (wn rfl) rfl F rfl (sequence_Visible_ok (fr := (fl [[bx b2 #[.i6 y3.2.Code, .i6 y3.2.Index] 25], c7, c4, [bx b1 #[.bool o_.Delete, .i6 o_.Replica, .i6 o_.Counter, .i6 o_.AfterReplica, .i6 o_.AfterCounter, .string o_.Line] 33]] fr)) y2 v6 h8 S hy4) rfl tc9 rfl rfl ?_; clear F a S
  rintro _ a w ⟨g4, v8, c8, l4, S, h9, rfl⟩ F; replace S : St g4 [c8, [bx b2 #[.i6 y3.2.Code, .i6 y3.2.Index] 25], c7, c4, [bx b1 #[.bool o_.Delete, .i6 o_.Replica, .i6 o_.Counter, .i6 o_.AfterReplica, .i6 o_.AfterCounter, .string o_.Line] 33]] fr w := S
  refine wE (ev_move rfl) F S rfl fun a F=>?_
  refine wE (ev_extract rfl rfl) F S rfl fun a F=>?_
  refine wE (ev_extract rfl rfl) F S rfl fun a F=>?_
  refine wl_alloc (wn rfl) rfl tz25 (cs := [.i6 0, .i6 0]) rfl F S rfl rfl ?_; clear F a S; rintro b3 a w F S
  refine wE (ev_assign rfl) F S rfl fun a F=>?_
  refine wl_storeC (wn rfl) rfl F S rfl rfl (vs := [.i6 y4.2.Code, .i6 y4.2.Index]) rfl ts25 (one_cons rfl (one_cons rfl one_nil)) (k := 0) rfl (lb rfl) (c' := #[.i6 y4.2.Code, .i6 y4.2.Index]) rfl rfl ?_; clear S; intro w S
  refine wpList_nil ?_
  refine then_n ?_
  refine wp_seq ?_
  refine wp_dv [] mo S ?_; clear S; intro ok2 w S
  refine dv_et ok2 1 rfl (ev_move rfl) F rfl fun a F=>?_
  refine dv_ev ok2 3 rfl (ev_loadA tu33 rfl (cs := [.bool o_.Delete, .i6 o_.Replica, .i6 o_.Counter, .i6 o_.AfterReplica, .i6 o_.AfterCounter, .string o_.Line]) ts33 rfl (box_ptr (cells := [.bool o_.Delete, .i6 o_.Replica, .i6 o_.Counter, .i6 o_.AfterReplica, .i6 o_.AfterCounter, .string o_.Line]) 5 rfl 0 rfl (lb rfl))) F S rfl fun a F=>?_
  obtain ⟨y5, hy5, hm⟩ := bind_some hm
  obtain ⟨y6, hy6, hm⟩ := bind_some hm
  obtain ⟨y7, hy7, hm⟩ := bind_some hm
  refine dv_cut [1, 3, 0, 2, 4, 5, 6, 7, 8, 9, 10, 11] [] (fun a w => ∃ (b5 : Nat) (g7 : Gh), Fr 83 a [(11, bp b5 0), (38, .agg #[.i6 y7.2.Code, .i6 y7.2.Index]), (8, v8), (9, bp b3 0), (6, v7), (7, bp b2 0), (5, v6), (3, bp b1 0)] ∧ Le g4 g7 ∧ St g7 [[bx b5 #[.i6 0, .i6 0] 25], c8, [bx b3 #[.i6 y4.2.Code, .i6 y4.2.Index] 25], c7, [bx b2 #[.i6 y3.2.Code, .i6 y3.2.Index] 25], [bx b1 #[.bool o_.Delete, .i6 o_.Replica, .i6 o_.Counter, .i6 o_.AfterReplica, .i6 o_.AfterCounter, .string o_.Line] 33]] fr w ∧ changeforgelaw2_SequenceDeletes.j2 o_ y2 y3 y4 y7 = some r) ?_ ?_
  ·intro HJ
   refine dv_fork ok2 0 [4, 10] (fk 0 rfl [(3, .agg #[.bool o_.Delete, .i6 o_.Replica, .i6 o_.Counter, .i6 o_.AfterReplica, .i6 o_.AfterCounter, .string o_.Line])] ?_ (fk 4 rfl [] ?_ (fk 10 rfl [(3, .agg #[.bool o_.Delete, .i6 o_.Replica, .i6 o_.Counter, .i6 o_.AfterReplica, .i6 o_.AfterCounter, .string o_.Line])] ?_ trivial)))
   ·refine wl_lit (l := ([] : List SeqOp)) (vs := []) (parts := []) (wn rfl) rfl rfl rfl tu22 te33 sz_nil rfl (Cat.nil _) coa_nil rfl F S rfl rfl ?_; clear F a S
    rintro v9 c9 a w h10 F S
    refine dv_nx ⟨yl_ev rfl rfl (ev_loadA tu33 rfl (cs := [.bool o_.Delete, .i6 o_.Replica, .i6 o_.Counter, .i6 o_.AfterReplica, .i6 o_.AfterCounter, .string o_.Line]) ts33 rfl (box_ptr (cells := [.bool o_.Delete, .i6 o_.Replica, .i6 o_.Counter, .i6 o_.AfterReplica, .i6 o_.AfterCounter, .string o_.Line]) 6 rfl 0 rfl (lb rfl))) F S, trivial⟩ ?_
    refine dv_fork ok2 2 [4, 10] (fk 2 rfl [(3, .agg #[.bool o_.Delete, .i6 o_.Replica, .i6 o_.Counter, .i6 o_.AfterReplica, .i6 o_.AfterCounter, .string o_.Line])] ?_ (fk 4 rfl [] ?_ (fk 10 rfl [(3, .agg #[.bool o_.Delete, .i6 o_.Replica, .i6 o_.Counter, .i6 o_.AfterReplica, .i6 o_.AfterCounter, .string o_.Line])] ?_ trivial)))
    ·obtain ⟨cs3, hk3, hr3⟩ := RepSl.reads (h8.mono l4)
     refine wl_append (wn rfl) rfl tu22 tu22 te33 (by decide) (by decide) F S rfl rfl (k := 0) rfl h10 hk3 rfl (hr3 _ _ S) hy5 rfl rfl ?_; clear F a S
     rintro v10 c10 a w h11 S F; replace S : St g4 [c10, [bx b3 #[.i6 y4.2.Code, .i6 y4.2.Index] 25], c8, [bx b2 #[.i6 y3.2.Code, .i6 y3.2.Index] 25], c7, c4, [bx b1 #[.bool o_.Delete, .i6 o_.Replica, .i6 o_.Counter, .i6 o_.AfterReplica, .i6 o_.AfterCounter, .string o_.Line] 33]] fr w := S
     refine dv_nx ⟨yl_ev rfl rfl (ev_loadA tu33 rfl (cs := [.bool o_.Delete, .i6 o_.Replica, .i6 o_.Counter, .i6 o_.AfterReplica, .i6 o_.AfterCounter, .string o_.Line]) ts33 rfl (box_ptr (cells := [.bool o_.Delete, .i6 o_.Replica, .i6 o_.Counter, .i6 o_.AfterReplica, .i6 o_.AfterCounter, .string o_.Line]) 6 rfl 0 rfl (lb rfl))) F S, trivial⟩ ?_
     refine dv_fork ok2 4 [10] (fk 4 rfl [] ?_ (fk 10 rfl [(3, .agg #[.bool o_.Delete, .i6 o_.Replica, .i6 o_.Counter, .i6 o_.AfterReplica, .i6 o_.AfterCounter, .string o_.Line])] ?_ trivial))
     ·refine wl_lit (l := ([o_] : List SeqOp)) (vs := [.agg #[.bool o_.Delete, .i6 o_.Replica, .i6 o_.Counter, .i6 o_.AfterReplica, .i6 o_.AfterCounter, .string o_.Line]]) (parts := [(0, .tmp 33)]) (wn rfl) rfl rfl rfl tu22 te33 (sz_cons rfl sz_nil) rfl (Cat.cons (rep_SeqOp_mk (x := o_) ) (Cat.nil _)) (coa_cons rfl coa_nil) rfl F S rfl rfl ?_; clear F a S
      rintro v11 c11 a w h12 F S
      refine dv_nx trivial ?_
      refine dv_fork ok2 5 [10] (fk 5 rfl [] ?_ (fk 10 rfl [] ?_ trivial))
      ·obtain ⟨cs4, hk4, hr4⟩ := OwnS.reads h12
       refine wl_append (wn rfl) rfl tu22 tu22 te33 (by decide) (by decide) F S rfl rfl (k := 1) rfl h11 hk4 rfl (hr4 _ _ _ 0 rfl S) hy6 rfl rfl ?_; clear F a S
       rintro v12 c12 a w h13 S F; replace S : St g4 [c11, c12, [bx b3 #[.i6 y4.2.Code, .i6 y4.2.Index] 25], c8, [bx b2 #[.i6 y3.2.Code, .i6 y3.2.Index] 25], c7, c4, [bx b1 #[.bool o_.Delete, .i6 o_.Replica, .i6 o_.Counter, .i6 o_.AfterReplica, .i6 o_.AfterCounter, .string o_.Line] 33]] fr w := S
       refine dv_nx trivial ?_
       refine dv_fork ok2 6 [10] (fk 6 rfl [] ?_ (fk 10 rfl [] ?_ trivial))
       ·obtain ⟨g5, l5, S, h14⟩ : ∃ gz, Le g4 gz ∧ St gz [c11, [bx b3 #[.i6 y4.2.Code, .i6 y4.2.Index] 25], c8, [bx b2 #[.i6 y3.2.Code, .i6 y3.2.Index] 25], c7, c4, [bx b1 #[.bool o_.Delete, .i6 o_.Replica, .i6 o_.Counter, .i6 o_.AfterReplica, .i6 o_.AfterCounter, .string o_.Line] 33]] fr w ∧ RepSl gz y6 v12 := ⟨_, Le.add _ _, S.freeze 1 rfl, OwnS.freeze (S.front 1 rfl) h13⟩
        refine wl_call0 (wn rfl) rfl F rfl (sequence_Visible_ok (fr := (fl [c11, [bx b3 #[.i6 y4.2.Code, .i6 y4.2.Index] 25], c8, [bx b2 #[.i6 y3.2.Code, .i6 y3.2.Index] 25], c7, c4, [bx b1 #[.bool o_.Delete, .i6 o_.Replica, .i6 o_.Counter, .i6 o_.AfterReplica, .i6 o_.AfterCounter, .string o_.Line] 33]] fr)) y6 v12 h14 S hy7) rfl tc9 rfl rfl ?_; clear F a S
        rintro _ a w ⟨g6, v13, c13, l6, S, h15, rfl⟩ F; replace S : St g6 [c13, c11, [bx b3 #[.i6 y4.2.Code, .i6 y4.2.Index] 25], c8, [bx b2 #[.i6 y3.2.Code, .i6 y3.2.Index] 25], c7, c4, [bx b1 #[.bool o_.Delete, .i6 o_.Replica, .i6 o_.Counter, .i6 o_.AfterReplica, .i6 o_.AfterCounter, .string o_.Line] 33]] fr w := S
        refine dv_nx trivial ?_
        refine dv_et ok2 7 rfl (ev_move rfl) F rfl fun a F=>?_
        refine dv_et ok2 8 rfl (ev_extract rfl rfl) F rfl fun a F=>?_
        refine dv_et ok2 9 rfl (ev_extract rfl rfl) F rfl fun a F=>?_
        refine dv_op ok2 10 rfl [] ?_
        refine wl_alloc (wn rfl) rfl tz25 (cs := [.i6 0, .i6 0]) rfl F S rfl rfl ?_; clear F a S; rintro b4 a w F S
        refine dv_nx trivial ?_
        refine dv_et ok2 11 rfl (ev_assign rfl) F rfl fun a F=>?_
        refine dv_join (HJ _ _ ?_)
        replace S : St g6 [[bx b4 #[.i6 0, .i6 0] 25], c8, [bx b3 #[.i6 y4.2.Code, .i6 y4.2.Index] 25], c7, [bx b2 #[.i6 y3.2.Code, .i6 y3.2.Index] 25], [bx b1 #[.bool o_.Delete, .i6 o_.Replica, .i6 o_.Counter, .i6 o_.AfterReplica, .i6 o_.AfterCounter, .string o_.Line] 33]] fr w := St.tail [[bx b4 #[.i6 0, .i6 0] 25], c8, [bx b3 #[.i6 y4.2.Code, .i6 y4.2.Index] 25], c7, [bx b2 #[.i6 y3.2.Code, .i6 y3.2.Index] 25], [bx b1 #[.bool o_.Delete, .i6 o_.Replica, .i6 o_.Counter, .i6 o_.AfterReplica, .i6 o_.AfterCounter, .string o_.Line] 33]] _ ((((((S.frontC 8 rfl).frontC 6 rfl).frontC 8 rfl).frontC 6 rfl).frontC 8 rfl).frontC 5 rfl)
        exact ⟨b4, g6, F.sub ⟨rfl, rfl, rfl, rfl, rfl, rfl, rfl, rfl, trivial⟩, (l5.trans l6), S, hm⟩
       ·refine wl_alloc (wn rfl) rfl tz25 (cs := [.i6 0, .i6 0]) rfl F S rfl rfl ?_; clear F a S; rintro b4 a w F S
        refine dv_nx trivial ?_
        refine dv_op ok2 6 rfl [] ?_
        obtain ⟨g5, l5, S, h14⟩ : ∃ gz, Le g4 gz ∧ St gz [[bx b4 #[.i6 0, .i6 0] 25], c11, [bx b3 #[.i6 y4.2.Code, .i6 y4.2.Index] 25], c8, [bx b2 #[.i6 y3.2.Code, .i6 y3.2.Index] 25], c7, c4, [bx b1 #[.bool o_.Delete, .i6 o_.Replica, .i6 o_.Counter, .i6 o_.AfterReplica, .i6 o_.AfterCounter, .string o_.Line] 33]] fr w ∧ RepSl gz y6 v12 := ⟨_, Le.add _ _, S.freeze 2 rfl, OwnS.freeze (S.front 2 rfl) h13⟩
        refine wl_call0 (wn rfl) rfl F rfl (sequence_Visible_ok (fr := (fl [[bx b4 #[.i6 0, .i6 0] 25], c11, [bx b3 #[.i6 y4.2.Code, .i6 y4.2.Index] 25], c8, [bx b2 #[.i6 y3.2.Code, .i6 y3.2.Index] 25], c7, c4, [bx b1 #[.bool o_.Delete, .i6 o_.Replica, .i6 o_.Counter, .i6 o_.AfterReplica, .i6 o_.AfterCounter, .string o_.Line] 33]] fr)) y6 v12 h14 S hy7) rfl tc9 rfl rfl ?_; clear F a S
        rintro _ a w ⟨g6, v13, c13, l6, S, h15, rfl⟩ F; replace S : St g6 [c13, [bx b4 #[.i6 0, .i6 0] 25], c11, [bx b3 #[.i6 y4.2.Code, .i6 y4.2.Index] 25], c8, [bx b2 #[.i6 y3.2.Code, .i6 y3.2.Index] 25], c7, c4, [bx b1 #[.bool o_.Delete, .i6 o_.Replica, .i6 o_.Counter, .i6 o_.AfterReplica, .i6 o_.AfterCounter, .string o_.Line] 33]] fr w := S
        refine dv_nx trivial ?_
        refine dv_et ok2 7 rfl (ev_move rfl) F rfl fun a F=>?_
        refine dv_et ok2 8 rfl (ev_extract rfl rfl) F rfl fun a F=>?_
        refine dv_et ok2 9 rfl (ev_extract rfl rfl) F rfl fun a F=>?_
        refine dv_et ok2 11 rfl (ev_assign rfl) F rfl fun a F=>?_
        refine dv_join (HJ _ _ ?_)
        replace S : St g6 [[bx b4 #[.i6 0, .i6 0] 25], c8, [bx b3 #[.i6 y4.2.Code, .i6 y4.2.Index] 25], c7, [bx b2 #[.i6 y3.2.Code, .i6 y3.2.Index] 25], [bx b1 #[.bool o_.Delete, .i6 o_.Replica, .i6 o_.Counter, .i6 o_.AfterReplica, .i6 o_.AfterCounter, .string o_.Line] 33]] fr w := St.tail [[bx b4 #[.i6 0, .i6 0] 25], c8, [bx b3 #[.i6 y4.2.Code, .i6 y4.2.Index] 25], c7, [bx b2 #[.i6 y3.2.Code, .i6 y3.2.Index] 25], [bx b1 #[.bool o_.Delete, .i6 o_.Replica, .i6 o_.Counter, .i6 o_.AfterReplica, .i6 o_.AfterCounter, .string o_.Line] 33]] _ ((((((S.frontC 8 rfl).frontC 6 rfl).frontC 8 rfl).frontC 6 rfl).frontC 8 rfl).frontC 6 rfl)
        exact ⟨b4, g6, F.sub ⟨rfl, rfl, rfl, rfl, rfl, rfl, rfl, rfl, trivial⟩, (l5.trans l6), S, hm⟩
      ·refine wl_alloc (wn rfl) rfl tz25 (cs := [.i6 0, .i6 0]) rfl F S rfl rfl ?_; clear F a S; rintro b4 a w F S
       refine dv_nx trivial ?_
       refine dv_op ok2 5 rfl [] ?_
       obtain ⟨cs4, hk4, hr4⟩ := OwnS.reads h12
       refine wl_append (wn rfl) rfl tu22 tu22 te33 (by decide) (by decide) F S rfl rfl (k := 2) rfl h11 hk4 rfl (hr4 _ _ _ 1 rfl S) hy6 rfl rfl ?_; clear F a S
       rintro v12 c12 a w h13 S F; replace S : St g4 [[bx b4 #[.i6 0, .i6 0] 25], c11, c12, [bx b3 #[.i6 y4.2.Code, .i6 y4.2.Index] 25], c8, [bx b2 #[.i6 y3.2.Code, .i6 y3.2.Index] 25], c7, c4, [bx b1 #[.bool o_.Delete, .i6 o_.Replica, .i6 o_.Counter, .i6 o_.AfterReplica, .i6 o_.AfterCounter, .string o_.Line] 33]] fr w := S
       refine dv_nx trivial ?_
       refine dv_op ok2 6 rfl [] ?_
       obtain ⟨g5, l5, S, h14⟩ : ∃ gz, Le g4 gz ∧ St gz [[bx b4 #[.i6 0, .i6 0] 25], c11, [bx b3 #[.i6 y4.2.Code, .i6 y4.2.Index] 25], c8, [bx b2 #[.i6 y3.2.Code, .i6 y3.2.Index] 25], c7, c4, [bx b1 #[.bool o_.Delete, .i6 o_.Replica, .i6 o_.Counter, .i6 o_.AfterReplica, .i6 o_.AfterCounter, .string o_.Line] 33]] fr w ∧ RepSl gz y6 v12 := ⟨_, Le.add _ _, S.freeze 2 rfl, OwnS.freeze (S.front 2 rfl) h13⟩
       refine wl_call0 (wn rfl) rfl F rfl (sequence_Visible_ok (fr := (fl [[bx b4 #[.i6 0, .i6 0] 25], c11, [bx b3 #[.i6 y4.2.Code, .i6 y4.2.Index] 25], c8, [bx b2 #[.i6 y3.2.Code, .i6 y3.2.Index] 25], c7, c4, [bx b1 #[.bool o_.Delete, .i6 o_.Replica, .i6 o_.Counter, .i6 o_.AfterReplica, .i6 o_.AfterCounter, .string o_.Line] 33]] fr)) y6 v12 h14 S hy7) rfl tc9 rfl rfl ?_; clear F a S
       rintro _ a w ⟨g6, v13, c13, l6, S, h15, rfl⟩ F; replace S : St g6 [c13, [bx b4 #[.i6 0, .i6 0] 25], c11, [bx b3 #[.i6 y4.2.Code, .i6 y4.2.Index] 25], c8, [bx b2 #[.i6 y3.2.Code, .i6 y3.2.Index] 25], c7, c4, [bx b1 #[.bool o_.Delete, .i6 o_.Replica, .i6 o_.Counter, .i6 o_.AfterReplica, .i6 o_.AfterCounter, .string o_.Line] 33]] fr w := S
       refine dv_nx trivial ?_
       refine dv_et ok2 7 rfl (ev_move rfl) F rfl fun a F=>?_
       refine dv_et ok2 8 rfl (ev_extract rfl rfl) F rfl fun a F=>?_
       refine dv_et ok2 9 rfl (ev_extract rfl rfl) F rfl fun a F=>?_
       refine dv_et ok2 11 rfl (ev_assign rfl) F rfl fun a F=>?_
       refine dv_join (HJ _ _ ?_)
       replace S : St g6 [[bx b4 #[.i6 0, .i6 0] 25], c8, [bx b3 #[.i6 y4.2.Code, .i6 y4.2.Index] 25], c7, [bx b2 #[.i6 y3.2.Code, .i6 y3.2.Index] 25], [bx b1 #[.bool o_.Delete, .i6 o_.Replica, .i6 o_.Counter, .i6 o_.AfterReplica, .i6 o_.AfterCounter, .string o_.Line] 33]] fr w := St.tail [[bx b4 #[.i6 0, .i6 0] 25], c8, [bx b3 #[.i6 y4.2.Code, .i6 y4.2.Index] 25], c7, [bx b2 #[.i6 y3.2.Code, .i6 y3.2.Index] 25], [bx b1 #[.bool o_.Delete, .i6 o_.Replica, .i6 o_.Counter, .i6 o_.AfterReplica, .i6 o_.AfterCounter, .string o_.Line] 33]] _ ((((((S.frontC 8 rfl).frontC 6 rfl).frontC 8 rfl).frontC 6 rfl).frontC 8 rfl).frontC 6 rfl)
       exact ⟨b4, g6, F.sub ⟨rfl, rfl, rfl, rfl, rfl, rfl, rfl, rfl, trivial⟩, (l5.trans l6), S, hm⟩
     ·refine wl_alloc (wn rfl) rfl tz25 (cs := [.i6 0, .i6 0]) rfl F S rfl rfl ?_; clear F a S; rintro b4 a w F S
      refine dv_nx ⟨yl_ev rfl rfl (ev_loadA tu33 rfl (cs := [.bool o_.Delete, .i6 o_.Replica, .i6 o_.Counter, .i6 o_.AfterReplica, .i6 o_.AfterCounter, .string o_.Line]) ts33 rfl (box_ptr (cells := [.bool o_.Delete, .i6 o_.Replica, .i6 o_.Counter, .i6 o_.AfterReplica, .i6 o_.AfterCounter, .string o_.Line]) 7 rfl 0 rfl (lb rfl))) F S, trivial⟩ ?_
      refine dv_op ok2 4 rfl [] ?_
      refine wl_lit (l := ([o_] : List SeqOp)) (vs := [.agg #[.bool o_.Delete, .i6 o_.Replica, .i6 o_.Counter, .i6 o_.AfterReplica, .i6 o_.AfterCounter, .string o_.Line]]) (parts := [(0, .tmp 33)]) (wn rfl) rfl rfl rfl tu22 te33 (sz_cons rfl sz_nil) rfl (Cat.cons (rep_SeqOp_mk (x := o_) ) (Cat.nil _)) (coa_cons rfl coa_nil) rfl F S rfl rfl ?_; clear F a S
      rintro v11 c11 a w h12 F S
      refine dv_nx trivial ?_
      refine dv_op ok2 5 rfl [] ?_
      obtain ⟨cs4, hk4, hr4⟩ := OwnS.reads h12
      refine wl_append (wn rfl) rfl tu22 tu22 te33 (by decide) (by decide) F S rfl rfl (k := 2) rfl h11 hk4 rfl (hr4 _ _ _ 0 rfl S) hy6 rfl rfl ?_; clear F a S
      rintro v12 c12 a w h13 S F; replace S : St g4 [c11, [bx b4 #[.i6 0, .i6 0] 25], c12, [bx b3 #[.i6 y4.2.Code, .i6 y4.2.Index] 25], c8, [bx b2 #[.i6 y3.2.Code, .i6 y3.2.Index] 25], c7, c4, [bx b1 #[.bool o_.Delete, .i6 o_.Replica, .i6 o_.Counter, .i6 o_.AfterReplica, .i6 o_.AfterCounter, .string o_.Line] 33]] fr w := S
      refine dv_nx trivial ?_
      refine dv_op ok2 6 rfl [] ?_
      obtain ⟨g5, l5, S, h14⟩ : ∃ gz, Le g4 gz ∧ St gz [c11, [bx b4 #[.i6 0, .i6 0] 25], [bx b3 #[.i6 y4.2.Code, .i6 y4.2.Index] 25], c8, [bx b2 #[.i6 y3.2.Code, .i6 y3.2.Index] 25], c7, c4, [bx b1 #[.bool o_.Delete, .i6 o_.Replica, .i6 o_.Counter, .i6 o_.AfterReplica, .i6 o_.AfterCounter, .string o_.Line] 33]] fr w ∧ RepSl gz y6 v12 := ⟨_, Le.add _ _, S.freeze 2 rfl, OwnS.freeze (S.front 2 rfl) h13⟩
      refine wl_call0 (wn rfl) rfl F rfl (sequence_Visible_ok (fr := (fl [c11, [bx b4 #[.i6 0, .i6 0] 25], [bx b3 #[.i6 y4.2.Code, .i6 y4.2.Index] 25], c8, [bx b2 #[.i6 y3.2.Code, .i6 y3.2.Index] 25], c7, c4, [bx b1 #[.bool o_.Delete, .i6 o_.Replica, .i6 o_.Counter, .i6 o_.AfterReplica, .i6 o_.AfterCounter, .string o_.Line] 33]] fr)) y6 v12 h14 S hy7) rfl tc9 rfl rfl ?_; clear F a S
      rintro _ a w ⟨g6, v13, c13, l6, S, h15, rfl⟩ F; replace S : St g6 [c13, c11, [bx b4 #[.i6 0, .i6 0] 25], [bx b3 #[.i6 y4.2.Code, .i6 y4.2.Index] 25], c8, [bx b2 #[.i6 y3.2.Code, .i6 y3.2.Index] 25], c7, c4, [bx b1 #[.bool o_.Delete, .i6 o_.Replica, .i6 o_.Counter, .i6 o_.AfterReplica, .i6 o_.AfterCounter, .string o_.Line] 33]] fr w := S
      refine dv_nx trivial ?_
      refine dv_et ok2 7 rfl (ev_move rfl) F rfl fun a F=>?_
      refine dv_et ok2 8 rfl (ev_extract rfl rfl) F rfl fun a F=>?_
      refine dv_et ok2 9 rfl (ev_extract rfl rfl) F rfl fun a F=>?_
      refine dv_et ok2 11 rfl (ev_assign rfl) F rfl fun a F=>?_
      refine dv_join (HJ _ _ ?_)
      replace S : St g6 [[bx b4 #[.i6 0, .i6 0] 25], c8, [bx b3 #[.i6 y4.2.Code, .i6 y4.2.Index] 25], c7, [bx b2 #[.i6 y3.2.Code, .i6 y3.2.Index] 25], [bx b1 #[.bool o_.Delete, .i6 o_.Replica, .i6 o_.Counter, .i6 o_.AfterReplica, .i6 o_.AfterCounter, .string o_.Line] 33]] fr w := St.tail [[bx b4 #[.i6 0, .i6 0] 25], c8, [bx b3 #[.i6 y4.2.Code, .i6 y4.2.Index] 25], c7, [bx b2 #[.i6 y3.2.Code, .i6 y3.2.Index] 25], [bx b1 #[.bool o_.Delete, .i6 o_.Replica, .i6 o_.Counter, .i6 o_.AfterReplica, .i6 o_.AfterCounter, .string o_.Line] 33]] _ ((((((S.frontC 8 rfl).frontC 6 rfl).frontC 8 rfl).frontC 6 rfl).frontC 8 rfl).frontC 7 rfl)
      exact ⟨b4, g6, F.sub ⟨rfl, rfl, rfl, rfl, rfl, rfl, rfl, rfl, trivial⟩, (l5.trans l6), S, hm⟩
    ·refine wl_lit (l := ([o_] : List SeqOp)) (vs := [.agg #[.bool o_.Delete, .i6 o_.Replica, .i6 o_.Counter, .i6 o_.AfterReplica, .i6 o_.AfterCounter, .string o_.Line]]) (parts := [(0, .tmp 33)]) (wn rfl) rfl rfl rfl tu22 te33 (sz_cons rfl sz_nil) rfl (Cat.cons (rep_SeqOp_mk (x := o_) ) (Cat.nil _)) (coa_cons rfl coa_nil) rfl F S rfl rfl ?_; clear F a S
     rintro v11 c11 a w h12 F S
     refine dv_nx trivial ?_
     refine dv_fork ok2 2 [10] (fk 2 rfl [] ?_ (fk 10 rfl [] ?_ trivial))
     ·obtain ⟨cs3, hk3, hr3⟩ := RepSl.reads (h8.mono l4)
      refine wl_append (wn rfl) rfl tu22 tu22 te33 (by decide) (by decide) F S rfl rfl (k := 1) rfl h10 hk3 rfl (hr3 _ _ S) hy5 rfl rfl ?_; clear F a S
      rintro v10 c10 a w h11 S F; replace S : St g4 [c11, c10, [bx b3 #[.i6 y4.2.Code, .i6 y4.2.Index] 25], c8, [bx b2 #[.i6 y3.2.Code, .i6 y3.2.Index] 25], c7, c4, [bx b1 #[.bool o_.Delete, .i6 o_.Replica, .i6 o_.Counter, .i6 o_.AfterReplica, .i6 o_.AfterCounter, .string o_.Line] 33]] fr w := S
      refine dv_nx trivial ?_
      refine dv_fork ok2 5 [10] (fk 5 rfl [] ?_ (fk 10 rfl [] ?_ trivial))
      ·obtain ⟨cs4, hk4, hr4⟩ := OwnS.reads h12
       refine wl_append (wn rfl) rfl tu22 tu22 te33 (by decide) (by decide) F S rfl rfl (k := 1) rfl h11 hk4 rfl (hr4 _ _ _ 0 rfl S) hy6 rfl rfl ?_; clear F a S
       rintro v12 c12 a w h13 S F; replace S : St g4 [c11, c12, [bx b3 #[.i6 y4.2.Code, .i6 y4.2.Index] 25], c8, [bx b2 #[.i6 y3.2.Code, .i6 y3.2.Index] 25], c7, c4, [bx b1 #[.bool o_.Delete, .i6 o_.Replica, .i6 o_.Counter, .i6 o_.AfterReplica, .i6 o_.AfterCounter, .string o_.Line] 33]] fr w := S
       refine dv_nx trivial ?_
       refine dv_fork ok2 6 [10] (fk 6 rfl [] ?_ (fk 10 rfl [] ?_ trivial))
       ·obtain ⟨g5, l5, S, h14⟩ : ∃ gz, Le g4 gz ∧ St gz [c11, [bx b3 #[.i6 y4.2.Code, .i6 y4.2.Index] 25], c8, [bx b2 #[.i6 y3.2.Code, .i6 y3.2.Index] 25], c7, c4, [bx b1 #[.bool o_.Delete, .i6 o_.Replica, .i6 o_.Counter, .i6 o_.AfterReplica, .i6 o_.AfterCounter, .string o_.Line] 33]] fr w ∧ RepSl gz y6 v12 := ⟨_, Le.add _ _, S.freeze 1 rfl, OwnS.freeze (S.front 1 rfl) h13⟩
        refine wl_call0 (wn rfl) rfl F rfl (sequence_Visible_ok (fr := (fl [c11, [bx b3 #[.i6 y4.2.Code, .i6 y4.2.Index] 25], c8, [bx b2 #[.i6 y3.2.Code, .i6 y3.2.Index] 25], c7, c4, [bx b1 #[.bool o_.Delete, .i6 o_.Replica, .i6 o_.Counter, .i6 o_.AfterReplica, .i6 o_.AfterCounter, .string o_.Line] 33]] fr)) y6 v12 h14 S hy7) rfl tc9 rfl rfl ?_; clear F a S
        rintro _ a w ⟨g6, v13, c13, l6, S, h15, rfl⟩ F; replace S : St g6 [c13, c11, [bx b3 #[.i6 y4.2.Code, .i6 y4.2.Index] 25], c8, [bx b2 #[.i6 y3.2.Code, .i6 y3.2.Index] 25], c7, c4, [bx b1 #[.bool o_.Delete, .i6 o_.Replica, .i6 o_.Counter, .i6 o_.AfterReplica, .i6 o_.AfterCounter, .string o_.Line] 33]] fr w := S
        refine dv_nx trivial ?_
        refine dv_et ok2 7 rfl (ev_move rfl) F rfl fun a F=>?_
        refine dv_et ok2 8 rfl (ev_extract rfl rfl) F rfl fun a F=>?_
        refine dv_et ok2 9 rfl (ev_extract rfl rfl) F rfl fun a F=>?_
        refine dv_op ok2 10 rfl [] ?_
        refine wl_alloc (wn rfl) rfl tz25 (cs := [.i6 0, .i6 0]) rfl F S rfl rfl ?_; clear F a S; rintro b4 a w F S
        refine dv_nx trivial ?_
        refine dv_et ok2 11 rfl (ev_assign rfl) F rfl fun a F=>?_
        refine dv_join (HJ _ _ ?_)
        replace S : St g6 [[bx b4 #[.i6 0, .i6 0] 25], c8, [bx b3 #[.i6 y4.2.Code, .i6 y4.2.Index] 25], c7, [bx b2 #[.i6 y3.2.Code, .i6 y3.2.Index] 25], [bx b1 #[.bool o_.Delete, .i6 o_.Replica, .i6 o_.Counter, .i6 o_.AfterReplica, .i6 o_.AfterCounter, .string o_.Line] 33]] fr w := St.tail [[bx b4 #[.i6 0, .i6 0] 25], c8, [bx b3 #[.i6 y4.2.Code, .i6 y4.2.Index] 25], c7, [bx b2 #[.i6 y3.2.Code, .i6 y3.2.Index] 25], [bx b1 #[.bool o_.Delete, .i6 o_.Replica, .i6 o_.Counter, .i6 o_.AfterReplica, .i6 o_.AfterCounter, .string o_.Line] 33]] _ ((((((S.frontC 8 rfl).frontC 6 rfl).frontC 8 rfl).frontC 6 rfl).frontC 8 rfl).frontC 5 rfl)
        exact ⟨b4, g6, F.sub ⟨rfl, rfl, rfl, rfl, rfl, rfl, rfl, rfl, trivial⟩, (l5.trans l6), S, hm⟩
       ·refine wl_alloc (wn rfl) rfl tz25 (cs := [.i6 0, .i6 0]) rfl F S rfl rfl ?_; clear F a S; rintro b4 a w F S
        refine dv_nx trivial ?_
        refine dv_op ok2 6 rfl [] ?_
        obtain ⟨g5, l5, S, h14⟩ : ∃ gz, Le g4 gz ∧ St gz [[bx b4 #[.i6 0, .i6 0] 25], c11, [bx b3 #[.i6 y4.2.Code, .i6 y4.2.Index] 25], c8, [bx b2 #[.i6 y3.2.Code, .i6 y3.2.Index] 25], c7, c4, [bx b1 #[.bool o_.Delete, .i6 o_.Replica, .i6 o_.Counter, .i6 o_.AfterReplica, .i6 o_.AfterCounter, .string o_.Line] 33]] fr w ∧ RepSl gz y6 v12 := ⟨_, Le.add _ _, S.freeze 2 rfl, OwnS.freeze (S.front 2 rfl) h13⟩
        refine wl_call0 (wn rfl) rfl F rfl (sequence_Visible_ok (fr := (fl [[bx b4 #[.i6 0, .i6 0] 25], c11, [bx b3 #[.i6 y4.2.Code, .i6 y4.2.Index] 25], c8, [bx b2 #[.i6 y3.2.Code, .i6 y3.2.Index] 25], c7, c4, [bx b1 #[.bool o_.Delete, .i6 o_.Replica, .i6 o_.Counter, .i6 o_.AfterReplica, .i6 o_.AfterCounter, .string o_.Line] 33]] fr)) y6 v12 h14 S hy7) rfl tc9 rfl rfl ?_; clear F a S
        rintro _ a w ⟨g6, v13, c13, l6, S, h15, rfl⟩ F; replace S : St g6 [c13, [bx b4 #[.i6 0, .i6 0] 25], c11, [bx b3 #[.i6 y4.2.Code, .i6 y4.2.Index] 25], c8, [bx b2 #[.i6 y3.2.Code, .i6 y3.2.Index] 25], c7, c4, [bx b1 #[.bool o_.Delete, .i6 o_.Replica, .i6 o_.Counter, .i6 o_.AfterReplica, .i6 o_.AfterCounter, .string o_.Line] 33]] fr w := S
        refine dv_nx trivial ?_
        refine dv_et ok2 7 rfl (ev_move rfl) F rfl fun a F=>?_
        refine dv_et ok2 8 rfl (ev_extract rfl rfl) F rfl fun a F=>?_
        refine dv_et ok2 9 rfl (ev_extract rfl rfl) F rfl fun a F=>?_
        refine dv_et ok2 11 rfl (ev_assign rfl) F rfl fun a F=>?_
        refine dv_join (HJ _ _ ?_)
        replace S : St g6 [[bx b4 #[.i6 0, .i6 0] 25], c8, [bx b3 #[.i6 y4.2.Code, .i6 y4.2.Index] 25], c7, [bx b2 #[.i6 y3.2.Code, .i6 y3.2.Index] 25], [bx b1 #[.bool o_.Delete, .i6 o_.Replica, .i6 o_.Counter, .i6 o_.AfterReplica, .i6 o_.AfterCounter, .string o_.Line] 33]] fr w := St.tail [[bx b4 #[.i6 0, .i6 0] 25], c8, [bx b3 #[.i6 y4.2.Code, .i6 y4.2.Index] 25], c7, [bx b2 #[.i6 y3.2.Code, .i6 y3.2.Index] 25], [bx b1 #[.bool o_.Delete, .i6 o_.Replica, .i6 o_.Counter, .i6 o_.AfterReplica, .i6 o_.AfterCounter, .string o_.Line] 33]] _ ((((((S.frontC 8 rfl).frontC 6 rfl).frontC 8 rfl).frontC 6 rfl).frontC 8 rfl).frontC 6 rfl)
        exact ⟨b4, g6, F.sub ⟨rfl, rfl, rfl, rfl, rfl, rfl, rfl, rfl, trivial⟩, (l5.trans l6), S, hm⟩
      ·refine wl_alloc (wn rfl) rfl tz25 (cs := [.i6 0, .i6 0]) rfl F S rfl rfl ?_; clear F a S; rintro b4 a w F S
       refine dv_nx trivial ?_
       refine dv_op ok2 5 rfl [] ?_
       obtain ⟨cs4, hk4, hr4⟩ := OwnS.reads h12
       refine wl_append (wn rfl) rfl tu22 tu22 te33 (by decide) (by decide) F S rfl rfl (k := 2) rfl h11 hk4 rfl (hr4 _ _ _ 1 rfl S) hy6 rfl rfl ?_; clear F a S
       rintro v12 c12 a w h13 S F; replace S : St g4 [[bx b4 #[.i6 0, .i6 0] 25], c11, c12, [bx b3 #[.i6 y4.2.Code, .i6 y4.2.Index] 25], c8, [bx b2 #[.i6 y3.2.Code, .i6 y3.2.Index] 25], c7, c4, [bx b1 #[.bool o_.Delete, .i6 o_.Replica, .i6 o_.Counter, .i6 o_.AfterReplica, .i6 o_.AfterCounter, .string o_.Line] 33]] fr w := S
       refine dv_nx trivial ?_
       refine dv_op ok2 6 rfl [] ?_
       obtain ⟨g5, l5, S, h14⟩ : ∃ gz, Le g4 gz ∧ St gz [[bx b4 #[.i6 0, .i6 0] 25], c11, [bx b3 #[.i6 y4.2.Code, .i6 y4.2.Index] 25], c8, [bx b2 #[.i6 y3.2.Code, .i6 y3.2.Index] 25], c7, c4, [bx b1 #[.bool o_.Delete, .i6 o_.Replica, .i6 o_.Counter, .i6 o_.AfterReplica, .i6 o_.AfterCounter, .string o_.Line] 33]] fr w ∧ RepSl gz y6 v12 := ⟨_, Le.add _ _, S.freeze 2 rfl, OwnS.freeze (S.front 2 rfl) h13⟩
       refine wl_call0 (wn rfl) rfl F rfl (sequence_Visible_ok (fr := (fl [[bx b4 #[.i6 0, .i6 0] 25], c11, [bx b3 #[.i6 y4.2.Code, .i6 y4.2.Index] 25], c8, [bx b2 #[.i6 y3.2.Code, .i6 y3.2.Index] 25], c7, c4, [bx b1 #[.bool o_.Delete, .i6 o_.Replica, .i6 o_.Counter, .i6 o_.AfterReplica, .i6 o_.AfterCounter, .string o_.Line] 33]] fr)) y6 v12 h14 S hy7) rfl tc9 rfl rfl ?_; clear F a S
       rintro _ a w ⟨g6, v13, c13, l6, S, h15, rfl⟩ F; replace S : St g6 [c13, [bx b4 #[.i6 0, .i6 0] 25], c11, [bx b3 #[.i6 y4.2.Code, .i6 y4.2.Index] 25], c8, [bx b2 #[.i6 y3.2.Code, .i6 y3.2.Index] 25], c7, c4, [bx b1 #[.bool o_.Delete, .i6 o_.Replica, .i6 o_.Counter, .i6 o_.AfterReplica, .i6 o_.AfterCounter, .string o_.Line] 33]] fr w := S
       refine dv_nx trivial ?_
       refine dv_et ok2 7 rfl (ev_move rfl) F rfl fun a F=>?_
       refine dv_et ok2 8 rfl (ev_extract rfl rfl) F rfl fun a F=>?_
       refine dv_et ok2 9 rfl (ev_extract rfl rfl) F rfl fun a F=>?_
       refine dv_et ok2 11 rfl (ev_assign rfl) F rfl fun a F=>?_
       refine dv_join (HJ _ _ ?_)
       replace S : St g6 [[bx b4 #[.i6 0, .i6 0] 25], c8, [bx b3 #[.i6 y4.2.Code, .i6 y4.2.Index] 25], c7, [bx b2 #[.i6 y3.2.Code, .i6 y3.2.Index] 25], [bx b1 #[.bool o_.Delete, .i6 o_.Replica, .i6 o_.Counter, .i6 o_.AfterReplica, .i6 o_.AfterCounter, .string o_.Line] 33]] fr w := St.tail [[bx b4 #[.i6 0, .i6 0] 25], c8, [bx b3 #[.i6 y4.2.Code, .i6 y4.2.Index] 25], c7, [bx b2 #[.i6 y3.2.Code, .i6 y3.2.Index] 25], [bx b1 #[.bool o_.Delete, .i6 o_.Replica, .i6 o_.Counter, .i6 o_.AfterReplica, .i6 o_.AfterCounter, .string o_.Line] 33]] _ ((((((S.frontC 8 rfl).frontC 6 rfl).frontC 8 rfl).frontC 6 rfl).frontC 8 rfl).frontC 6 rfl)
       exact ⟨b4, g6, F.sub ⟨rfl, rfl, rfl, rfl, rfl, rfl, rfl, rfl, trivial⟩, (l5.trans l6), S, hm⟩
     ·refine wl_alloc (wn rfl) rfl tz25 (cs := [.i6 0, .i6 0]) rfl F S rfl rfl ?_; clear F a S; rintro b4 a w F S
      refine dv_nx trivial ?_
      refine dv_op ok2 2 rfl [] ?_
      obtain ⟨cs3, hk3, hr3⟩ := RepSl.reads (h8.mono l4)
      refine wl_append (wn rfl) rfl tu22 tu22 te33 (by decide) (by decide) F S rfl rfl (k := 2) rfl h10 hk3 rfl (hr3 _ _ S) hy5 rfl rfl ?_; clear F a S
      rintro v10 c10 a w h11 S F; replace S : St g4 [[bx b4 #[.i6 0, .i6 0] 25], c11, c10, [bx b3 #[.i6 y4.2.Code, .i6 y4.2.Index] 25], c8, [bx b2 #[.i6 y3.2.Code, .i6 y3.2.Index] 25], c7, c4, [bx b1 #[.bool o_.Delete, .i6 o_.Replica, .i6 o_.Counter, .i6 o_.AfterReplica, .i6 o_.AfterCounter, .string o_.Line] 33]] fr w := S
      refine dv_nx trivial ?_
      refine dv_op ok2 5 rfl [] ?_
      obtain ⟨cs4, hk4, hr4⟩ := OwnS.reads h12
      refine wl_append (wn rfl) rfl tu22 tu22 te33 (by decide) (by decide) F S rfl rfl (k := 2) rfl h11 hk4 rfl (hr4 _ _ _ 1 rfl S) hy6 rfl rfl ?_; clear F a S
      rintro v12 c12 a w h13 S F; replace S : St g4 [[bx b4 #[.i6 0, .i6 0] 25], c11, c12, [bx b3 #[.i6 y4.2.Code, .i6 y4.2.Index] 25], c8, [bx b2 #[.i6 y3.2.Code, .i6 y3.2.Index] 25], c7, c4, [bx b1 #[.bool o_.Delete, .i6 o_.Replica, .i6 o_.Counter, .i6 o_.AfterReplica, .i6 o_.AfterCounter, .string o_.Line] 33]] fr w := S
      refine dv_nx trivial ?_
      refine dv_op ok2 6 rfl [] ?_
      obtain ⟨g5, l5, S, h14⟩ : ∃ gz, Le g4 gz ∧ St gz [[bx b4 #[.i6 0, .i6 0] 25], c11, [bx b3 #[.i6 y4.2.Code, .i6 y4.2.Index] 25], c8, [bx b2 #[.i6 y3.2.Code, .i6 y3.2.Index] 25], c7, c4, [bx b1 #[.bool o_.Delete, .i6 o_.Replica, .i6 o_.Counter, .i6 o_.AfterReplica, .i6 o_.AfterCounter, .string o_.Line] 33]] fr w ∧ RepSl gz y6 v12 := ⟨_, Le.add _ _, S.freeze 2 rfl, OwnS.freeze (S.front 2 rfl) h13⟩
      refine wl_call0 (wn rfl) rfl F rfl (sequence_Visible_ok (fr := (fl [[bx b4 #[.i6 0, .i6 0] 25], c11, [bx b3 #[.i6 y4.2.Code, .i6 y4.2.Index] 25], c8, [bx b2 #[.i6 y3.2.Code, .i6 y3.2.Index] 25], c7, c4, [bx b1 #[.bool o_.Delete, .i6 o_.Replica, .i6 o_.Counter, .i6 o_.AfterReplica, .i6 o_.AfterCounter, .string o_.Line] 33]] fr)) y6 v12 h14 S hy7) rfl tc9 rfl rfl ?_; clear F a S
      rintro _ a w ⟨g6, v13, c13, l6, S, h15, rfl⟩ F; replace S : St g6 [c13, [bx b4 #[.i6 0, .i6 0] 25], c11, [bx b3 #[.i6 y4.2.Code, .i6 y4.2.Index] 25], c8, [bx b2 #[.i6 y3.2.Code, .i6 y3.2.Index] 25], c7, c4, [bx b1 #[.bool o_.Delete, .i6 o_.Replica, .i6 o_.Counter, .i6 o_.AfterReplica, .i6 o_.AfterCounter, .string o_.Line] 33]] fr w := S
      refine dv_nx trivial ?_
      refine dv_et ok2 7 rfl (ev_move rfl) F rfl fun a F=>?_
      refine dv_et ok2 8 rfl (ev_extract rfl rfl) F rfl fun a F=>?_
      refine dv_et ok2 9 rfl (ev_extract rfl rfl) F rfl fun a F=>?_
      refine dv_et ok2 11 rfl (ev_assign rfl) F rfl fun a F=>?_
      refine dv_join (HJ _ _ ?_)
      replace S : St g6 [[bx b4 #[.i6 0, .i6 0] 25], c8, [bx b3 #[.i6 y4.2.Code, .i6 y4.2.Index] 25], c7, [bx b2 #[.i6 y3.2.Code, .i6 y3.2.Index] 25], [bx b1 #[.bool o_.Delete, .i6 o_.Replica, .i6 o_.Counter, .i6 o_.AfterReplica, .i6 o_.AfterCounter, .string o_.Line] 33]] fr w := St.tail [[bx b4 #[.i6 0, .i6 0] 25], c8, [bx b3 #[.i6 y4.2.Code, .i6 y4.2.Index] 25], c7, [bx b2 #[.i6 y3.2.Code, .i6 y3.2.Index] 25], [bx b1 #[.bool o_.Delete, .i6 o_.Replica, .i6 o_.Counter, .i6 o_.AfterReplica, .i6 o_.AfterCounter, .string o_.Line] 33]] _ ((((((S.frontC 8 rfl).frontC 6 rfl).frontC 8 rfl).frontC 6 rfl).frontC 8 rfl).frontC 6 rfl)
      exact ⟨b4, g6, F.sub ⟨rfl, rfl, rfl, rfl, rfl, rfl, rfl, rfl, trivial⟩, (l5.trans l6), S, hm⟩
    ·refine wl_alloc (wn rfl) rfl tz25 (cs := [.i6 0, .i6 0]) rfl F S rfl rfl ?_; clear F a S; rintro b4 a w F S
     refine dv_nx ⟨yl_ev rfl rfl (ev_loadA tu33 rfl (cs := [.bool o_.Delete, .i6 o_.Replica, .i6 o_.Counter, .i6 o_.AfterReplica, .i6 o_.AfterCounter, .string o_.Line]) ts33 rfl (box_ptr (cells := [.bool o_.Delete, .i6 o_.Replica, .i6 o_.Counter, .i6 o_.AfterReplica, .i6 o_.AfterCounter, .string o_.Line]) 7 rfl 0 rfl (lb rfl))) F S, trivial⟩ ?_
     refine dv_fork ok2 2 [4] (fk 2 rfl [(3, .agg #[.bool o_.Delete, .i6 o_.Replica, .i6 o_.Counter, .i6 o_.AfterReplica, .i6 o_.AfterCounter, .string o_.Line])] ?_ (fk 4 rfl [] ?_ trivial))
     ·obtain ⟨cs3, hk3, hr3⟩ := RepSl.reads (h8.mono l4)
      refine wl_append (wn rfl) rfl tu22 tu22 te33 (by decide) (by decide) F S rfl rfl (k := 1) rfl h10 hk3 rfl (hr3 _ _ S) hy5 rfl rfl ?_; clear F a S
      rintro v10 c10 a w h11 S F; replace S : St g4 [[bx b4 #[.i6 0, .i6 0] 25], c10, [bx b3 #[.i6 y4.2.Code, .i6 y4.2.Index] 25], c8, [bx b2 #[.i6 y3.2.Code, .i6 y3.2.Index] 25], c7, c4, [bx b1 #[.bool o_.Delete, .i6 o_.Replica, .i6 o_.Counter, .i6 o_.AfterReplica, .i6 o_.AfterCounter, .string o_.Line] 33]] fr w := S
      refine dv_nx ⟨yl_ev rfl rfl (ev_loadA tu33 rfl (cs := [.bool o_.Delete, .i6 o_.Replica, .i6 o_.Counter, .i6 o_.AfterReplica, .i6 o_.AfterCounter, .string o_.Line]) ts33 rfl (box_ptr (cells := [.bool o_.Delete, .i6 o_.Replica, .i6 o_.Counter, .i6 o_.AfterReplica, .i6 o_.AfterCounter, .string o_.Line]) 7 rfl 0 rfl (lb rfl))) F S, trivial⟩ ?_
      refine dv_op ok2 4 rfl [] ?_
      refine wl_lit (l := ([o_] : List SeqOp)) (vs := [.agg #[.bool o_.Delete, .i6 o_.Replica, .i6 o_.Counter, .i6 o_.AfterReplica, .i6 o_.AfterCounter, .string o_.Line]]) (parts := [(0, .tmp 33)]) (wn rfl) rfl rfl rfl tu22 te33 (sz_cons rfl sz_nil) rfl (Cat.cons (rep_SeqOp_mk (x := o_) ) (Cat.nil _)) (coa_cons rfl coa_nil) rfl F S rfl rfl ?_; clear F a S
      rintro v11 c11 a w h12 F S
      refine dv_nx trivial ?_
      refine dv_op ok2 5 rfl [] ?_
      obtain ⟨cs4, hk4, hr4⟩ := OwnS.reads h12
      refine wl_append (wn rfl) rfl tu22 tu22 te33 (by decide) (by decide) F S rfl rfl (k := 2) rfl h11 hk4 rfl (hr4 _ _ _ 0 rfl S) hy6 rfl rfl ?_; clear F a S
      rintro v12 c12 a w h13 S F; replace S : St g4 [c11, [bx b4 #[.i6 0, .i6 0] 25], c12, [bx b3 #[.i6 y4.2.Code, .i6 y4.2.Index] 25], c8, [bx b2 #[.i6 y3.2.Code, .i6 y3.2.Index] 25], c7, c4, [bx b1 #[.bool o_.Delete, .i6 o_.Replica, .i6 o_.Counter, .i6 o_.AfterReplica, .i6 o_.AfterCounter, .string o_.Line] 33]] fr w := S
      refine dv_nx trivial ?_
      refine dv_op ok2 6 rfl [] ?_
      obtain ⟨g5, l5, S, h14⟩ : ∃ gz, Le g4 gz ∧ St gz [c11, [bx b4 #[.i6 0, .i6 0] 25], [bx b3 #[.i6 y4.2.Code, .i6 y4.2.Index] 25], c8, [bx b2 #[.i6 y3.2.Code, .i6 y3.2.Index] 25], c7, c4, [bx b1 #[.bool o_.Delete, .i6 o_.Replica, .i6 o_.Counter, .i6 o_.AfterReplica, .i6 o_.AfterCounter, .string o_.Line] 33]] fr w ∧ RepSl gz y6 v12 := ⟨_, Le.add _ _, S.freeze 2 rfl, OwnS.freeze (S.front 2 rfl) h13⟩
      refine wl_call0 (wn rfl) rfl F rfl (sequence_Visible_ok (fr := (fl [c11, [bx b4 #[.i6 0, .i6 0] 25], [bx b3 #[.i6 y4.2.Code, .i6 y4.2.Index] 25], c8, [bx b2 #[.i6 y3.2.Code, .i6 y3.2.Index] 25], c7, c4, [bx b1 #[.bool o_.Delete, .i6 o_.Replica, .i6 o_.Counter, .i6 o_.AfterReplica, .i6 o_.AfterCounter, .string o_.Line] 33]] fr)) y6 v12 h14 S hy7) rfl tc9 rfl rfl ?_; clear F a S
      rintro _ a w ⟨g6, v13, c13, l6, S, h15, rfl⟩ F; replace S : St g6 [c13, c11, [bx b4 #[.i6 0, .i6 0] 25], [bx b3 #[.i6 y4.2.Code, .i6 y4.2.Index] 25], c8, [bx b2 #[.i6 y3.2.Code, .i6 y3.2.Index] 25], c7, c4, [bx b1 #[.bool o_.Delete, .i6 o_.Replica, .i6 o_.Counter, .i6 o_.AfterReplica, .i6 o_.AfterCounter, .string o_.Line] 33]] fr w := S
      refine dv_nx trivial ?_
      refine dv_et ok2 7 rfl (ev_move rfl) F rfl fun a F=>?_
      refine dv_et ok2 8 rfl (ev_extract rfl rfl) F rfl fun a F=>?_
      refine dv_et ok2 9 rfl (ev_extract rfl rfl) F rfl fun a F=>?_
      refine dv_et ok2 11 rfl (ev_assign rfl) F rfl fun a F=>?_
      refine dv_join (HJ _ _ ?_)
      replace S : St g6 [[bx b4 #[.i6 0, .i6 0] 25], c8, [bx b3 #[.i6 y4.2.Code, .i6 y4.2.Index] 25], c7, [bx b2 #[.i6 y3.2.Code, .i6 y3.2.Index] 25], [bx b1 #[.bool o_.Delete, .i6 o_.Replica, .i6 o_.Counter, .i6 o_.AfterReplica, .i6 o_.AfterCounter, .string o_.Line] 33]] fr w := St.tail [[bx b4 #[.i6 0, .i6 0] 25], c8, [bx b3 #[.i6 y4.2.Code, .i6 y4.2.Index] 25], c7, [bx b2 #[.i6 y3.2.Code, .i6 y3.2.Index] 25], [bx b1 #[.bool o_.Delete, .i6 o_.Replica, .i6 o_.Counter, .i6 o_.AfterReplica, .i6 o_.AfterCounter, .string o_.Line] 33]] _ ((((((S.frontC 8 rfl).frontC 6 rfl).frontC 8 rfl).frontC 6 rfl).frontC 8 rfl).frontC 7 rfl)
      exact ⟨b4, g6, F.sub ⟨rfl, rfl, rfl, rfl, rfl, rfl, rfl, rfl, trivial⟩, (l5.trans l6), S, hm⟩
     ·refine wl_lit (l := ([o_] : List SeqOp)) (vs := [.agg #[.bool o_.Delete, .i6 o_.Replica, .i6 o_.Counter, .i6 o_.AfterReplica, .i6 o_.AfterCounter, .string o_.Line]]) (parts := [(0, .tmp 33)]) (wn rfl) rfl rfl rfl tu22 te33 (sz_cons rfl sz_nil) rfl (Cat.cons (rep_SeqOp_mk (x := o_) ) (Cat.nil _)) (coa_cons rfl coa_nil) rfl F S rfl rfl ?_; clear F a S
      rintro v11 c11 a w h12 F S
      refine dv_nx trivial ?_
      refine dv_op ok2 2 rfl [] ?_
      obtain ⟨cs3, hk3, hr3⟩ := RepSl.reads (h8.mono l4)
      refine wl_append (wn rfl) rfl tu22 tu22 te33 (by decide) (by decide) F S rfl rfl (k := 2) rfl h10 hk3 rfl (hr3 _ _ S) hy5 rfl rfl ?_; clear F a S
      rintro v10 c10 a w h11 S F; replace S : St g4 [c11, [bx b4 #[.i6 0, .i6 0] 25], c10, [bx b3 #[.i6 y4.2.Code, .i6 y4.2.Index] 25], c8, [bx b2 #[.i6 y3.2.Code, .i6 y3.2.Index] 25], c7, c4, [bx b1 #[.bool o_.Delete, .i6 o_.Replica, .i6 o_.Counter, .i6 o_.AfterReplica, .i6 o_.AfterCounter, .string o_.Line] 33]] fr w := S
      refine dv_nx trivial ?_
      refine dv_op ok2 5 rfl [] ?_
      obtain ⟨cs4, hk4, hr4⟩ := OwnS.reads h12
      refine wl_append (wn rfl) rfl tu22 tu22 te33 (by decide) (by decide) F S rfl rfl (k := 2) rfl h11 hk4 rfl (hr4 _ _ _ 0 rfl S) hy6 rfl rfl ?_; clear F a S
      rintro v12 c12 a w h13 S F; replace S : St g4 [c11, [bx b4 #[.i6 0, .i6 0] 25], c12, [bx b3 #[.i6 y4.2.Code, .i6 y4.2.Index] 25], c8, [bx b2 #[.i6 y3.2.Code, .i6 y3.2.Index] 25], c7, c4, [bx b1 #[.bool o_.Delete, .i6 o_.Replica, .i6 o_.Counter, .i6 o_.AfterReplica, .i6 o_.AfterCounter, .string o_.Line] 33]] fr w := S
      refine dv_nx trivial ?_
      refine dv_op ok2 6 rfl [] ?_
      obtain ⟨g5, l5, S, h14⟩ : ∃ gz, Le g4 gz ∧ St gz [c11, [bx b4 #[.i6 0, .i6 0] 25], [bx b3 #[.i6 y4.2.Code, .i6 y4.2.Index] 25], c8, [bx b2 #[.i6 y3.2.Code, .i6 y3.2.Index] 25], c7, c4, [bx b1 #[.bool o_.Delete, .i6 o_.Replica, .i6 o_.Counter, .i6 o_.AfterReplica, .i6 o_.AfterCounter, .string o_.Line] 33]] fr w ∧ RepSl gz y6 v12 := ⟨_, Le.add _ _, S.freeze 2 rfl, OwnS.freeze (S.front 2 rfl) h13⟩
      refine wl_call0 (wn rfl) rfl F rfl (sequence_Visible_ok (fr := (fl [c11, [bx b4 #[.i6 0, .i6 0] 25], [bx b3 #[.i6 y4.2.Code, .i6 y4.2.Index] 25], c8, [bx b2 #[.i6 y3.2.Code, .i6 y3.2.Index] 25], c7, c4, [bx b1 #[.bool o_.Delete, .i6 o_.Replica, .i6 o_.Counter, .i6 o_.AfterReplica, .i6 o_.AfterCounter, .string o_.Line] 33]] fr)) y6 v12 h14 S hy7) rfl tc9 rfl rfl ?_; clear F a S
      rintro _ a w ⟨g6, v13, c13, l6, S, h15, rfl⟩ F; replace S : St g6 [c13, c11, [bx b4 #[.i6 0, .i6 0] 25], [bx b3 #[.i6 y4.2.Code, .i6 y4.2.Index] 25], c8, [bx b2 #[.i6 y3.2.Code, .i6 y3.2.Index] 25], c7, c4, [bx b1 #[.bool o_.Delete, .i6 o_.Replica, .i6 o_.Counter, .i6 o_.AfterReplica, .i6 o_.AfterCounter, .string o_.Line] 33]] fr w := S
      refine dv_nx trivial ?_
      refine dv_et ok2 7 rfl (ev_move rfl) F rfl fun a F=>?_
      refine dv_et ok2 8 rfl (ev_extract rfl rfl) F rfl fun a F=>?_
      refine dv_et ok2 9 rfl (ev_extract rfl rfl) F rfl fun a F=>?_
      refine dv_et ok2 11 rfl (ev_assign rfl) F rfl fun a F=>?_
      refine dv_join (HJ _ _ ?_)
      replace S : St g6 [[bx b4 #[.i6 0, .i6 0] 25], c8, [bx b3 #[.i6 y4.2.Code, .i6 y4.2.Index] 25], c7, [bx b2 #[.i6 y3.2.Code, .i6 y3.2.Index] 25], [bx b1 #[.bool o_.Delete, .i6 o_.Replica, .i6 o_.Counter, .i6 o_.AfterReplica, .i6 o_.AfterCounter, .string o_.Line] 33]] fr w := St.tail [[bx b4 #[.i6 0, .i6 0] 25], c8, [bx b3 #[.i6 y4.2.Code, .i6 y4.2.Index] 25], c7, [bx b2 #[.i6 y3.2.Code, .i6 y3.2.Index] 25], [bx b1 #[.bool o_.Delete, .i6 o_.Replica, .i6 o_.Counter, .i6 o_.AfterReplica, .i6 o_.AfterCounter, .string o_.Line] 33]] _ ((((((S.frontC 8 rfl).frontC 6 rfl).frontC 8 rfl).frontC 6 rfl).frontC 8 rfl).frontC 7 rfl)
      exact ⟨b4, g6, F.sub ⟨rfl, rfl, rfl, rfl, rfl, rfl, rfl, rfl, trivial⟩, (l5.trans l6), S, hm⟩
   ·refine wl_lit (l := ([o_] : List SeqOp)) (vs := [.agg #[.bool o_.Delete, .i6 o_.Replica, .i6 o_.Counter, .i6 o_.AfterReplica, .i6 o_.AfterCounter, .string o_.Line]]) (parts := [(0, .tmp 33)]) (wn rfl) rfl rfl rfl tu22 te33 (sz_cons rfl sz_nil) rfl (Cat.cons (rep_SeqOp_mk (x := o_) ) (Cat.nil _)) (coa_cons rfl coa_nil) rfl F S rfl rfl ?_; clear F a S
    rintro v11 c11 a w h12 F S
    refine dv_nx trivial ?_
    refine dv_fork ok2 0 [10] (fk 0 rfl [] ?_ (fk 10 rfl [] ?_ trivial))
    ·refine wl_lit (l := ([] : List SeqOp)) (vs := []) (parts := []) (wn rfl) rfl rfl rfl tu22 te33 sz_nil rfl (Cat.nil _) coa_nil rfl F S rfl rfl ?_; clear F a S
     rintro v9 c9 a w h10 F S
     refine dv_nx trivial ?_
     refine dv_fork ok2 2 [10] (fk 2 rfl [] ?_ (fk 10 rfl [] ?_ trivial))
     ·obtain ⟨cs3, hk3, hr3⟩ := RepSl.reads (h8.mono l4)
      refine wl_append (wn rfl) rfl tu22 tu22 te33 (by decide) (by decide) F S rfl rfl (k := 0) rfl h10 hk3 rfl (hr3 _ _ S) hy5 rfl rfl ?_; clear F a S
      rintro v10 c10 a w h11 S F; replace S : St g4 [c10, c11, [bx b3 #[.i6 y4.2.Code, .i6 y4.2.Index] 25], c8, [bx b2 #[.i6 y3.2.Code, .i6 y3.2.Index] 25], c7, c4, [bx b1 #[.bool o_.Delete, .i6 o_.Replica, .i6 o_.Counter, .i6 o_.AfterReplica, .i6 o_.AfterCounter, .string o_.Line] 33]] fr w := S
      refine dv_nx trivial ?_
      refine dv_fork ok2 5 [10] (fk 5 rfl [] ?_ (fk 10 rfl [] ?_ trivial))
      ·obtain ⟨cs4, hk4, hr4⟩ := OwnS.reads h12
       refine wl_append (wn rfl) rfl tu22 tu22 te33 (by decide) (by decide) F S rfl rfl (k := 0) rfl h11 hk4 rfl (hr4 _ _ _ 1 rfl S) hy6 rfl rfl ?_; clear F a S
       rintro v12 c12 a w h13 S F; replace S : St g4 [c12, c11, [bx b3 #[.i6 y4.2.Code, .i6 y4.2.Index] 25], c8, [bx b2 #[.i6 y3.2.Code, .i6 y3.2.Index] 25], c7, c4, [bx b1 #[.bool o_.Delete, .i6 o_.Replica, .i6 o_.Counter, .i6 o_.AfterReplica, .i6 o_.AfterCounter, .string o_.Line] 33]] fr w := S
       refine dv_nx trivial ?_
       refine dv_fork ok2 6 [10] (fk 6 rfl [] ?_ (fk 10 rfl [] ?_ trivial))
       ·obtain ⟨g5, l5, S, h14⟩ : ∃ gz, Le g4 gz ∧ St gz [c11, [bx b3 #[.i6 y4.2.Code, .i6 y4.2.Index] 25], c8, [bx b2 #[.i6 y3.2.Code, .i6 y3.2.Index] 25], c7, c4, [bx b1 #[.bool o_.Delete, .i6 o_.Replica, .i6 o_.Counter, .i6 o_.AfterReplica, .i6 o_.AfterCounter, .string o_.Line] 33]] fr w ∧ RepSl gz y6 v12 := ⟨_, Le.add _ _, S.freeze 0 rfl, OwnS.freeze (S.front 0 rfl) h13⟩
        refine wl_call0 (wn rfl) rfl F rfl (sequence_Visible_ok (fr := (fl [c11, [bx b3 #[.i6 y4.2.Code, .i6 y4.2.Index] 25], c8, [bx b2 #[.i6 y3.2.Code, .i6 y3.2.Index] 25], c7, c4, [bx b1 #[.bool o_.Delete, .i6 o_.Replica, .i6 o_.Counter, .i6 o_.AfterReplica, .i6 o_.AfterCounter, .string o_.Line] 33]] fr)) y6 v12 h14 S hy7) rfl tc9 rfl rfl ?_; clear F a S
        rintro _ a w ⟨g6, v13, c13, l6, S, h15, rfl⟩ F; replace S : St g6 [c13, c11, [bx b3 #[.i6 y4.2.Code, .i6 y4.2.Index] 25], c8, [bx b2 #[.i6 y3.2.Code, .i6 y3.2.Index] 25], c7, c4, [bx b1 #[.bool o_.Delete, .i6 o_.Replica, .i6 o_.Counter, .i6 o_.AfterReplica, .i6 o_.AfterCounter, .string o_.Line] 33]] fr w := S
        refine dv_nx trivial ?_
        refine dv_et ok2 7 rfl (ev_move rfl) F rfl fun a F=>?_
        refine dv_et ok2 8 rfl (ev_extract rfl rfl) F rfl fun a F=>?_
        refine dv_et ok2 9 rfl (ev_extract rfl rfl) F rfl fun a F=>?_
        refine dv_op ok2 10 rfl [] ?_
        refine wl_alloc (wn rfl) rfl tz25 (cs := [.i6 0, .i6 0]) rfl F S rfl rfl ?_; clear F a S; rintro b4 a w F S
        refine dv_nx trivial ?_
        refine dv_et ok2 11 rfl (ev_assign rfl) F rfl fun a F=>?_
        refine dv_join (HJ _ _ ?_)
        replace S : St g6 [[bx b4 #[.i6 0, .i6 0] 25], c8, [bx b3 #[.i6 y4.2.Code, .i6 y4.2.Index] 25], c7, [bx b2 #[.i6 y3.2.Code, .i6 y3.2.Index] 25], [bx b1 #[.bool o_.Delete, .i6 o_.Replica, .i6 o_.Counter, .i6 o_.AfterReplica, .i6 o_.AfterCounter, .string o_.Line] 33]] fr w := St.tail [[bx b4 #[.i6 0, .i6 0] 25], c8, [bx b3 #[.i6 y4.2.Code, .i6 y4.2.Index] 25], c7, [bx b2 #[.i6 y3.2.Code, .i6 y3.2.Index] 25], [bx b1 #[.bool o_.Delete, .i6 o_.Replica, .i6 o_.Counter, .i6 o_.AfterReplica, .i6 o_.AfterCounter, .string o_.Line] 33]] _ ((((((S.frontC 8 rfl).frontC 6 rfl).frontC 8 rfl).frontC 6 rfl).frontC 8 rfl).frontC 5 rfl)
        exact ⟨b4, g6, F.sub ⟨rfl, rfl, rfl, rfl, rfl, rfl, rfl, rfl, trivial⟩, (l5.trans l6), S, hm⟩
       ·refine wl_alloc (wn rfl) rfl tz25 (cs := [.i6 0, .i6 0]) rfl F S rfl rfl ?_; clear F a S; rintro b4 a w F S
        refine dv_nx trivial ?_
        refine dv_op ok2 6 rfl [] ?_
        obtain ⟨g5, l5, S, h14⟩ : ∃ gz, Le g4 gz ∧ St gz [[bx b4 #[.i6 0, .i6 0] 25], c11, [bx b3 #[.i6 y4.2.Code, .i6 y4.2.Index] 25], c8, [bx b2 #[.i6 y3.2.Code, .i6 y3.2.Index] 25], c7, c4, [bx b1 #[.bool o_.Delete, .i6 o_.Replica, .i6 o_.Counter, .i6 o_.AfterReplica, .i6 o_.AfterCounter, .string o_.Line] 33]] fr w ∧ RepSl gz y6 v12 := ⟨_, Le.add _ _, S.freeze 1 rfl, OwnS.freeze (S.front 1 rfl) h13⟩
        refine wl_call0 (wn rfl) rfl F rfl (sequence_Visible_ok (fr := (fl [[bx b4 #[.i6 0, .i6 0] 25], c11, [bx b3 #[.i6 y4.2.Code, .i6 y4.2.Index] 25], c8, [bx b2 #[.i6 y3.2.Code, .i6 y3.2.Index] 25], c7, c4, [bx b1 #[.bool o_.Delete, .i6 o_.Replica, .i6 o_.Counter, .i6 o_.AfterReplica, .i6 o_.AfterCounter, .string o_.Line] 33]] fr)) y6 v12 h14 S hy7) rfl tc9 rfl rfl ?_; clear F a S
        rintro _ a w ⟨g6, v13, c13, l6, S, h15, rfl⟩ F; replace S : St g6 [c13, [bx b4 #[.i6 0, .i6 0] 25], c11, [bx b3 #[.i6 y4.2.Code, .i6 y4.2.Index] 25], c8, [bx b2 #[.i6 y3.2.Code, .i6 y3.2.Index] 25], c7, c4, [bx b1 #[.bool o_.Delete, .i6 o_.Replica, .i6 o_.Counter, .i6 o_.AfterReplica, .i6 o_.AfterCounter, .string o_.Line] 33]] fr w := S
        refine dv_nx trivial ?_
        refine dv_et ok2 7 rfl (ev_move rfl) F rfl fun a F=>?_
        refine dv_et ok2 8 rfl (ev_extract rfl rfl) F rfl fun a F=>?_
        refine dv_et ok2 9 rfl (ev_extract rfl rfl) F rfl fun a F=>?_
        refine dv_et ok2 11 rfl (ev_assign rfl) F rfl fun a F=>?_
        refine dv_join (HJ _ _ ?_)
        replace S : St g6 [[bx b4 #[.i6 0, .i6 0] 25], c8, [bx b3 #[.i6 y4.2.Code, .i6 y4.2.Index] 25], c7, [bx b2 #[.i6 y3.2.Code, .i6 y3.2.Index] 25], [bx b1 #[.bool o_.Delete, .i6 o_.Replica, .i6 o_.Counter, .i6 o_.AfterReplica, .i6 o_.AfterCounter, .string o_.Line] 33]] fr w := St.tail [[bx b4 #[.i6 0, .i6 0] 25], c8, [bx b3 #[.i6 y4.2.Code, .i6 y4.2.Index] 25], c7, [bx b2 #[.i6 y3.2.Code, .i6 y3.2.Index] 25], [bx b1 #[.bool o_.Delete, .i6 o_.Replica, .i6 o_.Counter, .i6 o_.AfterReplica, .i6 o_.AfterCounter, .string o_.Line] 33]] _ ((((((S.frontC 8 rfl).frontC 6 rfl).frontC 8 rfl).frontC 6 rfl).frontC 8 rfl).frontC 6 rfl)
        exact ⟨b4, g6, F.sub ⟨rfl, rfl, rfl, rfl, rfl, rfl, rfl, rfl, trivial⟩, (l5.trans l6), S, hm⟩
      ·refine wl_alloc (wn rfl) rfl tz25 (cs := [.i6 0, .i6 0]) rfl F S rfl rfl ?_; clear F a S; rintro b4 a w F S
       refine dv_nx trivial ?_
       refine dv_op ok2 5 rfl [] ?_
       obtain ⟨cs4, hk4, hr4⟩ := OwnS.reads h12
       refine wl_append (wn rfl) rfl tu22 tu22 te33 (by decide) (by decide) F S rfl rfl (k := 1) rfl h11 hk4 rfl (hr4 _ _ _ 2 rfl S) hy6 rfl rfl ?_; clear F a S
       rintro v12 c12 a w h13 S F; replace S : St g4 [[bx b4 #[.i6 0, .i6 0] 25], c12, c11, [bx b3 #[.i6 y4.2.Code, .i6 y4.2.Index] 25], c8, [bx b2 #[.i6 y3.2.Code, .i6 y3.2.Index] 25], c7, c4, [bx b1 #[.bool o_.Delete, .i6 o_.Replica, .i6 o_.Counter, .i6 o_.AfterReplica, .i6 o_.AfterCounter, .string o_.Line] 33]] fr w := S
       refine dv_nx trivial ?_
       refine dv_op ok2 6 rfl [] ?_
       obtain ⟨g5, l5, S, h14⟩ : ∃ gz, Le g4 gz ∧ St gz [[bx b4 #[.i6 0, .i6 0] 25], c11, [bx b3 #[.i6 y4.2.Code, .i6 y4.2.Index] 25], c8, [bx b2 #[.i6 y3.2.Code, .i6 y3.2.Index] 25], c7, c4, [bx b1 #[.bool o_.Delete, .i6 o_.Replica, .i6 o_.Counter, .i6 o_.AfterReplica, .i6 o_.AfterCounter, .string o_.Line] 33]] fr w ∧ RepSl gz y6 v12 := ⟨_, Le.add _ _, S.freeze 1 rfl, OwnS.freeze (S.front 1 rfl) h13⟩
       refine wl_call0 (wn rfl) rfl F rfl (sequence_Visible_ok (fr := (fl [[bx b4 #[.i6 0, .i6 0] 25], c11, [bx b3 #[.i6 y4.2.Code, .i6 y4.2.Index] 25], c8, [bx b2 #[.i6 y3.2.Code, .i6 y3.2.Index] 25], c7, c4, [bx b1 #[.bool o_.Delete, .i6 o_.Replica, .i6 o_.Counter, .i6 o_.AfterReplica, .i6 o_.AfterCounter, .string o_.Line] 33]] fr)) y6 v12 h14 S hy7) rfl tc9 rfl rfl ?_; clear F a S
       rintro _ a w ⟨g6, v13, c13, l6, S, h15, rfl⟩ F; replace S : St g6 [c13, [bx b4 #[.i6 0, .i6 0] 25], c11, [bx b3 #[.i6 y4.2.Code, .i6 y4.2.Index] 25], c8, [bx b2 #[.i6 y3.2.Code, .i6 y3.2.Index] 25], c7, c4, [bx b1 #[.bool o_.Delete, .i6 o_.Replica, .i6 o_.Counter, .i6 o_.AfterReplica, .i6 o_.AfterCounter, .string o_.Line] 33]] fr w := S
       refine dv_nx trivial ?_
       refine dv_et ok2 7 rfl (ev_move rfl) F rfl fun a F=>?_
       refine dv_et ok2 8 rfl (ev_extract rfl rfl) F rfl fun a F=>?_
       refine dv_et ok2 9 rfl (ev_extract rfl rfl) F rfl fun a F=>?_
       refine dv_et ok2 11 rfl (ev_assign rfl) F rfl fun a F=>?_
       refine dv_join (HJ _ _ ?_)
       replace S : St g6 [[bx b4 #[.i6 0, .i6 0] 25], c8, [bx b3 #[.i6 y4.2.Code, .i6 y4.2.Index] 25], c7, [bx b2 #[.i6 y3.2.Code, .i6 y3.2.Index] 25], [bx b1 #[.bool o_.Delete, .i6 o_.Replica, .i6 o_.Counter, .i6 o_.AfterReplica, .i6 o_.AfterCounter, .string o_.Line] 33]] fr w := St.tail [[bx b4 #[.i6 0, .i6 0] 25], c8, [bx b3 #[.i6 y4.2.Code, .i6 y4.2.Index] 25], c7, [bx b2 #[.i6 y3.2.Code, .i6 y3.2.Index] 25], [bx b1 #[.bool o_.Delete, .i6 o_.Replica, .i6 o_.Counter, .i6 o_.AfterReplica, .i6 o_.AfterCounter, .string o_.Line] 33]] _ ((((((S.frontC 8 rfl).frontC 6 rfl).frontC 8 rfl).frontC 6 rfl).frontC 8 rfl).frontC 6 rfl)
       exact ⟨b4, g6, F.sub ⟨rfl, rfl, rfl, rfl, rfl, rfl, rfl, rfl, trivial⟩, (l5.trans l6), S, hm⟩
     ·refine wl_alloc (wn rfl) rfl tz25 (cs := [.i6 0, .i6 0]) rfl F S rfl rfl ?_; clear F a S; rintro b4 a w F S
      refine dv_nx trivial ?_
      refine dv_op ok2 2 rfl [] ?_
      obtain ⟨cs3, hk3, hr3⟩ := RepSl.reads (h8.mono l4)
      refine wl_append (wn rfl) rfl tu22 tu22 te33 (by decide) (by decide) F S rfl rfl (k := 1) rfl h10 hk3 rfl (hr3 _ _ S) hy5 rfl rfl ?_; clear F a S
      rintro v10 c10 a w h11 S F; replace S : St g4 [[bx b4 #[.i6 0, .i6 0] 25], c10, c11, [bx b3 #[.i6 y4.2.Code, .i6 y4.2.Index] 25], c8, [bx b2 #[.i6 y3.2.Code, .i6 y3.2.Index] 25], c7, c4, [bx b1 #[.bool o_.Delete, .i6 o_.Replica, .i6 o_.Counter, .i6 o_.AfterReplica, .i6 o_.AfterCounter, .string o_.Line] 33]] fr w := S
      refine dv_nx trivial ?_
      refine dv_op ok2 5 rfl [] ?_
      obtain ⟨cs4, hk4, hr4⟩ := OwnS.reads h12
      refine wl_append (wn rfl) rfl tu22 tu22 te33 (by decide) (by decide) F S rfl rfl (k := 1) rfl h11 hk4 rfl (hr4 _ _ _ 2 rfl S) hy6 rfl rfl ?_; clear F a S
      rintro v12 c12 a w h13 S F; replace S : St g4 [[bx b4 #[.i6 0, .i6 0] 25], c12, c11, [bx b3 #[.i6 y4.2.Code, .i6 y4.2.Index] 25], c8, [bx b2 #[.i6 y3.2.Code, .i6 y3.2.Index] 25], c7, c4, [bx b1 #[.bool o_.Delete, .i6 o_.Replica, .i6 o_.Counter, .i6 o_.AfterReplica, .i6 o_.AfterCounter, .string o_.Line] 33]] fr w := S
      refine dv_nx trivial ?_
      refine dv_op ok2 6 rfl [] ?_
      obtain ⟨g5, l5, S, h14⟩ : ∃ gz, Le g4 gz ∧ St gz [[bx b4 #[.i6 0, .i6 0] 25], c11, [bx b3 #[.i6 y4.2.Code, .i6 y4.2.Index] 25], c8, [bx b2 #[.i6 y3.2.Code, .i6 y3.2.Index] 25], c7, c4, [bx b1 #[.bool o_.Delete, .i6 o_.Replica, .i6 o_.Counter, .i6 o_.AfterReplica, .i6 o_.AfterCounter, .string o_.Line] 33]] fr w ∧ RepSl gz y6 v12 := ⟨_, Le.add _ _, S.freeze 1 rfl, OwnS.freeze (S.front 1 rfl) h13⟩
      refine wl_call0 (wn rfl) rfl F rfl (sequence_Visible_ok (fr := (fl [[bx b4 #[.i6 0, .i6 0] 25], c11, [bx b3 #[.i6 y4.2.Code, .i6 y4.2.Index] 25], c8, [bx b2 #[.i6 y3.2.Code, .i6 y3.2.Index] 25], c7, c4, [bx b1 #[.bool o_.Delete, .i6 o_.Replica, .i6 o_.Counter, .i6 o_.AfterReplica, .i6 o_.AfterCounter, .string o_.Line] 33]] fr)) y6 v12 h14 S hy7) rfl tc9 rfl rfl ?_; clear F a S
      rintro _ a w ⟨g6, v13, c13, l6, S, h15, rfl⟩ F; replace S : St g6 [c13, [bx b4 #[.i6 0, .i6 0] 25], c11, [bx b3 #[.i6 y4.2.Code, .i6 y4.2.Index] 25], c8, [bx b2 #[.i6 y3.2.Code, .i6 y3.2.Index] 25], c7, c4, [bx b1 #[.bool o_.Delete, .i6 o_.Replica, .i6 o_.Counter, .i6 o_.AfterReplica, .i6 o_.AfterCounter, .string o_.Line] 33]] fr w := S
      refine dv_nx trivial ?_
      refine dv_et ok2 7 rfl (ev_move rfl) F rfl fun a F=>?_
      refine dv_et ok2 8 rfl (ev_extract rfl rfl) F rfl fun a F=>?_
      refine dv_et ok2 9 rfl (ev_extract rfl rfl) F rfl fun a F=>?_
      refine dv_et ok2 11 rfl (ev_assign rfl) F rfl fun a F=>?_
      refine dv_join (HJ _ _ ?_)
      replace S : St g6 [[bx b4 #[.i6 0, .i6 0] 25], c8, [bx b3 #[.i6 y4.2.Code, .i6 y4.2.Index] 25], c7, [bx b2 #[.i6 y3.2.Code, .i6 y3.2.Index] 25], [bx b1 #[.bool o_.Delete, .i6 o_.Replica, .i6 o_.Counter, .i6 o_.AfterReplica, .i6 o_.AfterCounter, .string o_.Line] 33]] fr w := St.tail [[bx b4 #[.i6 0, .i6 0] 25], c8, [bx b3 #[.i6 y4.2.Code, .i6 y4.2.Index] 25], c7, [bx b2 #[.i6 y3.2.Code, .i6 y3.2.Index] 25], [bx b1 #[.bool o_.Delete, .i6 o_.Replica, .i6 o_.Counter, .i6 o_.AfterReplica, .i6 o_.AfterCounter, .string o_.Line] 33]] _ ((((((S.frontC 8 rfl).frontC 6 rfl).frontC 8 rfl).frontC 6 rfl).frontC 8 rfl).frontC 6 rfl)
      exact ⟨b4, g6, F.sub ⟨rfl, rfl, rfl, rfl, rfl, rfl, rfl, rfl, trivial⟩, (l5.trans l6), S, hm⟩
    ·refine wl_alloc (wn rfl) rfl tz25 (cs := [.i6 0, .i6 0]) rfl F S rfl rfl ?_; clear F a S; rintro b4 a w F S
     refine dv_nx trivial ?_
     refine dv_op ok2 0 rfl [] ?_
     refine wl_lit (l := ([] : List SeqOp)) (vs := []) (parts := []) (wn rfl) rfl rfl rfl tu22 te33 sz_nil rfl (Cat.nil _) coa_nil rfl F S rfl rfl ?_; clear F a S
     rintro v9 c9 a w h10 F S
     refine dv_nx trivial ?_
     refine dv_op ok2 2 rfl [] ?_
     obtain ⟨cs3, hk3, hr3⟩ := RepSl.reads (h8.mono l4)
     refine wl_append (wn rfl) rfl tu22 tu22 te33 (by decide) (by decide) F S rfl rfl (k := 0) rfl h10 hk3 rfl (hr3 _ _ S) hy5 rfl rfl ?_; clear F a S
     rintro v10 c10 a w h11 S F; replace S : St g4 [c10, [bx b4 #[.i6 0, .i6 0] 25], c11, [bx b3 #[.i6 y4.2.Code, .i6 y4.2.Index] 25], c8, [bx b2 #[.i6 y3.2.Code, .i6 y3.2.Index] 25], c7, c4, [bx b1 #[.bool o_.Delete, .i6 o_.Replica, .i6 o_.Counter, .i6 o_.AfterReplica, .i6 o_.AfterCounter, .string o_.Line] 33]] fr w := S
     refine dv_nx trivial ?_
     refine dv_op ok2 5 rfl [] ?_
     obtain ⟨cs4, hk4, hr4⟩ := OwnS.reads h12
     refine wl_append (wn rfl) rfl tu22 tu22 te33 (by decide) (by decide) F S rfl rfl (k := 0) rfl h11 hk4 rfl (hr4 _ _ _ 2 rfl S) hy6 rfl rfl ?_; clear F a S
     rintro v12 c12 a w h13 S F; replace S : St g4 [c12, [bx b4 #[.i6 0, .i6 0] 25], c11, [bx b3 #[.i6 y4.2.Code, .i6 y4.2.Index] 25], c8, [bx b2 #[.i6 y3.2.Code, .i6 y3.2.Index] 25], c7, c4, [bx b1 #[.bool o_.Delete, .i6 o_.Replica, .i6 o_.Counter, .i6 o_.AfterReplica, .i6 o_.AfterCounter, .string o_.Line] 33]] fr w := S
     refine dv_nx trivial ?_
     refine dv_op ok2 6 rfl [] ?_
     obtain ⟨g5, l5, S, h14⟩ : ∃ gz, Le g4 gz ∧ St gz [[bx b4 #[.i6 0, .i6 0] 25], c11, [bx b3 #[.i6 y4.2.Code, .i6 y4.2.Index] 25], c8, [bx b2 #[.i6 y3.2.Code, .i6 y3.2.Index] 25], c7, c4, [bx b1 #[.bool o_.Delete, .i6 o_.Replica, .i6 o_.Counter, .i6 o_.AfterReplica, .i6 o_.AfterCounter, .string o_.Line] 33]] fr w ∧ RepSl gz y6 v12 := ⟨_, Le.add _ _, S.freeze 0 rfl, OwnS.freeze (S.front 0 rfl) h13⟩
     refine wl_call0 (wn rfl) rfl F rfl (sequence_Visible_ok (fr := (fl [[bx b4 #[.i6 0, .i6 0] 25], c11, [bx b3 #[.i6 y4.2.Code, .i6 y4.2.Index] 25], c8, [bx b2 #[.i6 y3.2.Code, .i6 y3.2.Index] 25], c7, c4, [bx b1 #[.bool o_.Delete, .i6 o_.Replica, .i6 o_.Counter, .i6 o_.AfterReplica, .i6 o_.AfterCounter, .string o_.Line] 33]] fr)) y6 v12 h14 S hy7) rfl tc9 rfl rfl ?_; clear F a S
     rintro _ a w ⟨g6, v13, c13, l6, S, h15, rfl⟩ F; replace S : St g6 [c13, [bx b4 #[.i6 0, .i6 0] 25], c11, [bx b3 #[.i6 y4.2.Code, .i6 y4.2.Index] 25], c8, [bx b2 #[.i6 y3.2.Code, .i6 y3.2.Index] 25], c7, c4, [bx b1 #[.bool o_.Delete, .i6 o_.Replica, .i6 o_.Counter, .i6 o_.AfterReplica, .i6 o_.AfterCounter, .string o_.Line] 33]] fr w := S
     refine dv_nx trivial ?_
     refine dv_et ok2 7 rfl (ev_move rfl) F rfl fun a F=>?_
     refine dv_et ok2 8 rfl (ev_extract rfl rfl) F rfl fun a F=>?_
     refine dv_et ok2 9 rfl (ev_extract rfl rfl) F rfl fun a F=>?_
     refine dv_et ok2 11 rfl (ev_assign rfl) F rfl fun a F=>?_
     refine dv_join (HJ _ _ ?_)
     replace S : St g6 [[bx b4 #[.i6 0, .i6 0] 25], c8, [bx b3 #[.i6 y4.2.Code, .i6 y4.2.Index] 25], c7, [bx b2 #[.i6 y3.2.Code, .i6 y3.2.Index] 25], [bx b1 #[.bool o_.Delete, .i6 o_.Replica, .i6 o_.Counter, .i6 o_.AfterReplica, .i6 o_.AfterCounter, .string o_.Line] 33]] fr w := St.tail [[bx b4 #[.i6 0, .i6 0] 25], c8, [bx b3 #[.i6 y4.2.Code, .i6 y4.2.Index] 25], c7, [bx b2 #[.i6 y3.2.Code, .i6 y3.2.Index] 25], [bx b1 #[.bool o_.Delete, .i6 o_.Replica, .i6 o_.Counter, .i6 o_.AfterReplica, .i6 o_.AfterCounter, .string o_.Line] 33]] _ ((((((S.frontC 8 rfl).frontC 6 rfl).frontC 8 rfl).frontC 6 rfl).frontC 8 rfl).frontC 6 rfl)
     exact ⟨b4, g6, F.sub ⟨rfl, rfl, rfl, rfl, rfl, rfl, rfl, rfl, trivial⟩, (l5.trans l6), S, hm⟩
   ·refine wl_alloc (wn rfl) rfl tz25 (cs := [.i6 0, .i6 0]) rfl F S rfl rfl ?_; clear F a S; rintro b4 a w F S
    refine dv_nx ⟨yl_ev rfl rfl (ev_loadA tu33 rfl (cs := [.bool o_.Delete, .i6 o_.Replica, .i6 o_.Counter, .i6 o_.AfterReplica, .i6 o_.AfterCounter, .string o_.Line]) ts33 rfl (box_ptr (cells := [.bool o_.Delete, .i6 o_.Replica, .i6 o_.Counter, .i6 o_.AfterReplica, .i6 o_.AfterCounter, .string o_.Line]) 6 rfl 0 rfl (lb rfl))) F S, trivial⟩ ?_
    refine dv_fork ok2 0 [4] (fk 0 rfl [(3, .agg #[.bool o_.Delete, .i6 o_.Replica, .i6 o_.Counter, .i6 o_.AfterReplica, .i6 o_.AfterCounter, .string o_.Line])] ?_ (fk 4 rfl [] ?_ trivial))
    ·refine wl_lit (l := ([] : List SeqOp)) (vs := []) (parts := []) (wn rfl) rfl rfl rfl tu22 te33 sz_nil rfl (Cat.nil _) coa_nil rfl F S rfl rfl ?_; clear F a S
     rintro v9 c9 a w h10 F S
     refine dv_nx ⟨yl_ev rfl rfl (ev_loadA tu33 rfl (cs := [.bool o_.Delete, .i6 o_.Replica, .i6 o_.Counter, .i6 o_.AfterReplica, .i6 o_.AfterCounter, .string o_.Line]) ts33 rfl (box_ptr (cells := [.bool o_.Delete, .i6 o_.Replica, .i6 o_.Counter, .i6 o_.AfterReplica, .i6 o_.AfterCounter, .string o_.Line]) 7 rfl 0 rfl (lb rfl))) F S, trivial⟩ ?_
     refine dv_fork ok2 2 [4] (fk 2 rfl [(3, .agg #[.bool o_.Delete, .i6 o_.Replica, .i6 o_.Counter, .i6 o_.AfterReplica, .i6 o_.AfterCounter, .string o_.Line])] ?_ (fk 4 rfl [] ?_ trivial))
     ·obtain ⟨cs3, hk3, hr3⟩ := RepSl.reads (h8.mono l4)
      refine wl_append (wn rfl) rfl tu22 tu22 te33 (by decide) (by decide) F S rfl rfl (k := 0) rfl h10 hk3 rfl (hr3 _ _ S) hy5 rfl rfl ?_; clear F a S
      rintro v10 c10 a w h11 S F; replace S : St g4 [c10, [bx b4 #[.i6 0, .i6 0] 25], [bx b3 #[.i6 y4.2.Code, .i6 y4.2.Index] 25], c8, [bx b2 #[.i6 y3.2.Code, .i6 y3.2.Index] 25], c7, c4, [bx b1 #[.bool o_.Delete, .i6 o_.Replica, .i6 o_.Counter, .i6 o_.AfterReplica, .i6 o_.AfterCounter, .string o_.Line] 33]] fr w := S
      refine dv_nx ⟨yl_ev rfl rfl (ev_loadA tu33 rfl (cs := [.bool o_.Delete, .i6 o_.Replica, .i6 o_.Counter, .i6 o_.AfterReplica, .i6 o_.AfterCounter, .string o_.Line]) ts33 rfl (box_ptr (cells := [.bool o_.Delete, .i6 o_.Replica, .i6 o_.Counter, .i6 o_.AfterReplica, .i6 o_.AfterCounter, .string o_.Line]) 7 rfl 0 rfl (lb rfl))) F S, trivial⟩ ?_
      refine dv_op ok2 4 rfl [] ?_
      refine wl_lit (l := ([o_] : List SeqOp)) (vs := [.agg #[.bool o_.Delete, .i6 o_.Replica, .i6 o_.Counter, .i6 o_.AfterReplica, .i6 o_.AfterCounter, .string o_.Line]]) (parts := [(0, .tmp 33)]) (wn rfl) rfl rfl rfl tu22 te33 (sz_cons rfl sz_nil) rfl (Cat.cons (rep_SeqOp_mk (x := o_) ) (Cat.nil _)) (coa_cons rfl coa_nil) rfl F S rfl rfl ?_; clear F a S
      rintro v11 c11 a w h12 F S
      refine dv_nx trivial ?_
      refine dv_op ok2 5 rfl [] ?_
      obtain ⟨cs4, hk4, hr4⟩ := OwnS.reads h12
      refine wl_append (wn rfl) rfl tu22 tu22 te33 (by decide) (by decide) F S rfl rfl (k := 1) rfl h11 hk4 rfl (hr4 _ _ _ 0 rfl S) hy6 rfl rfl ?_; clear F a S
      rintro v12 c12 a w h13 S F; replace S : St g4 [c11, c12, [bx b4 #[.i6 0, .i6 0] 25], [bx b3 #[.i6 y4.2.Code, .i6 y4.2.Index] 25], c8, [bx b2 #[.i6 y3.2.Code, .i6 y3.2.Index] 25], c7, c4, [bx b1 #[.bool o_.Delete, .i6 o_.Replica, .i6 o_.Counter, .i6 o_.AfterReplica, .i6 o_.AfterCounter, .string o_.Line] 33]] fr w := S
      refine dv_nx trivial ?_
      refine dv_op ok2 6 rfl [] ?_
      obtain ⟨g5, l5, S, h14⟩ : ∃ gz, Le g4 gz ∧ St gz [c11, [bx b4 #[.i6 0, .i6 0] 25], [bx b3 #[.i6 y4.2.Code, .i6 y4.2.Index] 25], c8, [bx b2 #[.i6 y3.2.Code, .i6 y3.2.Index] 25], c7, c4, [bx b1 #[.bool o_.Delete, .i6 o_.Replica, .i6 o_.Counter, .i6 o_.AfterReplica, .i6 o_.AfterCounter, .string o_.Line] 33]] fr w ∧ RepSl gz y6 v12 := ⟨_, Le.add _ _, S.freeze 1 rfl, OwnS.freeze (S.front 1 rfl) h13⟩
      refine wl_call0 (wn rfl) rfl F rfl (sequence_Visible_ok (fr := (fl [c11, [bx b4 #[.i6 0, .i6 0] 25], [bx b3 #[.i6 y4.2.Code, .i6 y4.2.Index] 25], c8, [bx b2 #[.i6 y3.2.Code, .i6 y3.2.Index] 25], c7, c4, [bx b1 #[.bool o_.Delete, .i6 o_.Replica, .i6 o_.Counter, .i6 o_.AfterReplica, .i6 o_.AfterCounter, .string o_.Line] 33]] fr)) y6 v12 h14 S hy7) rfl tc9 rfl rfl ?_; clear F a S
      rintro _ a w ⟨g6, v13, c13, l6, S, h15, rfl⟩ F; replace S : St g6 [c13, c11, [bx b4 #[.i6 0, .i6 0] 25], [bx b3 #[.i6 y4.2.Code, .i6 y4.2.Index] 25], c8, [bx b2 #[.i6 y3.2.Code, .i6 y3.2.Index] 25], c7, c4, [bx b1 #[.bool o_.Delete, .i6 o_.Replica, .i6 o_.Counter, .i6 o_.AfterReplica, .i6 o_.AfterCounter, .string o_.Line] 33]] fr w := S
      refine dv_nx trivial ?_
      refine dv_et ok2 7 rfl (ev_move rfl) F rfl fun a F=>?_
      refine dv_et ok2 8 rfl (ev_extract rfl rfl) F rfl fun a F=>?_
      refine dv_et ok2 9 rfl (ev_extract rfl rfl) F rfl fun a F=>?_
      refine dv_et ok2 11 rfl (ev_assign rfl) F rfl fun a F=>?_
      refine dv_join (HJ _ _ ?_)
      replace S : St g6 [[bx b4 #[.i6 0, .i6 0] 25], c8, [bx b3 #[.i6 y4.2.Code, .i6 y4.2.Index] 25], c7, [bx b2 #[.i6 y3.2.Code, .i6 y3.2.Index] 25], [bx b1 #[.bool o_.Delete, .i6 o_.Replica, .i6 o_.Counter, .i6 o_.AfterReplica, .i6 o_.AfterCounter, .string o_.Line] 33]] fr w := St.tail [[bx b4 #[.i6 0, .i6 0] 25], c8, [bx b3 #[.i6 y4.2.Code, .i6 y4.2.Index] 25], c7, [bx b2 #[.i6 y3.2.Code, .i6 y3.2.Index] 25], [bx b1 #[.bool o_.Delete, .i6 o_.Replica, .i6 o_.Counter, .i6 o_.AfterReplica, .i6 o_.AfterCounter, .string o_.Line] 33]] _ ((((((S.frontC 8 rfl).frontC 6 rfl).frontC 8 rfl).frontC 6 rfl).frontC 8 rfl).frontC 7 rfl)
      exact ⟨b4, g6, F.sub ⟨rfl, rfl, rfl, rfl, rfl, rfl, rfl, rfl, trivial⟩, (l5.trans l6), S, hm⟩
     ·refine wl_lit (l := ([o_] : List SeqOp)) (vs := [.agg #[.bool o_.Delete, .i6 o_.Replica, .i6 o_.Counter, .i6 o_.AfterReplica, .i6 o_.AfterCounter, .string o_.Line]]) (parts := [(0, .tmp 33)]) (wn rfl) rfl rfl rfl tu22 te33 (sz_cons rfl sz_nil) rfl (Cat.cons (rep_SeqOp_mk (x := o_) ) (Cat.nil _)) (coa_cons rfl coa_nil) rfl F S rfl rfl ?_; clear F a S
      rintro v11 c11 a w h12 F S
      refine dv_nx trivial ?_
      refine dv_op ok2 2 rfl [] ?_
      obtain ⟨cs3, hk3, hr3⟩ := RepSl.reads (h8.mono l4)
      refine wl_append (wn rfl) rfl tu22 tu22 te33 (by decide) (by decide) F S rfl rfl (k := 1) rfl h10 hk3 rfl (hr3 _ _ S) hy5 rfl rfl ?_; clear F a S
      rintro v10 c10 a w h11 S F; replace S : St g4 [c11, c10, [bx b4 #[.i6 0, .i6 0] 25], [bx b3 #[.i6 y4.2.Code, .i6 y4.2.Index] 25], c8, [bx b2 #[.i6 y3.2.Code, .i6 y3.2.Index] 25], c7, c4, [bx b1 #[.bool o_.Delete, .i6 o_.Replica, .i6 o_.Counter, .i6 o_.AfterReplica, .i6 o_.AfterCounter, .string o_.Line] 33]] fr w := S
      refine dv_nx trivial ?_
      refine dv_op ok2 5 rfl [] ?_
      obtain ⟨cs4, hk4, hr4⟩ := OwnS.reads h12
      refine wl_append (wn rfl) rfl tu22 tu22 te33 (by decide) (by decide) F S rfl rfl (k := 1) rfl h11 hk4 rfl (hr4 _ _ _ 0 rfl S) hy6 rfl rfl ?_; clear F a S
      rintro v12 c12 a w h13 S F; replace S : St g4 [c11, c12, [bx b4 #[.i6 0, .i6 0] 25], [bx b3 #[.i6 y4.2.Code, .i6 y4.2.Index] 25], c8, [bx b2 #[.i6 y3.2.Code, .i6 y3.2.Index] 25], c7, c4, [bx b1 #[.bool o_.Delete, .i6 o_.Replica, .i6 o_.Counter, .i6 o_.AfterReplica, .i6 o_.AfterCounter, .string o_.Line] 33]] fr w := S
      refine dv_nx trivial ?_
      refine dv_op ok2 6 rfl [] ?_
      obtain ⟨g5, l5, S, h14⟩ : ∃ gz, Le g4 gz ∧ St gz [c11, [bx b4 #[.i6 0, .i6 0] 25], [bx b3 #[.i6 y4.2.Code, .i6 y4.2.Index] 25], c8, [bx b2 #[.i6 y3.2.Code, .i6 y3.2.Index] 25], c7, c4, [bx b1 #[.bool o_.Delete, .i6 o_.Replica, .i6 o_.Counter, .i6 o_.AfterReplica, .i6 o_.AfterCounter, .string o_.Line] 33]] fr w ∧ RepSl gz y6 v12 := ⟨_, Le.add _ _, S.freeze 1 rfl, OwnS.freeze (S.front 1 rfl) h13⟩
      refine wl_call0 (wn rfl) rfl F rfl (sequence_Visible_ok (fr := (fl [c11, [bx b4 #[.i6 0, .i6 0] 25], [bx b3 #[.i6 y4.2.Code, .i6 y4.2.Index] 25], c8, [bx b2 #[.i6 y3.2.Code, .i6 y3.2.Index] 25], c7, c4, [bx b1 #[.bool o_.Delete, .i6 o_.Replica, .i6 o_.Counter, .i6 o_.AfterReplica, .i6 o_.AfterCounter, .string o_.Line] 33]] fr)) y6 v12 h14 S hy7) rfl tc9 rfl rfl ?_; clear F a S
      rintro _ a w ⟨g6, v13, c13, l6, S, h15, rfl⟩ F; replace S : St g6 [c13, c11, [bx b4 #[.i6 0, .i6 0] 25], [bx b3 #[.i6 y4.2.Code, .i6 y4.2.Index] 25], c8, [bx b2 #[.i6 y3.2.Code, .i6 y3.2.Index] 25], c7, c4, [bx b1 #[.bool o_.Delete, .i6 o_.Replica, .i6 o_.Counter, .i6 o_.AfterReplica, .i6 o_.AfterCounter, .string o_.Line] 33]] fr w := S
      refine dv_nx trivial ?_
      refine dv_et ok2 7 rfl (ev_move rfl) F rfl fun a F=>?_
      refine dv_et ok2 8 rfl (ev_extract rfl rfl) F rfl fun a F=>?_
      refine dv_et ok2 9 rfl (ev_extract rfl rfl) F rfl fun a F=>?_
      refine dv_et ok2 11 rfl (ev_assign rfl) F rfl fun a F=>?_
      refine dv_join (HJ _ _ ?_)
      replace S : St g6 [[bx b4 #[.i6 0, .i6 0] 25], c8, [bx b3 #[.i6 y4.2.Code, .i6 y4.2.Index] 25], c7, [bx b2 #[.i6 y3.2.Code, .i6 y3.2.Index] 25], [bx b1 #[.bool o_.Delete, .i6 o_.Replica, .i6 o_.Counter, .i6 o_.AfterReplica, .i6 o_.AfterCounter, .string o_.Line] 33]] fr w := St.tail [[bx b4 #[.i6 0, .i6 0] 25], c8, [bx b3 #[.i6 y4.2.Code, .i6 y4.2.Index] 25], c7, [bx b2 #[.i6 y3.2.Code, .i6 y3.2.Index] 25], [bx b1 #[.bool o_.Delete, .i6 o_.Replica, .i6 o_.Counter, .i6 o_.AfterReplica, .i6 o_.AfterCounter, .string o_.Line] 33]] _ ((((((S.frontC 8 rfl).frontC 6 rfl).frontC 8 rfl).frontC 6 rfl).frontC 8 rfl).frontC 7 rfl)
      exact ⟨b4, g6, F.sub ⟨rfl, rfl, rfl, rfl, rfl, rfl, rfl, rfl, trivial⟩, (l5.trans l6), S, hm⟩
    ·refine wl_lit (l := ([o_] : List SeqOp)) (vs := [.agg #[.bool o_.Delete, .i6 o_.Replica, .i6 o_.Counter, .i6 o_.AfterReplica, .i6 o_.AfterCounter, .string o_.Line]]) (parts := [(0, .tmp 33)]) (wn rfl) rfl rfl rfl tu22 te33 (sz_cons rfl sz_nil) rfl (Cat.cons (rep_SeqOp_mk (x := o_) ) (Cat.nil _)) (coa_cons rfl coa_nil) rfl F S rfl rfl ?_; clear F a S
     rintro v11 c11 a w h12 F S
     refine dv_nx trivial ?_
     refine dv_op ok2 0 rfl [] ?_
     refine wl_lit (l := ([] : List SeqOp)) (vs := []) (parts := []) (wn rfl) rfl rfl rfl tu22 te33 sz_nil rfl (Cat.nil _) coa_nil rfl F S rfl rfl ?_; clear F a S
     rintro v9 c9 a w h10 F S
     refine dv_nx trivial ?_
     refine dv_op ok2 2 rfl [] ?_
     obtain ⟨cs3, hk3, hr3⟩ := RepSl.reads (h8.mono l4)
     refine wl_append (wn rfl) rfl tu22 tu22 te33 (by decide) (by decide) F S rfl rfl (k := 0) rfl h10 hk3 rfl (hr3 _ _ S) hy5 rfl rfl ?_; clear F a S
     rintro v10 c10 a w h11 S F; replace S : St g4 [c10, c11, [bx b4 #[.i6 0, .i6 0] 25], [bx b3 #[.i6 y4.2.Code, .i6 y4.2.Index] 25], c8, [bx b2 #[.i6 y3.2.Code, .i6 y3.2.Index] 25], c7, c4, [bx b1 #[.bool o_.Delete, .i6 o_.Replica, .i6 o_.Counter, .i6 o_.AfterReplica, .i6 o_.AfterCounter, .string o_.Line] 33]] fr w := S
     refine dv_nx trivial ?_
     refine dv_op ok2 5 rfl [] ?_
     obtain ⟨cs4, hk4, hr4⟩ := OwnS.reads h12
     refine wl_append (wn rfl) rfl tu22 tu22 te33 (by decide) (by decide) F S rfl rfl (k := 0) rfl h11 hk4 rfl (hr4 _ _ _ 1 rfl S) hy6 rfl rfl ?_; clear F a S
     rintro v12 c12 a w h13 S F; replace S : St g4 [c12, c11, [bx b4 #[.i6 0, .i6 0] 25], [bx b3 #[.i6 y4.2.Code, .i6 y4.2.Index] 25], c8, [bx b2 #[.i6 y3.2.Code, .i6 y3.2.Index] 25], c7, c4, [bx b1 #[.bool o_.Delete, .i6 o_.Replica, .i6 o_.Counter, .i6 o_.AfterReplica, .i6 o_.AfterCounter, .string o_.Line] 33]] fr w := S
     refine dv_nx trivial ?_
     refine dv_op ok2 6 rfl [] ?_
     obtain ⟨g5, l5, S, h14⟩ : ∃ gz, Le g4 gz ∧ St gz [c11, [bx b4 #[.i6 0, .i6 0] 25], [bx b3 #[.i6 y4.2.Code, .i6 y4.2.Index] 25], c8, [bx b2 #[.i6 y3.2.Code, .i6 y3.2.Index] 25], c7, c4, [bx b1 #[.bool o_.Delete, .i6 o_.Replica, .i6 o_.Counter, .i6 o_.AfterReplica, .i6 o_.AfterCounter, .string o_.Line] 33]] fr w ∧ RepSl gz y6 v12 := ⟨_, Le.add _ _, S.freeze 0 rfl, OwnS.freeze (S.front 0 rfl) h13⟩
     refine wl_call0 (wn rfl) rfl F rfl (sequence_Visible_ok (fr := (fl [c11, [bx b4 #[.i6 0, .i6 0] 25], [bx b3 #[.i6 y4.2.Code, .i6 y4.2.Index] 25], c8, [bx b2 #[.i6 y3.2.Code, .i6 y3.2.Index] 25], c7, c4, [bx b1 #[.bool o_.Delete, .i6 o_.Replica, .i6 o_.Counter, .i6 o_.AfterReplica, .i6 o_.AfterCounter, .string o_.Line] 33]] fr)) y6 v12 h14 S hy7) rfl tc9 rfl rfl ?_; clear F a S
     rintro _ a w ⟨g6, v13, c13, l6, S, h15, rfl⟩ F; replace S : St g6 [c13, c11, [bx b4 #[.i6 0, .i6 0] 25], [bx b3 #[.i6 y4.2.Code, .i6 y4.2.Index] 25], c8, [bx b2 #[.i6 y3.2.Code, .i6 y3.2.Index] 25], c7, c4, [bx b1 #[.bool o_.Delete, .i6 o_.Replica, .i6 o_.Counter, .i6 o_.AfterReplica, .i6 o_.AfterCounter, .string o_.Line] 33]] fr w := S
     refine dv_nx trivial ?_
     refine dv_et ok2 7 rfl (ev_move rfl) F rfl fun a F=>?_
     refine dv_et ok2 8 rfl (ev_extract rfl rfl) F rfl fun a F=>?_
     refine dv_et ok2 9 rfl (ev_extract rfl rfl) F rfl fun a F=>?_
     refine dv_et ok2 11 rfl (ev_assign rfl) F rfl fun a F=>?_
     refine dv_join (HJ _ _ ?_)
     replace S : St g6 [[bx b4 #[.i6 0, .i6 0] 25], c8, [bx b3 #[.i6 y4.2.Code, .i6 y4.2.Index] 25], c7, [bx b2 #[.i6 y3.2.Code, .i6 y3.2.Index] 25], [bx b1 #[.bool o_.Delete, .i6 o_.Replica, .i6 o_.Counter, .i6 o_.AfterReplica, .i6 o_.AfterCounter, .string o_.Line] 33]] fr w := St.tail [[bx b4 #[.i6 0, .i6 0] 25], c8, [bx b3 #[.i6 y4.2.Code, .i6 y4.2.Index] 25], c7, [bx b2 #[.i6 y3.2.Code, .i6 y3.2.Index] 25], [bx b1 #[.bool o_.Delete, .i6 o_.Replica, .i6 o_.Counter, .i6 o_.AfterReplica, .i6 o_.AfterCounter, .string o_.Line] 33]] _ ((((((S.frontC 8 rfl).frontC 6 rfl).frontC 8 rfl).frontC 6 rfl).frontC 8 rfl).frontC 7 rfl)
     exact ⟨b4, g6, F.sub ⟨rfl, rfl, rfl, rfl, rfl, rfl, rfl, rfl, trivial⟩, (l5.trans l6), S, hm⟩
  ·clear F S hm; rintro a w ⟨b5, g7, F, l7, S, hm⟩
   refine dv_op ok2 12 rfl [] ?_
   refine wl_storeC (wn rfl) rfl F S rfl rfl (vs := [.i6 y7.2.Code, .i6 y7.2.Index]) rfl ts25 (one_cons rfl (one_cons rfl one_nil)) (k := 0) rfl (lb rfl) (c' := #[.i6 y7.2.Code, .i6 y7.2.Index]) rfl rfl ?_; clear S; intro w S
   refine dv_nx trivial ?_
   refine dv_fin ok2 ?_
   refine then_n ?_
   refine wp_seq ?_
   refine wp_seq ?_
   refine wp_region_lit ?_
   refine wE (ev_fieldAddr' tu25 tf25_0 (z := 0) ts3 rfl ⟨_, rfl⟩ rfl) F S rfl fun a F=>?_
   refine wE (ev_load1 tu3 rfl rfl (box_ptr (cells := [.i6 y3.2.Code]) 4 rfl 0 rfl (lb rfl))) F S rfl fun a F=>?_
   refine wE (ev_int rfl rfl (bo_neq _ _ _ _)) F S rfl fun a F=>?_
   refine wE (ev_move rfl) F S rfl fun a F=>?_
   obtain ⟨x3, hx1, hm⟩ := bind_some hm
   refine wl_cut 4 (fun a w' => w = w' ∧ Fr 83 a [(46, .bool x3), (11, bp b5 0), (8, v8), (6, v7), (5, v6), (3, bp b1 0)]) ?_ ?_
   ·clear hm; obtain ⟨hc1, hm⟩ | ⟨hc1, hm⟩ := ite_or hx1
    ·refine wl_skip rfl rfl rfl rfl (ne_ft hc1) F rfl rfl ?_; clear F a; intro a F
     refine wl_skip rfl rfl rfl rfl (ne_ft hc1) F rfl rfl ?_; clear F a; intro a F
     refine wl_skip rfl rfl rfl rfl (ne_ft hc1) F rfl rfl ?_; clear F a; intro a F
     refine wE (ev_pickT rfl hc1 rfl) F S rfl fun a F=>?_
     obtain rfl := sinj hm
     refine wpList_nil (then_n ?_); exact ⟨rfl, F.sub ⟨rfl, rfl, rfl, rfl, rfl, rfl, trivial⟩⟩
    ·refine wl_ev (wg F rfl rfl rfl rfl hc1) (ev_fieldAddr' tu25 tf25_0 (z := 0) ts3 rfl ⟨_, rfl⟩ rfl) F S rfl rfl ?_; clear F a; intro a F
     refine wl_ev (wg F rfl rfl rfl rfl hc1) (ev_load1 tu3 rfl rfl (box_ptr (cells := [.i6 y4.2.Code]) 2 rfl 0 rfl (lb rfl))) F S rfl rfl ?_; clear F a; intro a F
     refine wl_ev (wg F rfl rfl rfl rfl hc1) (ev_int rfl rfl (bo_neq _ _ _ _)) F S rfl rfl ?_; clear F a; intro a F
     refine wE (ev_pickF rfl hc1 rfl) F S rfl fun a F=>?_
     obtain rfl := sinj hm
     refine wpList_nil (then_n ?_); exact ⟨rfl, F.sub ⟨rfl, rfl, rfl, rfl, rfl, rfl, trivial⟩⟩
   clear F; rintro a w' ⟨rfl, F⟩
   refine wE (ev_move rfl) F S rfl fun a F=>?_
   obtain ⟨x4, hx2, hm⟩ := bind_some hm
   refine wl_cut 4 (fun a w' => w = w' ∧ Fr 83 a [(51, .bool x4), (11, bp b5 0), (8, v8), (6, v7), (5, v6)]) ?_ ?_
   ·clear hm; obtain ⟨hc2, hm⟩ | ⟨hc2, hm⟩ := ite_or hx2
    ·refine wl_skip rfl rfl rfl rfl (ne_ft hc2) F rfl rfl ?_; clear F a; intro a F
     refine wl_skip rfl rfl rfl rfl (ne_ft hc2) F rfl rfl ?_; clear F a; intro a F
     refine wl_skip rfl rfl rfl rfl (ne_ft hc2) F rfl rfl ?_; clear F a; intro a F
     refine wE (ev_pickT rfl hc2 rfl) F S rfl fun a F=>?_
     obtain rfl := sinj hm
     refine wpList_nil (then_n ?_); exact ⟨rfl, F.sub ⟨rfl, rfl, rfl, rfl, rfl, trivial⟩⟩
    ·refine wl_ev (wg F rfl rfl rfl rfl hc2) (ev_fieldAddr' tu33 tf33_0 (z := 0) ts4 rfl ⟨_, rfl⟩ rfl) F S rfl rfl ?_; clear F a; intro a F
     refine wl_ev (wg F rfl rfl rfl rfl hc2) (ev_load1 tu4 rfl rfl (box_ptr (cells := [.bool o_.Delete]) 5 rfl 0 rfl (lb rfl))) F S rfl rfl ?_; clear F a; intro a F
     refine wl_ev (wg F rfl rfl rfl rfl hc2) (ev_not rfl) F S rfl rfl ?_; clear F a; intro a F
     refine wE (ev_pickF rfl hc2 rfl) F S rfl fun a F=>?_
     obtain rfl := sinj hm
     refine wpList_nil (then_n ?_); exact ⟨rfl, F.sub ⟨rfl, rfl, rfl, rfl, rfl, trivial⟩⟩
   clear F; rintro a w' ⟨rfl, F⟩
   refine wpList_nil ?_
   refine then_n ?_
   obtain ⟨hc3, hm⟩ | ⟨hc3, hm⟩ := ite_or hm
   ·refine wp_condT F rfl hc3 ?_
    refine wp_seq ?_
    refine wp_region_lit ?_
    obtain ⟨y8, hy8, hm⟩ := bind_some hm
    refine wl_call0 (wn rfl) rfl F rfl (changeforgelaw2_latest_ok (fr := (fl [[bx b5 #[.i6 y7.2.Code, .i6 y7.2.Index] 25], c8, [bx b3 #[.i6 y4.2.Code, .i6 y4.2.Index] 25], c7, [bx b2 #[.i6 y3.2.Code, .i6 y3.2.Index] 25], [bx b1 #[.bool o_.Delete, .i6 o_.Replica, .i6 o_.Counter, .i6 o_.AfterReplica, .i6 o_.AfterCounter, .string o_.Line] 33]] fr))  S hy8) rfl tc11 rfl rfl ?_; clear F a S
    rintro _ a w ⟨g8, l8, S, rfl⟩ F; replace S : St g8 [[bx b5 #[.i6 y7.2.Code, .i6 y7.2.Index] 25], c8, [bx b3 #[.i6 y4.2.Code, .i6 y4.2.Index] 25], c7, [bx b2 #[.i6 y3.2.Code, .i6 y3.2.Index] 25], [bx b1 #[.bool o_.Delete, .i6 o_.Replica, .i6 o_.Counter, .i6 o_.AfterReplica, .i6 o_.AfterCounter, .string o_.Line] 33]] fr w := S
    refine wE (ev_assign rfl) F S rfl fun a F=>?_
    refine wpList_nil ?_
    refine then_n ?_
    refine wp_ret ?_
    refine then_r ?_
    obtain rfl := sinj hm
    refine post_r _ F rfl (ar_cons (resT rfl) ar_nil) ?_
    replace S : St g8 [] fr w := St.tail [] _ S
    exact ⟨_, rfl, g8, (((((l1.trans l2).trans l3).trans l4).trans l7).trans l8), S, rfl⟩
   ·refine wp_condF F rfl hc3 ?_
    refine wp_skip ?_
    refine then_n ?_
    refine wp_seq ?_
    refine wp_region_lit ?_
    refine wE (ev_move rfl) F S rfl fun a F=>?_
    refine wE (ev_lenSh h8 rfl tu22) F S rfl fun a F=>?_
    refine wE (ev_int rfl rfl (bo_eql _ _ _ _)) F S rfl fun a F=>?_
    refine wE (ev_assign rfl) F S rfl fun a F=>?_
    refine wpList_nil ?_
    refine then_n ?_
    refine wp_seq ?_
    refine wp_region_lit ?_
    refine wE (ev_move rfl) F S rfl fun a F=>?_
    refine wE (ev_lenOw h7 rfl tu23) F S rfl fun a F=>?_
    refine wE (ev_move rfl) F S rfl fun a F=>?_
    refine wE (ev_lenOw h9 rfl tu23) F S rfl fun a F=>?_
    obtain ⟨z1, hz1, hm⟩ := bind_some hm
    refine wE (ev_int rfl rfl (bo_add hz1)) F S rfl fun a F=>?_
    refine wE (ev_int rfl rfl (bo_eql _ _ _ _)) F S rfl fun a F=>?_
    refine wE (ev_move rfl) F S rfl fun a F=>?_
    obtain ⟨g9, l9, S, h16⟩ : ∃ gz, Le g7 gz ∧ St gz [[bx b5 #[.i6 y7.2.Code, .i6 y7.2.Index] 25], [bx b3 #[.i6 y4.2.Code, .i6 y4.2.Index] 25], c7, [bx b2 #[.i6 y3.2.Code, .i6 y3.2.Index] 25], [bx b1 #[.bool o_.Delete, .i6 o_.Replica, .i6 o_.Counter, .i6 o_.AfterReplica, .i6 o_.AfterCounter, .string o_.Line] 33]] fr w ∧ RepSl gz y4.1 v8 := ⟨_, Le.add _ _, S.freeze 1 rfl, OwnS.freeze (S.front 1 rfl) (h9.mono l7)⟩
    obtain ⟨g10, l10, S, h17⟩ : ∃ gz, Le g9 gz ∧ St gz [[bx b5 #[.i6 y7.2.Code, .i6 y7.2.Index] 25], [bx b3 #[.i6 y4.2.Code, .i6 y4.2.Index] 25], [bx b2 #[.i6 y3.2.Code, .i6 y3.2.Index] 25], [bx b1 #[.bool o_.Delete, .i6 o_.Replica, .i6 o_.Counter, .i6 o_.AfterReplica, .i6 o_.AfterCounter, .string o_.Line] 33]] fr w ∧ RepSl gz y3.1 v7 := ⟨_, Le.add _ _, S.freeze 2 rfl, OwnS.freeze (S.front 2 rfl) (h7.mono (((l3.trans l4).trans l7).trans l9))⟩
    obtain ⟨x5, hx3, hm⟩ := bind_some hm
    refine wl_cut 4 (fun a w => ∃ g11, Fr 83 a [(66, .bool x5), (12, .bool (decide ((y2.length : Int) = 60))), (11, bp b5 0)] ∧ Le g10 g11 ∧ St g11 [[bx b5 #[.i6 y7.2.Code, .i6 y7.2.Index] 25], [bx b3 #[.i6 y4.2.Code, .i6 y4.2.Index] 25], [bx b2 #[.i6 y3.2.Code, .i6 y3.2.Index] 25], [bx b1 #[.bool o_.Delete, .i6 o_.Replica, .i6 o_.Counter, .i6 o_.AfterReplica, .i6 o_.AfterCounter, .string o_.Line] 33]] fr w) ?_ ?_
    ·clear hm; obtain ⟨hc4, hm⟩ | ⟨hc4, hm⟩ := ite_or hx3
     ·refine wl_ev (wg F rfl rfl rfl rfl hc4) (ev_move rfl) F S rfl rfl ?_; clear F a; intro a F
      refine wl_ev (wg F rfl rfl rfl rfl hc4) (ev_move rfl) F S rfl rfl ?_; clear F a; intro a F
      obtain ⟨y9, hy9, hm⟩ := bind_some hm
      refine wl_call0 (wg F rfl rfl rfl rfl hc4) rfl F rfl (changeforgelaw2_follows_ok (fr := (fl [[bx b5 #[.i6 y7.2.Code, .i6 y7.2.Index] 25], [bx b3 #[.i6 y4.2.Code, .i6 y4.2.Index] 25], [bx b2 #[.i6 y3.2.Code, .i6 y3.2.Index] 25], [bx b1 #[.bool o_.Delete, .i6 o_.Replica, .i6 o_.Counter, .i6 o_.AfterReplica, .i6 o_.AfterCounter, .string o_.Line] 33]] fr)) y4.1 v8 (h16.mono l10) y3.1 v7 h17 S hy9) rfl tc14 rfl rfl ?_; clear F a S
      rintro _ a w ⟨g12, l12, S, rfl⟩ F; replace S : St g12 [[bx b5 #[.i6 y7.2.Code, .i6 y7.2.Index] 25], [bx b3 #[.i6 y4.2.Code, .i6 y4.2.Index] 25], [bx b2 #[.i6 y3.2.Code, .i6 y3.2.Index] 25], [bx b1 #[.bool o_.Delete, .i6 o_.Replica, .i6 o_.Counter, .i6 o_.AfterReplica, .i6 o_.AfterCounter, .string o_.Line] 33]] fr w := S
      refine wE (ev_pickT rfl hc4 rfl) F S rfl fun a F=>?_
      obtain rfl := sinj hm
      refine wpList_nil (then_n ?_); exact ⟨g12, F.sub ⟨rfl, rfl, rfl, trivial⟩, l12, S⟩
     ·refine wl_skip rfl rfl rfl rfl (ne_tf hc4) F rfl rfl ?_; clear F a; intro a F
      refine wl_skip rfl rfl rfl rfl (ne_tf hc4) F rfl rfl ?_; clear F a; intro a F
      refine wl_skip rfl rfl rfl rfl (ne_tf hc4) F rfl rfl ?_; clear F a; intro a F
      refine wE (ev_pickF rfl hc4 rfl) F S rfl fun a F=>?_
      obtain rfl := sinj hm
      refine wpList_nil (then_n ?_); exact ⟨g10, F.sub ⟨rfl, rfl, rfl, trivial⟩, (Le.refl _), S⟩
    clear F S; rintro a w ⟨g11, F, l11, S⟩
    refine wE (ev_move rfl) F S rfl fun a F=>?_
    obtain ⟨x6, hx4, hm⟩ := bind_some hm
    refine wl_cut 12 (fun a w' => w = w' ∧ Fr 83 a [(79, .bool x6)]) ?_ ?_
    ·clear hm; obtain ⟨hc5, hm⟩ | ⟨hc5, hm⟩ := ite_or hx4
     ·refine wl_ev (wg F rfl rfl rfl rfl hc5) (ev_fieldAddr' tu25 tf25_0 (z := 0) ts3 rfl ⟨_, rfl⟩ rfl) F S rfl rfl ?_; clear F a; intro a F
      refine wl_ev (wg F rfl rfl rfl rfl hc5) (ev_load1 tu3 rfl rfl (box_ptr (cells := [.i6 y7.2.Code]) 0 rfl 0 rfl (lb rfl))) F S rfl rfl ?_; clear F a; intro a F
      refine wl_ev (wg F rfl rfl rfl rfl hc5) (ev_int rfl rfl (bo_eql _ _ _ _)) F S rfl rfl ?_; clear F a; intro a F
      refine wl_ev (wg F rfl rfl rfl rfl hc5) (ev_move rfl) F S rfl rfl ?_; clear F a; intro a F
      obtain ⟨x7, hx5, hm⟩ := bind_some hm
      refine wl_cut 7 (fun a w' => w = w' ∧ Fr 83 a [(78, .bool x7), (67, .bool x5)]) ?_ ?_
      ·clear hm; obtain ⟨hc6, hm⟩ | ⟨hc6, hm⟩ := ite_or hx5
       ·refine wl_skip rfl rfl rfl rfl (ne_ft hc6) F rfl rfl ?_; clear F a; intro a F
        refine wl_skip rfl rfl rfl rfl (ne_ft hc6) F rfl rfl ?_; clear F a; intro a F
        refine wl_skipu rfl rfl rfl rfl F rfl rfl ?_; clear F a; intro a F
        refine wl_skipu rfl rfl rfl rfl F rfl rfl ?_; clear F a; intro a F
        refine wl_skipu rfl rfl rfl rfl F rfl rfl ?_; clear F a; intro a F
        refine wl_skip rfl rfl rfl rfl (ne_ft hc6) F rfl rfl ?_; clear F a; intro a F
        refine wl_ev (wg F rfl rfl rfl rfl hc5) (ev_pickT rfl hc6 rfl) F S rfl rfl ?_; clear F a; intro a F
        obtain rfl := sinj hm
        refine wpList_nil (then_n ?_); exact ⟨rfl, F.sub ⟨rfl, rfl, trivial⟩⟩
       ·refine wl_ev (wg F rfl rfl rfl rfl hc6) (ev_move rfl) F S rfl rfl ?_; clear F a; intro a F
        refine wl_ev (wg F rfl rfl rfl rfl hc6) (ev_move rfl) F S rfl rfl ?_; clear F a; intro a F
        obtain ⟨x8, hx6, hm⟩ := bind_some hm
        refine wl_cut 4 (fun a w' => w = w' ∧ Fr 83 a [(77, .bool x8), (71, .bool (decide (y7.2.Code = 7))), (67, .bool x5)]) ?_ ?_
        ·clear hm; obtain ⟨hc7, hm⟩ | ⟨hc7, hm⟩ := ite_or hx6
         ·refine wl_ev (wg F rfl rfl rfl rfl hc7) (ev_fieldAddr' tu25 tf25_0 (z := 0) ts3 rfl ⟨_, rfl⟩ rfl) F S rfl rfl ?_; clear F a; intro a F
          refine wl_ev (wg F rfl rfl rfl rfl hc7) (ev_load1 tu3 rfl rfl (box_ptr (cells := [.i6 y7.2.Code]) 0 rfl 0 rfl (lb rfl))) F S rfl rfl ?_; clear F a; intro a F
          refine wl_ev (wg F rfl rfl rfl rfl hc7) (ev_int rfl rfl (bo_eql _ _ _ _)) F S rfl rfl ?_; clear F a; intro a F
          refine wl_ev (wg F rfl rfl rfl rfl hc6) (ev_pickT rfl hc7 rfl) F S rfl rfl ?_; clear F a; intro a F
          obtain rfl := sinj hm
          refine wpList_nil (then_n ?_); exact ⟨rfl, F.sub ⟨rfl, rfl, rfl, trivial⟩⟩
         ·refine wl_skip rfl rfl rfl rfl (ne_tf hc7) F rfl rfl ?_; clear F a; intro a F
          refine wl_skip rfl rfl rfl rfl (ne_tf hc7) F rfl rfl ?_; clear F a; intro a F
          refine wl_skip rfl rfl rfl rfl (ne_tf hc7) F rfl rfl ?_; clear F a; intro a F
          refine wl_ev (wg F rfl rfl rfl rfl hc6) (ev_pickF rfl hc7 rfl) F S rfl rfl ?_; clear F a; intro a F
          obtain rfl := sinj hm
          refine wpList_nil (then_n ?_); exact ⟨rfl, F.sub ⟨rfl, rfl, rfl, trivial⟩⟩
        clear F; rintro a w' ⟨rfl, F⟩
        refine wl_ev (wg F rfl rfl rfl rfl hc5) (ev_pickF rfl hc6 rfl) F S rfl rfl ?_; clear F a; intro a F
        obtain rfl := sinj hm
        refine wpList_nil (then_n ?_); exact ⟨rfl, F.sub ⟨rfl, rfl, trivial⟩⟩
      clear F; rintro a w' ⟨rfl, F⟩
      refine wE (ev_pickT rfl hc5 rfl) F S rfl fun a F=>?_
      obtain rfl := sinj hm
      refine wpList_nil (then_n ?_); exact ⟨rfl, F.sub ⟨rfl, trivial⟩⟩
     ·refine wl_skip rfl rfl rfl rfl (ne_tf hc5) F rfl rfl ?_; clear F a; intro a F
      refine wl_skip rfl rfl rfl rfl (ne_tf hc5) F rfl rfl ?_; clear F a; intro a F
      refine wl_skip rfl rfl rfl rfl (ne_tf hc5) F rfl rfl ?_; clear F a; intro a F
      refine wl_skip rfl rfl rfl rfl (ne_tf hc5) F rfl rfl ?_; clear F a; intro a F
      refine wl_skipu rfl rfl rfl rfl F rfl rfl ?_; clear F a; intro a F
      refine wl_skipu rfl rfl rfl rfl F rfl rfl ?_; clear F a; intro a F
      refine wl_skipu rfl rfl rfl rfl F rfl rfl ?_; clear F a; intro a F
      refine wl_skipu rfl rfl rfl rfl F rfl rfl ?_; clear F a; intro a F
      refine wl_skipu rfl rfl rfl rfl F rfl rfl ?_; clear F a; intro a F
      refine wl_skipu rfl rfl rfl rfl F rfl rfl ?_; clear F a; intro a F
      refine wl_skip rfl rfl rfl rfl (ne_tf hc5) F rfl rfl ?_; clear F a; intro a F
      refine wE (ev_pickF rfl hc5 rfl) F S rfl fun a F=>?_
      obtain rfl := sinj hm
      refine wpList_nil (then_n ?_); exact ⟨rfl, F.sub ⟨rfl, trivial⟩⟩
    clear F; rintro a w' ⟨rfl, F⟩
    refine wE (ev_move rfl) F S rfl fun a F=>?_
    obtain ⟨x9, hx7, hm⟩ := bind_some hm
    refine wl_cut 2 (fun a w => ∃ g13, Fr 83 a [(82, .bool x9)] ∧ Le g11 g13 ∧ St g13 [[bx b5 #[.i6 y7.2.Code, .i6 y7.2.Index] 25], [bx b3 #[.i6 y4.2.Code, .i6 y4.2.Index] 25], [bx b2 #[.i6 y3.2.Code, .i6 y3.2.Index] 25], [bx b1 #[.bool o_.Delete, .i6 o_.Replica, .i6 o_.Counter, .i6 o_.AfterReplica, .i6 o_.AfterCounter, .string o_.Line] 33]] fr w) ?_ ?_
    ·clear hm; obtain ⟨hc8, hm⟩ | ⟨hc8, hm⟩ := ite_or hx7
     ·obtain ⟨y10, hy10, hm⟩ := bind_some hm
      refine wl_call0 (wg F rfl rfl rfl rfl hc8) rfl F rfl (changeforgelaw2_latest_ok (fr := (fl [[bx b5 #[.i6 y7.2.Code, .i6 y7.2.Index] 25], [bx b3 #[.i6 y4.2.Code, .i6 y4.2.Index] 25], [bx b2 #[.i6 y3.2.Code, .i6 y3.2.Index] 25], [bx b1 #[.bool o_.Delete, .i6 o_.Replica, .i6 o_.Counter, .i6 o_.AfterReplica, .i6 o_.AfterCounter, .string o_.Line] 33]] fr))  S hy10) rfl tc11 rfl rfl ?_; clear F a S
      rintro _ a w ⟨g14, l14, S, rfl⟩ F; replace S : St g14 [[bx b5 #[.i6 y7.2.Code, .i6 y7.2.Index] 25], [bx b3 #[.i6 y4.2.Code, .i6 y4.2.Index] 25], [bx b2 #[.i6 y3.2.Code, .i6 y3.2.Index] 25], [bx b1 #[.bool o_.Delete, .i6 o_.Replica, .i6 o_.Counter, .i6 o_.AfterReplica, .i6 o_.AfterCounter, .string o_.Line] 33]] fr w := S
      refine wE (ev_pickT rfl hc8 rfl) F S rfl fun a F=>?_
      obtain rfl := sinj hm
      refine wpList_nil (then_n ?_); exact ⟨g14, F.sub ⟨rfl, trivial⟩, l14, S⟩
     ·refine wl_skip rfl rfl rfl rfl (ne_tf hc8) F rfl rfl ?_; clear F a; intro a F
      refine wE (ev_pickF rfl hc8 rfl) F S rfl fun a F=>?_
      obtain rfl := sinj hm
      refine wpList_nil (then_n ?_); exact ⟨g11, F.sub ⟨rfl, trivial⟩, (Le.refl _), S⟩
    clear F S; rintro a w ⟨g13, F, l13, S⟩
    refine wE (ev_assign rfl) F S rfl fun a F=>?_
    refine wpList_nil ?_
    refine then_n ?_
    refine wp_ret ?_
    obtain rfl := sinj hm
    refine post_r _ F rfl (ar_cons (resT rfl) ar_nil) ?_
    replace S : St g13 [] fr w := St.tail [] _ S
    exact ⟨_, rfl, g13, ((((((((l1.trans l2).trans l3).trans l4).trans l7).trans l9).trans l10).trans l11).trans l13), S, rfl⟩
end Go.Dc
