/- Walks: each function comes to what its model says. -/
import Derived.Test.YtibigfejalemjaaDcTab
import Derived.Test.YtibigfejalemjaaDcM
import Derived.Test.YtibigfejalemjaaDcW3
import Derived.Test.YtibigfejalemjaaDcW5
import Derived.Test.YtibigfejalemjaaDcW6
namespace Go.Dc
open Go Go.Proofs
set_option maxRecDepth 100000
set_option maxHeartbeats 4000000
set_option linter.unusedVariables false
theorem changeforgelaw2_SequenceInserts_ok {g : Gh} {fr : Hl} {w : World} {r : Bool} (a_ : (List SeqOp)) (va_1 : Value) (ha_1 : RepSl g a_ va_1) (o_ : SeqOp) (S : St g [] fr w) (hm : changeforgelaw2_SequenceInserts a_ o_ = some r) :
  Calls Try.prog 4 [va_1, .agg #[.bool o_.Delete, .i6 o_.Replica, .i6 o_.Counter, .i6 o_.AfterReplica, .i6 o_.AfterCounter, .string o_.Line]].toArray w (fun en w' => ∃ v, en = .returned v ∧ ∃ (g' : Gh), Le g g' ∧ St g' [] fr w' ∧ .bool r = v) := by
 unfold changeforgelaw2_SequenceInserts at hm
 refine calls_enter (fn := Try.f4) Try.func4 rfl Try.ntmps4 (lb rfl) ?_
 intro a F
 replace F : Fr 79 a [(0, va_1), (1, .agg #[.bool o_.Delete, .i6 o_.Replica, .i6 o_.Counter, .i6 o_.AfterReplica, .i6 o_.AfterCounter, .string o_.Line])] := F
 refine wp_seq ?_
 refine wp_region_lit ?_
 refine wl_boxC (wn rfl) rfl rfl rfl F S rfl rfl ?_; clear F a S; rintro b1 a w F S
 refine wE (ev_assign rfl) F S rfl fun a F=>?_
 refine wpList_nil ?_
 refine then_n ?_
 refine wp_seq ?_
 refine wp_region_lit ?_
 refine wE (ev_move rfl) F S rfl fun a F=>?_
 obtain ⟨y1, hy1, hm⟩ := bind_some hm
 refine wl_call0 (wn rfl) rfl F rfl (sequence_Visible_ok (fr := (fl [[bx b1 #[.bool o_.Delete, .i6 o_.Replica, .i6 o_.Counter, .i6 o_.AfterReplica, .i6 o_.AfterCounter, .string o_.Line] 33]] fr)) a_ va_1 ha_1 S hy1) rfl tc9 rfl rfl ?_; clear F a S
 rintro _ a w ⟨g1, v1, c1, l1, S, h1, rfl⟩ F; replace S : St g1 [c1, [bx b1 #[.bool o_.Delete, .i6 o_.Replica, .i6 o_.Counter, .i6 o_.AfterReplica, .i6 o_.AfterCounter, .string o_.Line] 33]] fr w := S
 refine wE (ev_move rfl) F S rfl fun a F=>?_
 refine wE (ev_extract rfl rfl) F S rfl fun a F=>?_
 refine wE (ev_extract rfl rfl) F S rfl fun a F=>?_
 refine wl_alloc (wn rfl) rfl tz25 (cs := [.i6 0, .i6 0]) rfl F S rfl rfl ?_; clear F a S; rintro b2 a w F S
 refine wE (ev_assign rfl) F S rfl fun a F=>?_
 refine wl_storeC (wn rfl) rfl F S rfl rfl (vs := [.i6 y1.2.Code, .i6 y1.2.Index]) rfl ts25 (one_cons rfl (one_cons rfl one_nil)) (k := 0) rfl (lb rfl) (c' := #[.i6 y1.2.Code, .i6 y1.2.Index]) rfl rfl ?_; clear S; intro w S
 refine wpList_nil ?_
 refine then_n ?_
 refine wp_seq ?_
 refine wp_dv [] mo S ?_; clear S; intro ok1 w S
 refine dv_et ok1 1 rfl (ev_move rfl) F rfl fun a F=>?_
 refine dv_ev ok1 3 rfl (ev_loadA tu33 rfl (cs := [.bool o_.Delete, .i6 o_.Replica, .i6 o_.Counter, .i6 o_.AfterReplica, .i6 o_.AfterCounter, .string o_.Line]) ts33 rfl (box_ptr (cells := [.bool o_.Delete, .i6 o_.Replica, .i6 o_.Counter, .i6 o_.AfterReplica, .i6 o_.AfterCounter, .string o_.Line]) 2 rfl 0 rfl (lb rfl))) F S rfl fun a F=>?_
 obtain ⟨y2, hy2, hm⟩ := bind_some hm
 obtain ⟨y3, hy3, hm⟩ := bind_some hm
 obtain ⟨y4, hy4, hm⟩ := bind_some hm
 refine dv_cut [1, 3, 0, 2, 4, 5, 6, 7, 8, 9, 10, 11] [] (fun a w => ∃ (v7 : Value) (b4 : Nat) (c7 : Hl) (g4 : Gh), Fr 79 a [(7, v7), (8, bp b4 0), (25, .agg #[.i6 y4.2.Code, .i6 y4.2.Index]), (5, v1), (6, bp b2 0), (3, bp b1 0), (0, va_1)] ∧ Le g1 g4 ∧ St g4 [c7, [bx b4 #[.i6 0, .i6 0] 25], c1, [bx b2 #[.i6 y1.2.Code, .i6 y1.2.Index] 25], [bx b1 #[.bool o_.Delete, .i6 o_.Replica, .i6 o_.Counter, .i6 o_.AfterReplica, .i6 o_.AfterCounter, .string o_.Line] 33]] fr w ∧ OwnS g4 y4.1 v7 c7 ∧ changeforgelaw2_SequenceInserts.j1 a_ o_ y1 y4 = some r) ?_ ?_
 ·intro HJ
  refine dv_fork ok1 0 [4, 10] (fk 0 rfl [(3, .agg #[.bool o_.Delete, .i6 o_.Replica, .i6 o_.Counter, .i6 o_.AfterReplica, .i6 o_.AfterCounter, .string o_.Line])] ?_ (fk 4 rfl [] ?_ (fk 10 rfl [(3, .agg #[.bool o_.Delete, .i6 o_.Replica, .i6 o_.Counter, .i6 o_.AfterReplica, .i6 o_.AfterCounter, .string o_.Line])] ?_ trivial)))
  ·refine wl_lit (l := ([] : List SeqOp)) (vs := []) (parts := []) (wn rfl) rfl rfl rfl tu22 te33 sz_nil rfl (Cat.nil _) coa_nil rfl F S rfl rfl ?_; clear F a S
   rintro v2 c2 a w h2 F S
   refine dv_nx ⟨yl_ev rfl rfl (ev_loadA tu33 rfl (cs := [.bool o_.Delete, .i6 o_.Replica, .i6 o_.Counter, .i6 o_.AfterReplica, .i6 o_.AfterCounter, .string o_.Line]) ts33 rfl (box_ptr (cells := [.bool o_.Delete, .i6 o_.Replica, .i6 o_.Counter, .i6 o_.AfterReplica, .i6 o_.AfterCounter, .string o_.Line]) 3 rfl 0 rfl (lb rfl))) F S, trivial⟩ ?_
   refine dv_fork ok1 2 [4, 10] (fk 2 rfl [(3, .agg #[.bool o_.Delete, .i6 o_.Replica, .i6 o_.Counter, .i6 o_.AfterReplica, .i6 o_.AfterCounter, .string o_.Line])] ?_ (fk 4 rfl [] ?_ (fk 10 rfl [(3, .agg #[.bool o_.Delete, .i6 o_.Replica, .i6 o_.Counter, .i6 o_.AfterReplica, .i6 o_.AfterCounter, .string o_.Line])] ?_ trivial)))
   ·obtain ⟨cs1, hk1, hr1⟩ := RepSl.reads (ha_1.mono l1)
    refine wl_append (wn rfl) rfl tu22 tu22 te33 (by decide) (by decide) F S rfl rfl (k := 0) rfl h2 hk1 rfl (hr1 _ _ S) hy2 rfl rfl ?_; clear F a S
    rintro v3 c3 a w h3 S F; replace S : St g1 [c3, [bx b2 #[.i6 y1.2.Code, .i6 y1.2.Index] 25], c1, [bx b1 #[.bool o_.Delete, .i6 o_.Replica, .i6 o_.Counter, .i6 o_.AfterReplica, .i6 o_.AfterCounter, .string o_.Line] 33]] fr w := S
    refine dv_nx ⟨yl_ev rfl rfl (ev_loadA tu33 rfl (cs := [.bool o_.Delete, .i6 o_.Replica, .i6 o_.Counter, .i6 o_.AfterReplica, .i6 o_.AfterCounter, .string o_.Line]) ts33 rfl (box_ptr (cells := [.bool o_.Delete, .i6 o_.Replica, .i6 o_.Counter, .i6 o_.AfterReplica, .i6 o_.AfterCounter, .string o_.Line]) 3 rfl 0 rfl (lb rfl))) F S, trivial⟩ ?_
    refine dv_fork ok1 4 [10] (fk 4 rfl [] ?_ (fk 10 rfl [(3, .agg #[.bool o_.Delete, .i6 o_.Replica, .i6 o_.Counter, .i6 o_.AfterReplica, .i6 o_.AfterCounter, .string o_.Line])] ?_ trivial))
    ·refine wl_lit (l := ([o_] : List SeqOp)) (vs := [.agg #[.bool o_.Delete, .i6 o_.Replica, .i6 o_.Counter, .i6 o_.AfterReplica, .i6 o_.AfterCounter, .string o_.Line]]) (parts := [(0, .tmp 20)]) (wn rfl) rfl rfl rfl tu22 te33 (sz_cons rfl sz_nil) rfl (Cat.cons (rep_SeqOp_mk (x := o_) ) (Cat.nil _)) (coa_cons rfl coa_nil) rfl F S rfl rfl ?_; clear F a S
     rintro v4 c4 a w h4 F S
     refine dv_nx trivial ?_
     refine dv_fork ok1 5 [10] (fk 5 rfl [] ?_ (fk 10 rfl [] ?_ trivial))
     ·obtain ⟨cs2, hk2, hr2⟩ := OwnS.reads h4
      refine wl_append (wn rfl) rfl tu22 tu22 te33 (by decide) (by decide) F S rfl rfl (k := 1) rfl h3 hk2 rfl (hr2 _ _ _ 0 rfl S) hy3 rfl rfl ?_; clear F a S
      rintro v5 c5 a w h5 S F; replace S : St g1 [c4, c5, [bx b2 #[.i6 y1.2.Code, .i6 y1.2.Index] 25], c1, [bx b1 #[.bool o_.Delete, .i6 o_.Replica, .i6 o_.Counter, .i6 o_.AfterReplica, .i6 o_.AfterCounter, .string o_.Line] 33]] fr w := S
      refine dv_nx trivial ?_
      refine dv_fork ok1 6 [10] (fk 6 rfl [] ?_ (fk 10 rfl [] ?_ trivial))
      ·obtain ⟨g2, l2, S, h6⟩ : ∃ gz, Le g1 gz ∧ St gz [c4, [bx b2 #[.i6 y1.2.Code, .i6 y1.2.Index] 25], c1, [bx b1 #[.bool o_.Delete, .i6 o_.Replica, .i6 o_.Counter, .i6 o_.AfterReplica, .i6 o_.AfterCounter, .string o_.Line] 33]] fr w ∧ RepSl gz y3 v5 := ⟨_, Le.add _ _, S.freeze 1 rfl, OwnS.freeze (S.front 1 rfl) h5⟩
       refine wl_call0 (wn rfl) rfl F rfl (sequence_Visible_ok (fr := (fl [c4, [bx b2 #[.i6 y1.2.Code, .i6 y1.2.Index] 25], c1, [bx b1 #[.bool o_.Delete, .i6 o_.Replica, .i6 o_.Counter, .i6 o_.AfterReplica, .i6 o_.AfterCounter, .string o_.Line] 33]] fr)) y3 v5 h6 S hy4) rfl tc9 rfl rfl ?_; clear F a S
       rintro _ a w ⟨g3, v6, c6, l3, S, h7, rfl⟩ F; replace S : St g3 [c6, c4, [bx b2 #[.i6 y1.2.Code, .i6 y1.2.Index] 25], c1, [bx b1 #[.bool o_.Delete, .i6 o_.Replica, .i6 o_.Counter, .i6 o_.AfterReplica, .i6 o_.AfterCounter, .string o_.Line] 33]] fr w := S
       refine dv_nx trivial ?_
       refine dv_et ok1 7 rfl (ev_move rfl) F rfl fun a F=>?_
       refine dv_et ok1 8 rfl (ev_extract rfl rfl) F rfl fun a F=>?_
       refine dv_et ok1 9 rfl (ev_extract rfl rfl) F rfl fun a F=>?_
       refine dv_op ok1 10 rfl [] ?_
       refine wl_alloc (wn rfl) rfl tz25 (cs := [.i6 0, .i6 0]) rfl F S rfl rfl ?_; clear F a S; rintro b3 a w F S
       refine dv_nx trivial ?_
       refine dv_et ok1 11 rfl (ev_assign rfl) F rfl fun a F=>?_
       refine dv_join (HJ _ _ ?_)
       replace S : St g3 [c6, [bx b3 #[.i6 0, .i6 0] 25], c1, [bx b2 #[.i6 y1.2.Code, .i6 y1.2.Index] 25], [bx b1 #[.bool o_.Delete, .i6 o_.Replica, .i6 o_.Counter, .i6 o_.AfterReplica, .i6 o_.AfterCounter, .string o_.Line] 33]] fr w := St.tail [c6, [bx b3 #[.i6 0, .i6 0] 25], c1, [bx b2 #[.i6 y1.2.Code, .i6 y1.2.Index] 25], [bx b1 #[.bool o_.Delete, .i6 o_.Replica, .i6 o_.Counter, .i6 o_.AfterReplica, .i6 o_.AfterCounter, .string o_.Line] 33]] _ (((((S.frontC 5 rfl).frontC 4 rfl).frontC 6 rfl).frontC 3 rfl).frontC 5 rfl)
       exact ⟨v6, b3, c6, g3, F.sub ⟨rfl, rfl, rfl, rfl, rfl, rfl, rfl, trivial⟩, (l2.trans l3), S, h7, hm⟩
      ·refine wl_alloc (wn rfl) rfl tz25 (cs := [.i6 0, .i6 0]) rfl F S rfl rfl ?_; clear F a S; rintro b3 a w F S
       refine dv_nx trivial ?_
       refine dv_op ok1 6 rfl [] ?_
       obtain ⟨g2, l2, S, h6⟩ : ∃ gz, Le g1 gz ∧ St gz [[bx b3 #[.i6 0, .i6 0] 25], c4, [bx b2 #[.i6 y1.2.Code, .i6 y1.2.Index] 25], c1, [bx b1 #[.bool o_.Delete, .i6 o_.Replica, .i6 o_.Counter, .i6 o_.AfterReplica, .i6 o_.AfterCounter, .string o_.Line] 33]] fr w ∧ RepSl gz y3 v5 := ⟨_, Le.add _ _, S.freeze 2 rfl, OwnS.freeze (S.front 2 rfl) h5⟩
       refine wl_call0 (wn rfl) rfl F rfl (sequence_Visible_ok (fr := (fl [[bx b3 #[.i6 0, .i6 0] 25], c4, [bx b2 #[.i6 y1.2.Code, .i6 y1.2.Index] 25], c1, [bx b1 #[.bool o_.Delete, .i6 o_.Replica, .i6 o_.Counter, .i6 o_.AfterReplica, .i6 o_.AfterCounter, .string o_.Line] 33]] fr)) y3 v5 h6 S hy4) rfl tc9 rfl rfl ?_; clear F a S
       rintro _ a w ⟨g3, v6, c6, l3, S, h7, rfl⟩ F; replace S : St g3 [c6, [bx b3 #[.i6 0, .i6 0] 25], c4, [bx b2 #[.i6 y1.2.Code, .i6 y1.2.Index] 25], c1, [bx b1 #[.bool o_.Delete, .i6 o_.Replica, .i6 o_.Counter, .i6 o_.AfterReplica, .i6 o_.AfterCounter, .string o_.Line] 33]] fr w := S
       refine dv_nx trivial ?_
       refine dv_et ok1 7 rfl (ev_move rfl) F rfl fun a F=>?_
       refine dv_et ok1 8 rfl (ev_extract rfl rfl) F rfl fun a F=>?_
       refine dv_et ok1 9 rfl (ev_extract rfl rfl) F rfl fun a F=>?_
       refine dv_et ok1 11 rfl (ev_assign rfl) F rfl fun a F=>?_
       refine dv_join (HJ _ _ ?_)
       replace S : St g3 [c6, [bx b3 #[.i6 0, .i6 0] 25], c1, [bx b2 #[.i6 y1.2.Code, .i6 y1.2.Index] 25], [bx b1 #[.bool o_.Delete, .i6 o_.Replica, .i6 o_.Counter, .i6 o_.AfterReplica, .i6 o_.AfterCounter, .string o_.Line] 33]] fr w := St.tail [c6, [bx b3 #[.i6 0, .i6 0] 25], c1, [bx b2 #[.i6 y1.2.Code, .i6 y1.2.Index] 25], [bx b1 #[.bool o_.Delete, .i6 o_.Replica, .i6 o_.Counter, .i6 o_.AfterReplica, .i6 o_.AfterCounter, .string o_.Line] 33]] _ (((((S.frontC 5 rfl).frontC 4 rfl).frontC 6 rfl).frontC 4 rfl).frontC 4 rfl)
       exact ⟨v6, b3, c6, g3, F.sub ⟨rfl, rfl, rfl, rfl, rfl, rfl, rfl, trivial⟩, (l2.trans l3), S, h7, hm⟩
     ·refine wl_alloc (wn rfl) rfl tz25 (cs := [.i6 0, .i6 0]) rfl F S rfl rfl ?_; clear F a S; rintro b3 a w F S
      refine dv_nx trivial ?_
      refine dv_op ok1 5 rfl [] ?_
      obtain ⟨cs2, hk2, hr2⟩ := OwnS.reads h4
      refine wl_append (wn rfl) rfl tu22 tu22 te33 (by decide) (by decide) F S rfl rfl (k := 2) rfl h3 hk2 rfl (hr2 _ _ _ 1 rfl S) hy3 rfl rfl ?_; clear F a S
      rintro v5 c5 a w h5 S F; replace S : St g1 [[bx b3 #[.i6 0, .i6 0] 25], c4, c5, [bx b2 #[.i6 y1.2.Code, .i6 y1.2.Index] 25], c1, [bx b1 #[.bool o_.Delete, .i6 o_.Replica, .i6 o_.Counter, .i6 o_.AfterReplica, .i6 o_.AfterCounter, .string o_.Line] 33]] fr w := S
      refine dv_nx trivial ?_
      refine dv_op ok1 6 rfl [] ?_
      obtain ⟨g2, l2, S, h6⟩ : ∃ gz, Le g1 gz ∧ St gz [[bx b3 #[.i6 0, .i6 0] 25], c4, [bx b2 #[.i6 y1.2.Code, .i6 y1.2.Index] 25], c1, [bx b1 #[.bool o_.Delete, .i6 o_.Replica, .i6 o_.Counter, .i6 o_.AfterReplica, .i6 o_.AfterCounter, .string o_.Line] 33]] fr w ∧ RepSl gz y3 v5 := ⟨_, Le.add _ _, S.freeze 2 rfl, OwnS.freeze (S.front 2 rfl) h5⟩
      refine wl_call0 (wn rfl) rfl F rfl (sequence_Visible_ok (fr := (fl [[bx b3 #[.i6 0, .i6 0] 25], c4, [bx b2 #[.i6 y1.2.Code, .i6 y1.2.Index] 25], c1, [bx b1 #[.bool o_.Delete, .i6 o_.Replica, .i6 o_.Counter, .i6 o_.AfterReplica, .i6 o_.AfterCounter, .string o_.Line] 33]] fr)) y3 v5 h6 S hy4) rfl tc9 rfl rfl ?_; clear F a S
      rintro _ a w ⟨g3, v6, c6, l3, S, h7, rfl⟩ F; replace S : St g3 [c6, [bx b3 #[.i6 0, .i6 0] 25], c4, [bx b2 #[.i6 y1.2.Code, .i6 y1.2.Index] 25], c1, [bx b1 #[.bool o_.Delete, .i6 o_.Replica, .i6 o_.Counter, .i6 o_.AfterReplica, .i6 o_.AfterCounter, .string o_.Line] 33]] fr w := S
      refine dv_nx trivial ?_
      refine dv_et ok1 7 rfl (ev_move rfl) F rfl fun a F=>?_
      refine dv_et ok1 8 rfl (ev_extract rfl rfl) F rfl fun a F=>?_
      refine dv_et ok1 9 rfl (ev_extract rfl rfl) F rfl fun a F=>?_
      refine dv_et ok1 11 rfl (ev_assign rfl) F rfl fun a F=>?_
      refine dv_join (HJ _ _ ?_)
      replace S : St g3 [c6, [bx b3 #[.i6 0, .i6 0] 25], c1, [bx b2 #[.i6 y1.2.Code, .i6 y1.2.Index] 25], [bx b1 #[.bool o_.Delete, .i6 o_.Replica, .i6 o_.Counter, .i6 o_.AfterReplica, .i6 o_.AfterCounter, .string o_.Line] 33]] fr w := St.tail [c6, [bx b3 #[.i6 0, .i6 0] 25], c1, [bx b2 #[.i6 y1.2.Code, .i6 y1.2.Index] 25], [bx b1 #[.bool o_.Delete, .i6 o_.Replica, .i6 o_.Counter, .i6 o_.AfterReplica, .i6 o_.AfterCounter, .string o_.Line] 33]] _ (((((S.frontC 5 rfl).frontC 4 rfl).frontC 6 rfl).frontC 4 rfl).frontC 4 rfl)
      exact ⟨v6, b3, c6, g3, F.sub ⟨rfl, rfl, rfl, rfl, rfl, rfl, rfl, trivial⟩, (l2.trans l3), S, h7, hm⟩
    ·refine wl_alloc (wn rfl) rfl tz25 (cs := [.i6 0, .i6 0]) rfl F S rfl rfl ?_; clear F a S; rintro b3 a w F S
     refine dv_nx ⟨yl_ev rfl rfl (ev_loadA tu33 rfl (cs := [.bool o_.Delete, .i6 o_.Replica, .i6 o_.Counter, .i6 o_.AfterReplica, .i6 o_.AfterCounter, .string o_.Line]) ts33 rfl (box_ptr (cells := [.bool o_.Delete, .i6 o_.Replica, .i6 o_.Counter, .i6 o_.AfterReplica, .i6 o_.AfterCounter, .string o_.Line]) 4 rfl 0 rfl (lb rfl))) F S, trivial⟩ ?_
     refine dv_op ok1 4 rfl [] ?_
     refine wl_lit (l := ([o_] : List SeqOp)) (vs := [.agg #[.bool o_.Delete, .i6 o_.Replica, .i6 o_.Counter, .i6 o_.AfterReplica, .i6 o_.AfterCounter, .string o_.Line]]) (parts := [(0, .tmp 20)]) (wn rfl) rfl rfl rfl tu22 te33 (sz_cons rfl sz_nil) rfl (Cat.cons (rep_SeqOp_mk (x := o_) ) (Cat.nil _)) (coa_cons rfl coa_nil) rfl F S rfl rfl ?_; clear F a S
     rintro v4 c4 a w h4 F S
     refine dv_nx trivial ?_
     refine dv_op ok1 5 rfl [] ?_
     obtain ⟨cs2, hk2, hr2⟩ := OwnS.reads h4
     refine wl_append (wn rfl) rfl tu22 tu22 te33 (by decide) (by decide) F S rfl rfl (k := 2) rfl h3 hk2 rfl (hr2 _ _ _ 0 rfl S) hy3 rfl rfl ?_; clear F a S
     rintro v5 c5 a w h5 S F; replace S : St g1 [c4, [bx b3 #[.i6 0, .i6 0] 25], c5, [bx b2 #[.i6 y1.2.Code, .i6 y1.2.Index] 25], c1, [bx b1 #[.bool o_.Delete, .i6 o_.Replica, .i6 o_.Counter, .i6 o_.AfterReplica, .i6 o_.AfterCounter, .string o_.Line] 33]] fr w := S
     refine dv_nx trivial ?_
     refine dv_op ok1 6 rfl [] ?_
     obtain ⟨g2, l2, S, h6⟩ : ∃ gz, Le g1 gz ∧ St gz [c4, [bx b3 #[.i6 0, .i6 0] 25], [bx b2 #[.i6 y1.2.Code, .i6 y1.2.Index] 25], c1, [bx b1 #[.bool o_.Delete, .i6 o_.Replica, .i6 o_.Counter, .i6 o_.AfterReplica, .i6 o_.AfterCounter, .string o_.Line] 33]] fr w ∧ RepSl gz y3 v5 := ⟨_, Le.add _ _, S.freeze 2 rfl, OwnS.freeze (S.front 2 rfl) h5⟩
     refine wl_call0 (wn rfl) rfl F rfl (sequence_Visible_ok (fr := (fl [c4, [bx b3 #[.i6 0, .i6 0] 25], [bx b2 #[.i6 y1.2.Code, .i6 y1.2.Index] 25], c1, [bx b1 #[.bool o_.Delete, .i6 o_.Replica, .i6 o_.Counter, .i6 o_.AfterReplica, .i6 o_.AfterCounter, .string o_.Line] 33]] fr)) y3 v5 h6 S hy4) rfl tc9 rfl rfl ?_; clear F a S
     rintro _ a w ⟨g3, v6, c6, l3, S, h7, rfl⟩ F; replace S : St g3 [c6, c4, [bx b3 #[.i6 0, .i6 0] 25], [bx b2 #[.i6 y1.2.Code, .i6 y1.2.Index] 25], c1, [bx b1 #[.bool o_.Delete, .i6 o_.Replica, .i6 o_.Counter, .i6 o_.AfterReplica, .i6 o_.AfterCounter, .string o_.Line] 33]] fr w := S
     refine dv_nx trivial ?_
     refine dv_et ok1 7 rfl (ev_move rfl) F rfl fun a F=>?_
     refine dv_et ok1 8 rfl (ev_extract rfl rfl) F rfl fun a F=>?_
     refine dv_et ok1 9 rfl (ev_extract rfl rfl) F rfl fun a F=>?_
     refine dv_et ok1 11 rfl (ev_assign rfl) F rfl fun a F=>?_
     refine dv_join (HJ _ _ ?_)
     replace S : St g3 [c6, [bx b3 #[.i6 0, .i6 0] 25], c1, [bx b2 #[.i6 y1.2.Code, .i6 y1.2.Index] 25], [bx b1 #[.bool o_.Delete, .i6 o_.Replica, .i6 o_.Counter, .i6 o_.AfterReplica, .i6 o_.AfterCounter, .string o_.Line] 33]] fr w := St.tail [c6, [bx b3 #[.i6 0, .i6 0] 25], c1, [bx b2 #[.i6 y1.2.Code, .i6 y1.2.Index] 25], [bx b1 #[.bool o_.Delete, .i6 o_.Replica, .i6 o_.Counter, .i6 o_.AfterReplica, .i6 o_.AfterCounter, .string o_.Line] 33]] _ (((((S.frontC 5 rfl).frontC 4 rfl).frontC 6 rfl).frontC 5 rfl).frontC 4 rfl)
     exact ⟨v6, b3, c6, g3, F.sub ⟨rfl, rfl, rfl, rfl, rfl, rfl, rfl, trivial⟩, (l2.trans l3), S, h7, hm⟩
   ·refine wl_lit (l := ([o_] : List SeqOp)) (vs := [.agg #[.bool o_.Delete, .i6 o_.Replica, .i6 o_.Counter, .i6 o_.AfterReplica, .i6 o_.AfterCounter, .string o_.Line]]) (parts := [(0, .tmp 20)]) (wn rfl) rfl rfl rfl tu22 te33 (sz_cons rfl sz_nil) rfl (Cat.cons (rep_SeqOp_mk (x := o_) ) (Cat.nil _)) (coa_cons rfl coa_nil) rfl F S rfl rfl ?_; clear F a S
    rintro v4 c4 a w h4 F S
    refine dv_nx trivial ?_
    refine dv_fork ok1 2 [10] (fk 2 rfl [] ?_ (fk 10 rfl [] ?_ trivial))
    ·obtain ⟨cs1, hk1, hr1⟩ := RepSl.reads (ha_1.mono l1)
     refine wl_append (wn rfl) rfl tu22 tu22 te33 (by decide) (by decide) F S rfl rfl (k := 1) rfl h2 hk1 rfl (hr1 _ _ S) hy2 rfl rfl ?_; clear F a S
     rintro v3 c3 a w h3 S F; replace S : St g1 [c4, c3, [bx b2 #[.i6 y1.2.Code, .i6 y1.2.Index] 25], c1, [bx b1 #[.bool o_.Delete, .i6 o_.Replica, .i6 o_.Counter, .i6 o_.AfterReplica, .i6 o_.AfterCounter, .string o_.Line] 33]] fr w := S
     refine dv_nx trivial ?_
     refine dv_fork ok1 5 [10] (fk 5 rfl [] ?_ (fk 10 rfl [] ?_ trivial))
     ·obtain ⟨cs2, hk2, hr2⟩ := OwnS.reads h4
      refine wl_append (wn rfl) rfl tu22 tu22 te33 (by decide) (by decide) F S rfl rfl (k := 1) rfl h3 hk2 rfl (hr2 _ _ _ 0 rfl S) hy3 rfl rfl ?_; clear F a S
      rintro v5 c5 a w h5 S F; replace S : St g1 [c4, c5, [bx b2 #[.i6 y1.2.Code, .i6 y1.2.Index] 25], c1, [bx b1 #[.bool o_.Delete, .i6 o_.Replica, .i6 o_.Counter, .i6 o_.AfterReplica, .i6 o_.AfterCounter, .string o_.Line] 33]] fr w := S
      refine dv_nx trivial ?_
      refine dv_fork ok1 6 [10] (fk 6 rfl [] ?_ (fk 10 rfl [] ?_ trivial))
      ·obtain ⟨g2, l2, S, h6⟩ : ∃ gz, Le g1 gz ∧ St gz [c4, [bx b2 #[.i6 y1.2.Code, .i6 y1.2.Index] 25], c1, [bx b1 #[.bool o_.Delete, .i6 o_.Replica, .i6 o_.Counter, .i6 o_.AfterReplica, .i6 o_.AfterCounter, .string o_.Line] 33]] fr w ∧ RepSl gz y3 v5 := ⟨_, Le.add _ _, S.freeze 1 rfl, OwnS.freeze (S.front 1 rfl) h5⟩
       refine wl_call0 (wn rfl) rfl F rfl (sequence_Visible_ok (fr := (fl [c4, [bx b2 #[.i6 y1.2.Code, .i6 y1.2.Index] 25], c1, [bx b1 #[.bool o_.Delete, .i6 o_.Replica, .i6 o_.Counter, .i6 o_.AfterReplica, .i6 o_.AfterCounter, .string o_.Line] 33]] fr)) y3 v5 h6 S hy4) rfl tc9 rfl rfl ?_; clear F a S
       rintro _ a w ⟨g3, v6, c6, l3, S, h7, rfl⟩ F; replace S : St g3 [c6, c4, [bx b2 #[.i6 y1.2.Code, .i6 y1.2.Index] 25], c1, [bx b1 #[.bool o_.Delete, .i6 o_.Replica, .i6 o_.Counter, .i6 o_.AfterReplica, .i6 o_.AfterCounter, .string o_.Line] 33]] fr w := S
       refine dv_nx trivial ?_
       refine dv_et ok1 7 rfl (ev_move rfl) F rfl fun a F=>?_
       refine dv_et ok1 8 rfl (ev_extract rfl rfl) F rfl fun a F=>?_
       refine dv_et ok1 9 rfl (ev_extract rfl rfl) F rfl fun a F=>?_
       refine dv_op ok1 10 rfl [] ?_
       refine wl_alloc (wn rfl) rfl tz25 (cs := [.i6 0, .i6 0]) rfl F S rfl rfl ?_; clear F a S; rintro b3 a w F S
       refine dv_nx trivial ?_
       refine dv_et ok1 11 rfl (ev_assign rfl) F rfl fun a F=>?_
       refine dv_join (HJ _ _ ?_)
       replace S : St g3 [c6, [bx b3 #[.i6 0, .i6 0] 25], c1, [bx b2 #[.i6 y1.2.Code, .i6 y1.2.Index] 25], [bx b1 #[.bool o_.Delete, .i6 o_.Replica, .i6 o_.Counter, .i6 o_.AfterReplica, .i6 o_.AfterCounter, .string o_.Line] 33]] fr w := St.tail [c6, [bx b3 #[.i6 0, .i6 0] 25], c1, [bx b2 #[.i6 y1.2.Code, .i6 y1.2.Index] 25], [bx b1 #[.bool o_.Delete, .i6 o_.Replica, .i6 o_.Counter, .i6 o_.AfterReplica, .i6 o_.AfterCounter, .string o_.Line] 33]] _ (((((S.frontC 5 rfl).frontC 4 rfl).frontC 6 rfl).frontC 3 rfl).frontC 5 rfl)
       exact ⟨v6, b3, c6, g3, F.sub ⟨rfl, rfl, rfl, rfl, rfl, rfl, rfl, trivial⟩, (l2.trans l3), S, h7, hm⟩
      ·refine wl_alloc (wn rfl) rfl tz25 (cs := [.i6 0, .i6 0]) rfl F S rfl rfl ?_; clear F a S; rintro b3 a w F S
       refine dv_nx trivial ?_
       refine dv_op ok1 6 rfl [] ?_
       obtain ⟨g2, l2, S, h6⟩ : ∃ gz, Le g1 gz ∧ St gz [[bx b3 #[.i6 0, .i6 0] 25], c4, [bx b2 #[.i6 y1.2.Code, .i6 y1.2.Index] 25], c1, [bx b1 #[.bool o_.Delete, .i6 o_.Replica, .i6 o_.Counter, .i6 o_.AfterReplica, .i6 o_.AfterCounter, .string o_.Line] 33]] fr w ∧ RepSl gz y3 v5 := ⟨_, Le.add _ _, S.freeze 2 rfl, OwnS.freeze (S.front 2 rfl) h5⟩
       refine wl_call0 (wn rfl) rfl F rfl (sequence_Visible_ok (fr := (fl [[bx b3 #[.i6 0, .i6 0] 25], c4, [bx b2 #[.i6 y1.2.Code, .i6 y1.2.Index] 25], c1, [bx b1 #[.bool o_.Delete, .i6 o_.Replica, .i6 o_.Counter, .i6 o_.AfterReplica, .i6 o_.AfterCounter, .string o_.Line] 33]] fr)) y3 v5 h6 S hy4) rfl tc9 rfl rfl ?_; clear F a S
       rintro _ a w ⟨g3, v6, c6, l3, S, h7, rfl⟩ F; replace S : St g3 [c6, [bx b3 #[.i6 0, .i6 0] 25], c4, [bx b2 #[.i6 y1.2.Code, .i6 y1.2.Index] 25], c1, [bx b1 #[.bool o_.Delete, .i6 o_.Replica, .i6 o_.Counter, .i6 o_.AfterReplica, .i6 o_.AfterCounter, .string o_.Line] 33]] fr w := S
       refine dv_nx trivial ?_
       refine dv_et ok1 7 rfl (ev_move rfl) F rfl fun a F=>?_
       refine dv_et ok1 8 rfl (ev_extract rfl rfl) F rfl fun a F=>?_
       refine dv_et ok1 9 rfl (ev_extract rfl rfl) F rfl fun a F=>?_
       refine dv_et ok1 11 rfl (ev_assign rfl) F rfl fun a F=>?_
       refine dv_join (HJ _ _ ?_)
       replace S : St g3 [c6, [bx b3 #[.i6 0, .i6 0] 25], c1, [bx b2 #[.i6 y1.2.Code, .i6 y1.2.Index] 25], [bx b1 #[.bool o_.Delete, .i6 o_.Replica, .i6 o_.Counter, .i6 o_.AfterReplica, .i6 o_.AfterCounter, .string o_.Line] 33]] fr w := St.tail [c6, [bx b3 #[.i6 0, .i6 0] 25], c1, [bx b2 #[.i6 y1.2.Code, .i6 y1.2.Index] 25], [bx b1 #[.bool o_.Delete, .i6 o_.Replica, .i6 o_.Counter, .i6 o_.AfterReplica, .i6 o_.AfterCounter, .string o_.Line] 33]] _ (((((S.frontC 5 rfl).frontC 4 rfl).frontC 6 rfl).frontC 4 rfl).frontC 4 rfl)
       exact ⟨v6, b3, c6, g3, F.sub ⟨rfl, rfl, rfl, rfl, rfl, rfl, rfl, trivial⟩, (l2.trans l3), S, h7, hm⟩
     ·refine wl_alloc (wn rfl) rfl tz25 (cs := [.i6 0, .i6 0]) rfl F S rfl rfl ?_; clear F a S; rintro b3 a w F S
      refine dv_nx trivial ?_
      refine dv_op ok1 5 rfl [] ?_
      obtain ⟨cs2, hk2, hr2⟩ := OwnS.reads h4
      refine wl_append (wn rfl) rfl tu22 tu22 te33 (by decide) (by decide) F S rfl rfl (k := 2) rfl h3 hk2 rfl (hr2 _ _ _ 1 rfl S) hy3 rfl rfl ?_; clear F a S
      rintro v5 c5 a w h5 S F; replace S : St g1 [[bx b3 #[.i6 0, .i6 0] 25], c4, c5, [bx b2 #[.i6 y1.2.Code, .i6 y1.2.Index] 25], c1, [bx b1 #[.bool o_.Delete, .i6 o_.Replica, .i6 o_.Counter, .i6 o_.AfterReplica, .i6 o_.AfterCounter, .string o_.Line] 33]] fr w := S
      refine dv_nx trivial ?_
      refine dv_op ok1 6 rfl [] ?_
      obtain ⟨g2, l2, S, h6⟩ : ∃ gz, Le g1 gz ∧ St gz [[bx b3 #[.i6 0, .i6 0] 25], c4, [bx b2 #[.i6 y1.2.Code, .i6 y1.2.Index] 25], c1, [bx b1 #[.bool o_.Delete, .i6 o_.Replica, .i6 o_.Counter, .i6 o_.AfterReplica, .i6 o_.AfterCounter, .string o_.Line] 33]] fr w ∧ RepSl gz y3 v5 := ⟨_, Le.add _ _, S.freeze 2 rfl, OwnS.freeze (S.front 2 rfl) h5⟩
      refine wl_call0 (wn rfl) rfl F rfl (sequence_Visible_ok (fr := (fl [[bx b3 #[.i6 0, .i6 0] 25], c4, [bx b2 #[.i6 y1.2.Code, .i6 y1.2.Index] 25], c1, [bx b1 #[.bool o_.Delete, .i6 o_.Replica, .i6 o_.Counter, .i6 o_.AfterReplica, .i6 o_.AfterCounter, .string o_.Line] 33]] fr)) y3 v5 h6 S hy4) rfl tc9 rfl rfl ?_; clear F a S
      rintro _ a w ⟨g3, v6, c6, l3, S, h7, rfl⟩ F; replace S : St g3 [c6, [bx b3 #[.i6 0, .i6 0] 25], c4, [bx b2 #[.i6 y1.2.Code, .i6 y1.2.Index] 25], c1, [bx b1 #[.bool o_.Delete, .i6 o_.Replica, .i6 o_.Counter, .i6 o_.AfterReplica, .i6 o_.AfterCounter, .string o_.Line] 33]] fr w := S
      refine dv_nx trivial ?_
      refine dv_et ok1 7 rfl (ev_move rfl) F rfl fun a F=>?_
      refine dv_et ok1 8 rfl (ev_extract rfl rfl) F rfl fun a F=>?_
      refine dv_et ok1 9 rfl (ev_extract rfl rfl) F rfl fun a F=>?_
      refine dv_et ok1 11 rfl (ev_assign rfl) F rfl fun a F=>?_
      refine dv_join (HJ _ _ ?_)
      replace S : St g3 [c6, [bx b3 #[.i6 0, .i6 0] 25], c1, [bx b2 #[.i6 y1.2.Code, .i6 y1.2.Index] 25], [bx b1 #[.bool o_.Delete, .i6 o_.Replica, .i6 o_.Counter, .i6 o_.AfterReplica, .i6 o_.AfterCounter, .string o_.Line] 33]] fr w := St.tail [c6, [bx b3 #[.i6 0, .i6 0] 25], c1, [bx b2 #[.i6 y1.2.Code, .i6 y1.2.Index] 25], [bx b1 #[.bool o_.Delete, .i6 o_.Replica, .i6 o_.Counter, .i6 o_.AfterReplica, .i6 o_.AfterCounter, .string o_.Line] 33]] _ (((((S.frontC 5 rfl).frontC 4 rfl).frontC 6 rfl).frontC 4 rfl).frontC 4 rfl)
      exact ⟨v6, b3, c6, g3, F.sub ⟨rfl, rfl, rfl, rfl, rfl, rfl, rfl, trivial⟩, (l2.trans l3), S, h7, hm⟩
    ·refine wl_alloc (wn rfl) rfl tz25 (cs := [.i6 0, .i6 0]) rfl F S rfl rfl ?_; clear F a S; rintro b3 a w F S
     refine dv_nx trivial ?_
     refine dv_op ok1 2 rfl [] ?_
     obtain ⟨cs1, hk1, hr1⟩ := RepSl.reads (ha_1.mono l1)
     refine wl_append (wn rfl) rfl tu22 tu22 te33 (by decide) (by decide) F S rfl rfl (k := 2) rfl h2 hk1 rfl (hr1 _ _ S) hy2 rfl rfl ?_; clear F a S
     rintro v3 c3 a w h3 S F; replace S : St g1 [[bx b3 #[.i6 0, .i6 0] 25], c4, c3, [bx b2 #[.i6 y1.2.Code, .i6 y1.2.Index] 25], c1, [bx b1 #[.bool o_.Delete, .i6 o_.Replica, .i6 o_.Counter, .i6 o_.AfterReplica, .i6 o_.AfterCounter, .string o_.Line] 33]] fr w := S
     refine dv_nx trivial ?_
     refine dv_op ok1 5 rfl [] ?_
     obtain ⟨cs2, hk2, hr2⟩ := OwnS.reads h4
     refine wl_append (wn rfl) rfl tu22 tu22 te33 (by decide) (by decide) F S rfl rfl (k := 2) rfl h3 hk2 rfl (hr2 _ _ _ 1 rfl S) hy3 rfl rfl ?_; clear F a S
     rintro v5 c5 a w h5 S F; replace S : St g1 [[bx b3 #[.i6 0, .i6 0] 25], c4, c5, [bx b2 #[.i6 y1.2.Code, .i6 y1.2.Index] 25], c1, [bx b1 #[.bool o_.Delete, .i6 o_.Replica, .i6 o_.Counter, .i6 o_.AfterReplica, .i6 o_.AfterCounter, .string o_.Line] 33]] fr w := S
     refine dv_nx trivial ?_
     refine dv_op ok1 6 rfl [] ?_
     obtain ⟨g2, l2, S, h6⟩ : ∃ gz, Le g1 gz ∧ St gz [[bx b3 #[.i6 0, .i6 0] 25], c4, [bx b2 #[.i6 y1.2.Code, .i6 y1.2.Index] 25], c1, [bx b1 #[.bool o_.Delete, .i6 o_.Replica, .i6 o_.Counter, .i6 o_.AfterReplica, .i6 o_.AfterCounter, .string o_.Line] 33]] fr w ∧ RepSl gz y3 v5 := ⟨_, Le.add _ _, S.freeze 2 rfl, OwnS.freeze (S.front 2 rfl) h5⟩
     refine wl_call0 (wn rfl) rfl F rfl (sequence_Visible_ok (fr := (fl [[bx b3 #[.i6 0, .i6 0] 25], c4, [bx b2 #[.i6 y1.2.Code, .i6 y1.2.Index] 25], c1, [bx b1 #[.bool o_.Delete, .i6 o_.Replica, .i6 o_.Counter, .i6 o_.AfterReplica, .i6 o_.AfterCounter, .string o_.Line] 33]] fr)) y3 v5 h6 S hy4) rfl tc9 rfl rfl ?_; clear F a S
     rintro _ a w ⟨g3, v6, c6, l3, S, h7, rfl⟩ F; replace S : St g3 [c6, [bx b3 #[.i6 0, .i6 0] 25], c4, [bx b2 #[.i6 y1.2.Code, .i6 y1.2.Index] 25], c1, [bx b1 #[.bool o_.Delete, .i6 o_.Replica, .i6 o_.Counter, .i6 o_.AfterReplica, .i6 o_.AfterCounter, .string o_.Line] 33]] fr w := S
     refine dv_nx trivial ?_
     refine dv_et ok1 7 rfl (ev_move rfl) F rfl fun a F=>?_
     refine dv_et ok1 8 rfl (ev_extract rfl rfl) F rfl fun a F=>?_
     refine dv_et ok1 9 rfl (ev_extract rfl rfl) F rfl fun a F=>?_
     refine dv_et ok1 11 rfl (ev_assign rfl) F rfl fun a F=>?_
     refine dv_join (HJ _ _ ?_)
     replace S : St g3 [c6, [bx b3 #[.i6 0, .i6 0] 25], c1, [bx b2 #[.i6 y1.2.Code, .i6 y1.2.Index] 25], [bx b1 #[.bool o_.Delete, .i6 o_.Replica, .i6 o_.Counter, .i6 o_.AfterReplica, .i6 o_.AfterCounter, .string o_.Line] 33]] fr w := St.tail [c6, [bx b3 #[.i6 0, .i6 0] 25], c1, [bx b2 #[.i6 y1.2.Code, .i6 y1.2.Index] 25], [bx b1 #[.bool o_.Delete, .i6 o_.Replica, .i6 o_.Counter, .i6 o_.AfterReplica, .i6 o_.AfterCounter, .string o_.Line] 33]] _ (((((S.frontC 5 rfl).frontC 4 rfl).frontC 6 rfl).frontC 4 rfl).frontC 4 rfl)
     exact ⟨v6, b3, c6, g3, F.sub ⟨rfl, rfl, rfl, rfl, rfl, rfl, rfl, trivial⟩, (l2.trans l3), S, h7, hm⟩
   ·refine wl_alloc (wn rfl) rfl tz25 (cs := [.i6 0, .i6 0]) rfl F S rfl rfl ?_; clear F a S; rintro b3 a w F S
    refine dv_nx ⟨yl_ev rfl rfl (ev_loadA tu33 rfl (cs := [.bool o_.Delete, .i6 o_.Replica, .i6 o_.Counter, .i6 o_.AfterReplica, .i6 o_.AfterCounter, .string o_.Line]) ts33 rfl (box_ptr (cells := [.bool o_.Delete, .i6 o_.Replica, .i6 o_.Counter, .i6 o_.AfterReplica, .i6 o_.AfterCounter, .string o_.Line]) 4 rfl 0 rfl (lb rfl))) F S, trivial⟩ ?_
    refine dv_fork ok1 2 [4] (fk 2 rfl [(3, .agg #[.bool o_.Delete, .i6 o_.Replica, .i6 o_.Counter, .i6 o_.AfterReplica, .i6 o_.AfterCounter, .string o_.Line])] ?_ (fk 4 rfl [] ?_ trivial))
    ·obtain ⟨cs1, hk1, hr1⟩ := RepSl.reads (ha_1.mono l1)
     refine wl_append (wn rfl) rfl tu22 tu22 te33 (by decide) (by decide) F S rfl rfl (k := 1) rfl h2 hk1 rfl (hr1 _ _ S) hy2 rfl rfl ?_; clear F a S
     rintro v3 c3 a w h3 S F; replace S : St g1 [[bx b3 #[.i6 0, .i6 0] 25], c3, [bx b2 #[.i6 y1.2.Code, .i6 y1.2.Index] 25], c1, [bx b1 #[.bool o_.Delete, .i6 o_.Replica, .i6 o_.Counter, .i6 o_.AfterReplica, .i6 o_.AfterCounter, .string o_.Line] 33]] fr w := S
     refine dv_nx ⟨yl_ev rfl rfl (ev_loadA tu33 rfl (cs := [.bool o_.Delete, .i6 o_.Replica, .i6 o_.Counter, .i6 o_.AfterReplica, .i6 o_.AfterCounter, .string o_.Line]) ts33 rfl (box_ptr (cells := [.bool o_.Delete, .i6 o_.Replica, .i6 o_.Counter, .i6 o_.AfterReplica, .i6 o_.AfterCounter, .string o_.Line]) 4 rfl 0 rfl (lb rfl))) F S, trivial⟩ ?_
     refine dv_op ok1 4 rfl [] ?_
     refine wl_lit (l := ([o_] : List SeqOp)) (vs := [.agg #[.bool o_.Delete, .i6 o_.Replica, .i6 o_.Counter, .i6 o_.AfterReplica, .i6 o_.AfterCounter, .string o_.Line]]) (parts := [(0, .tmp 20)]) (wn rfl) rfl rfl rfl tu22 te33 (sz_cons rfl sz_nil) rfl (Cat.cons (rep_SeqOp_mk (x := o_) ) (Cat.nil _)) (coa_cons rfl coa_nil) rfl F S rfl rfl ?_; clear F a S
     rintro v4 c4 a w h4 F S
     refine dv_nx trivial ?_
     refine dv_op ok1 5 rfl [] ?_
     obtain ⟨cs2, hk2, hr2⟩ := OwnS.reads h4
     refine wl_append (wn rfl) rfl tu22 tu22 te33 (by decide) (by decide) F S rfl rfl (k := 2) rfl h3 hk2 rfl (hr2 _ _ _ 0 rfl S) hy3 rfl rfl ?_; clear F a S
     rintro v5 c5 a w h5 S F; replace S : St g1 [c4, [bx b3 #[.i6 0, .i6 0] 25], c5, [bx b2 #[.i6 y1.2.Code, .i6 y1.2.Index] 25], c1, [bx b1 #[.bool o_.Delete, .i6 o_.Replica, .i6 o_.Counter, .i6 o_.AfterReplica, .i6 o_.AfterCounter, .string o_.Line] 33]] fr w := S
     refine dv_nx trivial ?_
     refine dv_op ok1 6 rfl [] ?_
     obtain ⟨g2, l2, S, h6⟩ : ∃ gz, Le g1 gz ∧ St gz [c4, [bx b3 #[.i6 0, .i6 0] 25], [bx b2 #[.i6 y1.2.Code, .i6 y1.2.Index] 25], c1, [bx b1 #[.bool o_.Delete, .i6 o_.Replica, .i6 o_.Counter, .i6 o_.AfterReplica, .i6 o_.AfterCounter, .string o_.Line] 33]] fr w ∧ RepSl gz y3 v5 := ⟨_, Le.add _ _, S.freeze 2 rfl, OwnS.freeze (S.front 2 rfl) h5⟩
     refine wl_call0 (wn rfl) rfl F rfl (sequence_Visible_ok (fr := (fl [c4, [bx b3 #[.i6 0, .i6 0] 25], [bx b2 #[.i6 y1.2.Code, .i6 y1.2.Index] 25], c1, [bx b1 #[.bool o_.Delete, .i6 o_.Replica, .i6 o_.Counter, .i6 o_.AfterReplica, .i6 o_.AfterCounter, .string o_.Line] 33]] fr)) y3 v5 h6 S hy4) rfl tc9 rfl rfl ?_; clear F a S
     rintro _ a w ⟨g3, v6, c6, l3, S, h7, rfl⟩ F; replace S : St g3 [c6, c4, [bx b3 #[.i6 0, .i6 0] 25], [bx b2 #[.i6 y1.2.Code, .i6 y1.2.Index] 25], c1, [bx b1 #[.bool o_.Delete, .i6 o_.Replica, .i6 o_.Counter, .i6 o_.AfterReplica, .i6 o_.AfterCounter, .string o_.Line] 33]] fr w := S
     refine dv_nx trivial ?_
     refine dv_et ok1 7 rfl (ev_move rfl) F rfl fun a F=>?_
     refine dv_et ok1 8 rfl (ev_extract rfl rfl) F rfl fun a F=>?_
     refine dv_et ok1 9 rfl (ev_extract rfl rfl) F rfl fun a F=>?_
     refine dv_et ok1 11 rfl (ev_assign rfl) F rfl fun a F=>?_
     refine dv_join (HJ _ _ ?_)
     replace S : St g3 [c6, [bx b3 #[.i6 0, .i6 0] 25], c1, [bx b2 #[.i6 y1.2.Code, .i6 y1.2.Index] 25], [bx b1 #[.bool o_.Delete, .i6 o_.Replica, .i6 o_.Counter, .i6 o_.AfterReplica, .i6 o_.AfterCounter, .string o_.Line] 33]] fr w := St.tail [c6, [bx b3 #[.i6 0, .i6 0] 25], c1, [bx b2 #[.i6 y1.2.Code, .i6 y1.2.Index] 25], [bx b1 #[.bool o_.Delete, .i6 o_.Replica, .i6 o_.Counter, .i6 o_.AfterReplica, .i6 o_.AfterCounter, .string o_.Line] 33]] _ (((((S.frontC 5 rfl).frontC 4 rfl).frontC 6 rfl).frontC 5 rfl).frontC 4 rfl)
     exact ⟨v6, b3, c6, g3, F.sub ⟨rfl, rfl, rfl, rfl, rfl, rfl, rfl, trivial⟩, (l2.trans l3), S, h7, hm⟩
    ·refine wl_lit (l := ([o_] : List SeqOp)) (vs := [.agg #[.bool o_.Delete, .i6 o_.Replica, .i6 o_.Counter, .i6 o_.AfterReplica, .i6 o_.AfterCounter, .string o_.Line]]) (parts := [(0, .tmp 20)]) (wn rfl) rfl rfl rfl tu22 te33 (sz_cons rfl sz_nil) rfl (Cat.cons (rep_SeqOp_mk (x := o_) ) (Cat.nil _)) (coa_cons rfl coa_nil) rfl F S rfl rfl ?_; clear F a S
     rintro v4 c4 a w h4 F S
     refine dv_nx trivial ?_
     refine dv_op ok1 2 rfl [] ?_
     obtain ⟨cs1, hk1, hr1⟩ := RepSl.reads (ha_1.mono l1)
     refine wl_append (wn rfl) rfl tu22 tu22 te33 (by decide) (by decide) F S rfl rfl (k := 2) rfl h2 hk1 rfl (hr1 _ _ S) hy2 rfl rfl ?_; clear F a S
     rintro v3 c3 a w h3 S F; replace S : St g1 [c4, [bx b3 #[.i6 0, .i6 0] 25], c3, [bx b2 #[.i6 y1.2.Code, .i6 y1.2.Index] 25], c1, [bx b1 #[.bool o_.Delete, .i6 o_.Replica, .i6 o_.Counter, .i6 o_.AfterReplica, .i6 o_.AfterCounter, .string o_.Line] 33]] fr w := S
     refine dv_nx trivial ?_
     refine dv_op ok1 5 rfl [] ?_
     obtain ⟨cs2, hk2, hr2⟩ := OwnS.reads h4
     refine wl_append (wn rfl) rfl tu22 tu22 te33 (by decide) (by decide) F S rfl rfl (k := 2) rfl h3 hk2 rfl (hr2 _ _ _ 0 rfl S) hy3 rfl rfl ?_; clear F a S
     rintro v5 c5 a w h5 S F; replace S : St g1 [c4, [bx b3 #[.i6 0, .i6 0] 25], c5, [bx b2 #[.i6 y1.2.Code, .i6 y1.2.Index] 25], c1, [bx b1 #[.bool o_.Delete, .i6 o_.Replica, .i6 o_.Counter, .i6 o_.AfterReplica, .i6 o_.AfterCounter, .string o_.Line] 33]] fr w := S
     refine dv_nx trivial ?_
     refine dv_op ok1 6 rfl [] ?_
     obtain ⟨g2, l2, S, h6⟩ : ∃ gz, Le g1 gz ∧ St gz [c4, [bx b3 #[.i6 0, .i6 0] 25], [bx b2 #[.i6 y1.2.Code, .i6 y1.2.Index] 25], c1, [bx b1 #[.bool o_.Delete, .i6 o_.Replica, .i6 o_.Counter, .i6 o_.AfterReplica, .i6 o_.AfterCounter, .string o_.Line] 33]] fr w ∧ RepSl gz y3 v5 := ⟨_, Le.add _ _, S.freeze 2 rfl, OwnS.freeze (S.front 2 rfl) h5⟩
     refine wl_call0 (wn rfl) rfl F rfl (sequence_Visible_ok (fr := (fl [c4, [bx b3 #[.i6 0, .i6 0] 25], [bx b2 #[.i6 y1.2.Code, .i6 y1.2.Index] 25], c1, [bx b1 #[.bool o_.Delete, .i6 o_.Replica, .i6 o_.Counter, .i6 o_.AfterReplica, .i6 o_.AfterCounter, .string o_.Line] 33]] fr)) y3 v5 h6 S hy4) rfl tc9 rfl rfl ?_; clear F a S
     rintro _ a w ⟨g3, v6, c6, l3, S, h7, rfl⟩ F; replace S : St g3 [c6, c4, [bx b3 #[.i6 0, .i6 0] 25], [bx b2 #[.i6 y1.2.Code, .i6 y1.2.Index] 25], c1, [bx b1 #[.bool o_.Delete, .i6 o_.Replica, .i6 o_.Counter, .i6 o_.AfterReplica, .i6 o_.AfterCounter, .string o_.Line] 33]] fr w := S
     refine dv_nx trivial ?_
     refine dv_et ok1 7 rfl (ev_move rfl) F rfl fun a F=>?_
     refine dv_et ok1 8 rfl (ev_extract rfl rfl) F rfl fun a F=>?_
     refine dv_et ok1 9 rfl (ev_extract rfl rfl) F rfl fun a F=>?_
     refine dv_et ok1 11 rfl (ev_assign rfl) F rfl fun a F=>?_
     refine dv_join (HJ _ _ ?_)
     replace S : St g3 [c6, [bx b3 #[.i6 0, .i6 0] 25], c1, [bx b2 #[.i6 y1.2.Code, .i6 y1.2.Index] 25], [bx b1 #[.bool o_.Delete, .i6 o_.Replica, .i6 o_.Counter, .i6 o_.AfterReplica, .i6 o_.AfterCounter, .string o_.Line] 33]] fr w := St.tail [c6, [bx b3 #[.i6 0, .i6 0] 25], c1, [bx b2 #[.i6 y1.2.Code, .i6 y1.2.Index] 25], [bx b1 #[.bool o_.Delete, .i6 o_.Replica, .i6 o_.Counter, .i6 o_.AfterReplica, .i6 o_.AfterCounter, .string o_.Line] 33]] _ (((((S.frontC 5 rfl).frontC 4 rfl).frontC 6 rfl).frontC 5 rfl).frontC 4 rfl)
     exact ⟨v6, b3, c6, g3, F.sub ⟨rfl, rfl, rfl, rfl, rfl, rfl, rfl, trivial⟩, (l2.trans l3), S, h7, hm⟩
  ·refine wl_lit (l := ([o_] : List SeqOp)) (vs := [.agg #[.bool o_.Delete, .i6 o_.Replica, .i6 o_.Counter, .i6 o_.AfterReplica, .i6 o_.AfterCounter, .string o_.Line]]) (parts := [(0, .tmp 20)]) (wn rfl) rfl rfl rfl tu22 te33 (sz_cons rfl sz_nil) rfl (Cat.cons (rep_SeqOp_mk (x := o_) ) (Cat.nil _)) (coa_cons rfl coa_nil) rfl F S rfl rfl ?_; clear F a S
   rintro v4 c4 a w h4 F S
   refine dv_nx trivial ?_
   refine dv_fork ok1 0 [10] (fk 0 rfl [] ?_ (fk 10 rfl [] ?_ trivial))
   ·refine wl_lit (l := ([] : List SeqOp)) (vs := []) (parts := []) (wn rfl) rfl rfl rfl tu22 te33 sz_nil rfl (Cat.nil _) coa_nil rfl F S rfl rfl ?_; clear F a S
    rintro v2 c2 a w h2 F S
    refine dv_nx trivial ?_
    refine dv_fork ok1 2 [10] (fk 2 rfl [] ?_ (fk 10 rfl [] ?_ trivial))
    ·obtain ⟨cs1, hk1, hr1⟩ := RepSl.reads (ha_1.mono l1)
     refine wl_append (wn rfl) rfl tu22 tu22 te33 (by decide) (by decide) F S rfl rfl (k := 0) rfl h2 hk1 rfl (hr1 _ _ S) hy2 rfl rfl ?_; clear F a S
     rintro v3 c3 a w h3 S F; replace S : St g1 [c3, c4, [bx b2 #[.i6 y1.2.Code, .i6 y1.2.Index] 25], c1, [bx b1 #[.bool o_.Delete, .i6 o_.Replica, .i6 o_.Counter, .i6 o_.AfterReplica, .i6 o_.AfterCounter, .string o_.Line] 33]] fr w := S
     refine dv_nx trivial ?_
     refine dv_fork ok1 5 [10] (fk 5 rfl [] ?_ (fk 10 rfl [] ?_ trivial))
     ·obtain ⟨cs2, hk2, hr2⟩ := OwnS.reads h4
      refine wl_append (wn rfl) rfl tu22 tu22 te33 (by decide) (by decide) F S rfl rfl (k := 0) rfl h3 hk2 rfl (hr2 _ _ _ 1 rfl S) hy3 rfl rfl ?_; clear F a S
      rintro v5 c5 a w h5 S F; replace S : St g1 [c5, c4, [bx b2 #[.i6 y1.2.Code, .i6 y1.2.Index] 25], c1, [bx b1 #[.bool o_.Delete, .i6 o_.Replica, .i6 o_.Counter, .i6 o_.AfterReplica, .i6 o_.AfterCounter, .string o_.Line] 33]] fr w := S
      refine dv_nx trivial ?_
      refine dv_fork ok1 6 [10] (fk 6 rfl [] ?_ (fk 10 rfl [] ?_ trivial))
      ·obtain ⟨g2, l2, S, h6⟩ : ∃ gz, Le g1 gz ∧ St gz [c4, [bx b2 #[.i6 y1.2.Code, .i6 y1.2.Index] 25], c1, [bx b1 #[.bool o_.Delete, .i6 o_.Replica, .i6 o_.Counter, .i6 o_.AfterReplica, .i6 o_.AfterCounter, .string o_.Line] 33]] fr w ∧ RepSl gz y3 v5 := ⟨_, Le.add _ _, S.freeze 0 rfl, OwnS.freeze (S.front 0 rfl) h5⟩
       refine wl_call0 (wn rfl) rfl F rfl (sequence_Visible_ok (fr := (fl [c4, [bx b2 #[.i6 y1.2.Code, .i6 y1.2.Index] 25], c1, [bx b1 #[.bool o_.Delete, .i6 o_.Replica, .i6 o_.Counter, .i6 o_.AfterReplica, .i6 o_.AfterCounter, .string o_.Line] 33]] fr)) y3 v5 h6 S hy4) rfl tc9 rfl rfl ?_; clear F a S
       rintro _ a w ⟨g3, v6, c6, l3, S, h7, rfl⟩ F; replace S : St g3 [c6, c4, [bx b2 #[.i6 y1.2.Code, .i6 y1.2.Index] 25], c1, [bx b1 #[.bool o_.Delete, .i6 o_.Replica, .i6 o_.Counter, .i6 o_.AfterReplica, .i6 o_.AfterCounter, .string o_.Line] 33]] fr w := S
       refine dv_nx trivial ?_
       refine dv_et ok1 7 rfl (ev_move rfl) F rfl fun a F=>?_
       refine dv_et ok1 8 rfl (ev_extract rfl rfl) F rfl fun a F=>?_
       refine dv_et ok1 9 rfl (ev_extract rfl rfl) F rfl fun a F=>?_
       refine dv_op ok1 10 rfl [] ?_
       refine wl_alloc (wn rfl) rfl tz25 (cs := [.i6 0, .i6 0]) rfl F S rfl rfl ?_; clear F a S; rintro b3 a w F S
       refine dv_nx trivial ?_
       refine dv_et ok1 11 rfl (ev_assign rfl) F rfl fun a F=>?_
       refine dv_join (HJ _ _ ?_)
       replace S : St g3 [c6, [bx b3 #[.i6 0, .i6 0] 25], c1, [bx b2 #[.i6 y1.2.Code, .i6 y1.2.Index] 25], [bx b1 #[.bool o_.Delete, .i6 o_.Replica, .i6 o_.Counter, .i6 o_.AfterReplica, .i6 o_.AfterCounter, .string o_.Line] 33]] fr w := St.tail [c6, [bx b3 #[.i6 0, .i6 0] 25], c1, [bx b2 #[.i6 y1.2.Code, .i6 y1.2.Index] 25], [bx b1 #[.bool o_.Delete, .i6 o_.Replica, .i6 o_.Counter, .i6 o_.AfterReplica, .i6 o_.AfterCounter, .string o_.Line] 33]] _ (((((S.frontC 5 rfl).frontC 4 rfl).frontC 6 rfl).frontC 3 rfl).frontC 5 rfl)
       exact ⟨v6, b3, c6, g3, F.sub ⟨rfl, rfl, rfl, rfl, rfl, rfl, rfl, trivial⟩, (l2.trans l3), S, h7, hm⟩
      ·refine wl_alloc (wn rfl) rfl tz25 (cs := [.i6 0, .i6 0]) rfl F S rfl rfl ?_; clear F a S; rintro b3 a w F S
       refine dv_nx trivial ?_
       refine dv_op ok1 6 rfl [] ?_
       obtain ⟨g2, l2, S, h6⟩ : ∃ gz, Le g1 gz ∧ St gz [[bx b3 #[.i6 0, .i6 0] 25], c4, [bx b2 #[.i6 y1.2.Code, .i6 y1.2.Index] 25], c1, [bx b1 #[.bool o_.Delete, .i6 o_.Replica, .i6 o_.Counter, .i6 o_.AfterReplica, .i6 o_.AfterCounter, .string o_.Line] 33]] fr w ∧ RepSl gz y3 v5 := ⟨_, Le.add _ _, S.freeze 1 rfl, OwnS.freeze (S.front 1 rfl) h5⟩
       refine wl_call0 (wn rfl) rfl F rfl (sequence_Visible_ok (fr := (fl [[bx b3 #[.i6 0, .i6 0] 25], c4, [bx b2 #[.i6 y1.2.Code, .i6 y1.2.Index] 25], c1, [bx b1 #[.bool o_.Delete, .i6 o_.Replica, .i6 o_.Counter, .i6 o_.AfterReplica, .i6 o_.AfterCounter, .string o_.Line] 33]] fr)) y3 v5 h6 S hy4) rfl tc9 rfl rfl ?_; clear F a S
       rintro _ a w ⟨g3, v6, c6, l3, S, h7, rfl⟩ F; replace S : St g3 [c6, [bx b3 #[.i6 0, .i6 0] 25], c4, [bx b2 #[.i6 y1.2.Code, .i6 y1.2.Index] 25], c1, [bx b1 #[.bool o_.Delete, .i6 o_.Replica, .i6 o_.Counter, .i6 o_.AfterReplica, .i6 o_.AfterCounter, .string o_.Line] 33]] fr w := S
       refine dv_nx trivial ?_
       refine dv_et ok1 7 rfl (ev_move rfl) F rfl fun a F=>?_
       refine dv_et ok1 8 rfl (ev_extract rfl rfl) F rfl fun a F=>?_
       refine dv_et ok1 9 rfl (ev_extract rfl rfl) F rfl fun a F=>?_
       refine dv_et ok1 11 rfl (ev_assign rfl) F rfl fun a F=>?_
       refine dv_join (HJ _ _ ?_)
       replace S : St g3 [c6, [bx b3 #[.i6 0, .i6 0] 25], c1, [bx b2 #[.i6 y1.2.Code, .i6 y1.2.Index] 25], [bx b1 #[.bool o_.Delete, .i6 o_.Replica, .i6 o_.Counter, .i6 o_.AfterReplica, .i6 o_.AfterCounter, .string o_.Line] 33]] fr w := St.tail [c6, [bx b3 #[.i6 0, .i6 0] 25], c1, [bx b2 #[.i6 y1.2.Code, .i6 y1.2.Index] 25], [bx b1 #[.bool o_.Delete, .i6 o_.Replica, .i6 o_.Counter, .i6 o_.AfterReplica, .i6 o_.AfterCounter, .string o_.Line] 33]] _ (((((S.frontC 5 rfl).frontC 4 rfl).frontC 6 rfl).frontC 4 rfl).frontC 4 rfl)
       exact ⟨v6, b3, c6, g3, F.sub ⟨rfl, rfl, rfl, rfl, rfl, rfl, rfl, trivial⟩, (l2.trans l3), S, h7, hm⟩
     ·refine wl_alloc (wn rfl) rfl tz25 (cs := [.i6 0, .i6 0]) rfl F S rfl rfl ?_; clear F a S; rintro b3 a w F S
      refine dv_nx trivial ?_
      refine dv_op ok1 5 rfl [] ?_
      obtain ⟨cs2, hk2, hr2⟩ := OwnS.reads h4
      refine wl_append (wn rfl) rfl tu22 tu22 te33 (by decide) (by decide) F S rfl rfl (k := 1) rfl h3 hk2 rfl (hr2 _ _ _ 2 rfl S) hy3 rfl rfl ?_; clear F a S
      rintro v5 c5 a w h5 S F; replace S : St g1 [[bx b3 #[.i6 0, .i6 0] 25], c5, c4, [bx b2 #[.i6 y1.2.Code, .i6 y1.2.Index] 25], c1, [bx b1 #[.bool o_.Delete, .i6 o_.Replica, .i6 o_.Counter, .i6 o_.AfterReplica, .i6 o_.AfterCounter, .string o_.Line] 33]] fr w := S
      refine dv_nx trivial ?_
      refine dv_op ok1 6 rfl [] ?_
      obtain ⟨g2, l2, S, h6⟩ : ∃ gz, Le g1 gz ∧ St gz [[bx b3 #[.i6 0, .i6 0] 25], c4, [bx b2 #[.i6 y1.2.Code, .i6 y1.2.Index] 25], c1, [bx b1 #[.bool o_.Delete, .i6 o_.Replica, .i6 o_.Counter, .i6 o_.AfterReplica, .i6 o_.AfterCounter, .string o_.Line] 33]] fr w ∧ RepSl gz y3 v5 := ⟨_, Le.add _ _, S.freeze 1 rfl, OwnS.freeze (S.front 1 rfl) h5⟩
      refine wl_call0 (wn rfl) rfl F rfl (sequence_Visible_ok (fr := (fl [[bx b3 #[.i6 0, .i6 0] 25], c4, [bx b2 #[.i6 y1.2.Code, .i6 y1.2.Index] 25], c1, [bx b1 #[.bool o_.Delete, .i6 o_.Replica, .i6 o_.Counter, .i6 o_.AfterReplica, .i6 o_.AfterCounter, .string o_.Line] 33]] fr)) y3 v5 h6 S hy4) rfl tc9 rfl rfl ?_; clear F a S
      rintro _ a w ⟨g3, v6, c6, l3, S, h7, rfl⟩ F; replace S : St g3 [c6, [bx b3 #[.i6 0, .i6 0] 25], c4, [bx b2 #[.i6 y1.2.Code, .i6 y1.2.Index] 25], c1, [bx b1 #[.bool o_.Delete, .i6 o_.Replica, .i6 o_.Counter, .i6 o_.AfterReplica, .i6 o_.AfterCounter, .string o_.Line] 33]] fr w := S
      refine dv_nx trivial ?_
      refine dv_et ok1 7 rfl (ev_move rfl) F rfl fun a F=>?_
      refine dv_et ok1 8 rfl (ev_extract rfl rfl) F rfl fun a F=>?_
      refine dv_et ok1 9 rfl (ev_extract rfl rfl) F rfl fun a F=>?_
      refine dv_et ok1 11 rfl (ev_assign rfl) F rfl fun a F=>?_
      refine dv_join (HJ _ _ ?_)
      replace S : St g3 [c6, [bx b3 #[.i6 0, .i6 0] 25], c1, [bx b2 #[.i6 y1.2.Code, .i6 y1.2.Index] 25], [bx b1 #[.bool o_.Delete, .i6 o_.Replica, .i6 o_.Counter, .i6 o_.AfterReplica, .i6 o_.AfterCounter, .string o_.Line] 33]] fr w := St.tail [c6, [bx b3 #[.i6 0, .i6 0] 25], c1, [bx b2 #[.i6 y1.2.Code, .i6 y1.2.Index] 25], [bx b1 #[.bool o_.Delete, .i6 o_.Replica, .i6 o_.Counter, .i6 o_.AfterReplica, .i6 o_.AfterCounter, .string o_.Line] 33]] _ (((((S.frontC 5 rfl).frontC 4 rfl).frontC 6 rfl).frontC 4 rfl).frontC 4 rfl)
      exact ⟨v6, b3, c6, g3, F.sub ⟨rfl, rfl, rfl, rfl, rfl, rfl, rfl, trivial⟩, (l2.trans l3), S, h7, hm⟩
    ·refine wl_alloc (wn rfl) rfl tz25 (cs := [.i6 0, .i6 0]) rfl F S rfl rfl ?_; clear F a S; rintro b3 a w F S
     refine dv_nx trivial ?_
     refine dv_op ok1 2 rfl [] ?_
     obtain ⟨cs1, hk1, hr1⟩ := RepSl.reads (ha_1.mono l1)
     refine wl_append (wn rfl) rfl tu22 tu22 te33 (by decide) (by decide) F S rfl rfl (k := 1) rfl h2 hk1 rfl (hr1 _ _ S) hy2 rfl rfl ?_; clear F a S
     rintro v3 c3 a w h3 S F; replace S : St g1 [[bx b3 #[.i6 0, .i6 0] 25], c3, c4, [bx b2 #[.i6 y1.2.Code, .i6 y1.2.Index] 25], c1, [bx b1 #[.bool o_.Delete, .i6 o_.Replica, .i6 o_.Counter, .i6 o_.AfterReplica, .i6 o_.AfterCounter, .string o_.Line] 33]] fr w := S
     refine dv_nx trivial ?_
     refine dv_op ok1 5 rfl [] ?_
     obtain ⟨cs2, hk2, hr2⟩ := OwnS.reads h4
     refine wl_append (wn rfl) rfl tu22 tu22 te33 (by decide) (by decide) F S rfl rfl (k := 1) rfl h3 hk2 rfl (hr2 _ _ _ 2 rfl S) hy3 rfl rfl ?_; clear F a S
     rintro v5 c5 a w h5 S F; replace S : St g1 [[bx b3 #[.i6 0, .i6 0] 25], c5, c4, [bx b2 #[.i6 y1.2.Code, .i6 y1.2.Index] 25], c1, [bx b1 #[.bool o_.Delete, .i6 o_.Replica, .i6 o_.Counter, .i6 o_.AfterReplica, .i6 o_.AfterCounter, .string o_.Line] 33]] fr w := S
     refine dv_nx trivial ?_
     refine dv_op ok1 6 rfl [] ?_
     obtain ⟨g2, l2, S, h6⟩ : ∃ gz, Le g1 gz ∧ St gz [[bx b3 #[.i6 0, .i6 0] 25], c4, [bx b2 #[.i6 y1.2.Code, .i6 y1.2.Index] 25], c1, [bx b1 #[.bool o_.Delete, .i6 o_.Replica, .i6 o_.Counter, .i6 o_.AfterReplica, .i6 o_.AfterCounter, .string o_.Line] 33]] fr w ∧ RepSl gz y3 v5 := ⟨_, Le.add _ _, S.freeze 1 rfl, OwnS.freeze (S.front 1 rfl) h5⟩
     refine wl_call0 (wn rfl) rfl F rfl (sequence_Visible_ok (fr := (fl [[bx b3 #[.i6 0, .i6 0] 25], c4, [bx b2 #[.i6 y1.2.Code, .i6 y1.2.Index] 25], c1, [bx b1 #[.bool o_.Delete, .i6 o_.Replica, .i6 o_.Counter, .i6 o_.AfterReplica, .i6 o_.AfterCounter, .string o_.Line] 33]] fr)) y3 v5 h6 S hy4) rfl tc9 rfl rfl ?_; clear F a S
     rintro _ a w ⟨g3, v6, c6, l3, S, h7, rfl⟩ F; replace S : St g3 [c6, [bx b3 #[.i6 0, .i6 0] 25], c4, [bx b2 #[.i6 y1.2.Code, .i6 y1.2.Index] 25], c1, [bx b1 #[.bool o_.Delete, .i6 o_.Replica, .i6 o_.Counter, .i6 o_.AfterReplica, .i6 o_.AfterCounter, .string o_.Line] 33]] fr w := S
     refine dv_nx trivial ?_
     refine dv_et ok1 7 rfl (ev_move rfl) F rfl fun a F=>?_
     refine dv_et ok1 8 rfl (ev_extract rfl rfl) F rfl fun a F=>?_
     refine dv_et ok1 9 rfl (ev_extract rfl rfl) F rfl fun a F=>?_
     refine dv_et ok1 11 rfl (ev_assign rfl) F rfl fun a F=>?_
     refine dv_join (HJ _ _ ?_)
     replace S : St g3 [c6, [bx b3 #[.i6 0, .i6 0] 25], c1, [bx b2 #[.i6 y1.2.Code, .i6 y1.2.Index] 25], [bx b1 #[.bool o_.Delete, .i6 o_.Replica, .i6 o_.Counter, .i6 o_.AfterReplica, .i6 o_.AfterCounter, .string o_.Line] 33]] fr w := St.tail [c6, [bx b3 #[.i6 0, .i6 0] 25], c1, [bx b2 #[.i6 y1.2.Code, .i6 y1.2.Index] 25], [bx b1 #[.bool o_.Delete, .i6 o_.Replica, .i6 o_.Counter, .i6 o_.AfterReplica, .i6 o_.AfterCounter, .string o_.Line] 33]] _ (((((S.frontC 5 rfl).frontC 4 rfl).frontC 6 rfl).frontC 4 rfl).frontC 4 rfl)
     exact ⟨v6, b3, c6, g3, F.sub ⟨rfl, rfl, rfl, rfl, rfl, rfl, rfl, trivial⟩, (l2.trans l3), S, h7, hm⟩
   ·refine wl_alloc (wn rfl) rfl tz25 (cs := [.i6 0, .i6 0]) rfl F S rfl rfl ?_; clear F a S; rintro b3 a w F S
    refine dv_nx trivial ?_
    refine dv_op ok1 0 rfl [] ?_
    refine wl_lit (l := ([] : List SeqOp)) (vs := []) (parts := []) (wn rfl) rfl rfl rfl tu22 te33 sz_nil rfl (Cat.nil _) coa_nil rfl F S rfl rfl ?_; clear F a S
    rintro v2 c2 a w h2 F S
    refine dv_nx trivial ?_
    refine dv_op ok1 2 rfl [] ?_
    obtain ⟨cs1, hk1, hr1⟩ := RepSl.reads (ha_1.mono l1)
    refine wl_append (wn rfl) rfl tu22 tu22 te33 (by decide) (by decide) F S rfl rfl (k := 0) rfl h2 hk1 rfl (hr1 _ _ S) hy2 rfl rfl ?_; clear F a S
    rintro v3 c3 a w h3 S F; replace S : St g1 [c3, [bx b3 #[.i6 0, .i6 0] 25], c4, [bx b2 #[.i6 y1.2.Code, .i6 y1.2.Index] 25], c1, [bx b1 #[.bool o_.Delete, .i6 o_.Replica, .i6 o_.Counter, .i6 o_.AfterReplica, .i6 o_.AfterCounter, .string o_.Line] 33]] fr w := S
    refine dv_nx trivial ?_
    refine dv_op ok1 5 rfl [] ?_
    obtain ⟨cs2, hk2, hr2⟩ := OwnS.reads h4
    refine wl_append (wn rfl) rfl tu22 tu22 te33 (by decide) (by decide) F S rfl rfl (k := 0) rfl h3 hk2 rfl (hr2 _ _ _ 2 rfl S) hy3 rfl rfl ?_; clear F a S
    rintro v5 c5 a w h5 S F; replace S : St g1 [c5, [bx b3 #[.i6 0, .i6 0] 25], c4, [bx b2 #[.i6 y1.2.Code, .i6 y1.2.Index] 25], c1, [bx b1 #[.bool o_.Delete, .i6 o_.Replica, .i6 o_.Counter, .i6 o_.AfterReplica, .i6 o_.AfterCounter, .string o_.Line] 33]] fr w := S
    refine dv_nx trivial ?_
    refine dv_op ok1 6 rfl [] ?_
    obtain ⟨g2, l2, S, h6⟩ : ∃ gz, Le g1 gz ∧ St gz [[bx b3 #[.i6 0, .i6 0] 25], c4, [bx b2 #[.i6 y1.2.Code, .i6 y1.2.Index] 25], c1, [bx b1 #[.bool o_.Delete, .i6 o_.Replica, .i6 o_.Counter, .i6 o_.AfterReplica, .i6 o_.AfterCounter, .string o_.Line] 33]] fr w ∧ RepSl gz y3 v5 := ⟨_, Le.add _ _, S.freeze 0 rfl, OwnS.freeze (S.front 0 rfl) h5⟩
    refine wl_call0 (wn rfl) rfl F rfl (sequence_Visible_ok (fr := (fl [[bx b3 #[.i6 0, .i6 0] 25], c4, [bx b2 #[.i6 y1.2.Code, .i6 y1.2.Index] 25], c1, [bx b1 #[.bool o_.Delete, .i6 o_.Replica, .i6 o_.Counter, .i6 o_.AfterReplica, .i6 o_.AfterCounter, .string o_.Line] 33]] fr)) y3 v5 h6 S hy4) rfl tc9 rfl rfl ?_; clear F a S
    rintro _ a w ⟨g3, v6, c6, l3, S, h7, rfl⟩ F; replace S : St g3 [c6, [bx b3 #[.i6 0, .i6 0] 25], c4, [bx b2 #[.i6 y1.2.Code, .i6 y1.2.Index] 25], c1, [bx b1 #[.bool o_.Delete, .i6 o_.Replica, .i6 o_.Counter, .i6 o_.AfterReplica, .i6 o_.AfterCounter, .string o_.Line] 33]] fr w := S
    refine dv_nx trivial ?_
    refine dv_et ok1 7 rfl (ev_move rfl) F rfl fun a F=>?_
    refine dv_et ok1 8 rfl (ev_extract rfl rfl) F rfl fun a F=>?_
    refine dv_et ok1 9 rfl (ev_extract rfl rfl) F rfl fun a F=>?_
    refine dv_et ok1 11 rfl (ev_assign rfl) F rfl fun a F=>?_
    refine dv_join (HJ _ _ ?_)
    replace S : St g3 [c6, [bx b3 #[.i6 0, .i6 0] 25], c1, [bx b2 #[.i6 y1.2.Code, .i6 y1.2.Index] 25], [bx b1 #[.bool o_.Delete, .i6 o_.Replica, .i6 o_.Counter, .i6 o_.AfterReplica, .i6 o_.AfterCounter, .string o_.Line] 33]] fr w := St.tail [c6, [bx b3 #[.i6 0, .i6 0] 25], c1, [bx b2 #[.i6 y1.2.Code, .i6 y1.2.Index] 25], [bx b1 #[.bool o_.Delete, .i6 o_.Replica, .i6 o_.Counter, .i6 o_.AfterReplica, .i6 o_.AfterCounter, .string o_.Line] 33]] _ (((((S.frontC 5 rfl).frontC 4 rfl).frontC 6 rfl).frontC 4 rfl).frontC 4 rfl)
    exact ⟨v6, b3, c6, g3, F.sub ⟨rfl, rfl, rfl, rfl, rfl, rfl, rfl, trivial⟩, (l2.trans l3), S, h7, hm⟩
  ·refine wl_alloc (wn rfl) rfl tz25 (cs := [.i6 0, .i6 0]) rfl F S rfl rfl ?_; clear F a S; rintro b3 a w F S
   refine dv_nx ⟨yl_ev rfl rfl (ev_loadA tu33 rfl (cs := [.bool o_.Delete, .i6 o_.Replica, .i6 o_.Counter, .i6 o_.AfterReplica, .i6 o_.AfterCounter, .string o_.Line]) ts33 rfl (box_ptr (cells := [.bool o_.Delete, .i6 o_.Replica, .i6 o_.Counter, .i6 o_.AfterReplica, .i6 o_.AfterCounter, .string o_.Line]) 3 rfl 0 rfl (lb rfl))) F S, trivial⟩ ?_
   refine dv_fork ok1 0 [4] (fk 0 rfl [(3, .agg #[.bool o_.Delete, .i6 o_.Replica, .i6 o_.Counter, .i6 o_.AfterReplica, .i6 o_.AfterCounter, .string o_.Line])] ?_ (fk 4 rfl [] ?_ trivial))
   ·refine wl_lit (l := ([] : List SeqOp)) (vs := []) (parts := []) (wn rfl) rfl rfl rfl tu22 te33 sz_nil rfl (Cat.nil _) coa_nil rfl F S rfl rfl ?_; clear F a S
    rintro v2 c2 a w h2 F S
    refine dv_nx ⟨yl_ev rfl rfl (ev_loadA tu33 rfl (cs := [.bool o_.Delete, .i6 o_.Replica, .i6 o_.Counter, .i6 o_.AfterReplica, .i6 o_.AfterCounter, .string o_.Line]) ts33 rfl (box_ptr (cells := [.bool o_.Delete, .i6 o_.Replica, .i6 o_.Counter, .i6 o_.AfterReplica, .i6 o_.AfterCounter, .string o_.Line]) 4 rfl 0 rfl (lb rfl))) F S, trivial⟩ ?_
    refine dv_fork ok1 2 [4] (fk 2 rfl [(3, .agg #[.bool o_.Delete, .i6 o_.Replica, .i6 o_.Counter, .i6 o_.AfterReplica, .i6 o_.AfterCounter, .string o_.Line])] ?_ (fk 4 rfl [] ?_ trivial))
    ·obtain ⟨cs1, hk1, hr1⟩ := RepSl.reads (ha_1.mono l1)
     refine wl_append (wn rfl) rfl tu22 tu22 te33 (by decide) (by decide) F S rfl rfl (k := 0) rfl h2 hk1 rfl (hr1 _ _ S) hy2 rfl rfl ?_; clear F a S
     rintro v3 c3 a w h3 S F; replace S : St g1 [c3, [bx b3 #[.i6 0, .i6 0] 25], [bx b2 #[.i6 y1.2.Code, .i6 y1.2.Index] 25], c1, [bx b1 #[.bool o_.Delete, .i6 o_.Replica, .i6 o_.Counter, .i6 o_.AfterReplica, .i6 o_.AfterCounter, .string o_.Line] 33]] fr w := S
     refine dv_nx ⟨yl_ev rfl rfl (ev_loadA tu33 rfl (cs := [.bool o_.Delete, .i6 o_.Replica, .i6 o_.Counter, .i6 o_.AfterReplica, .i6 o_.AfterCounter, .string o_.Line]) ts33 rfl (box_ptr (cells := [.bool o_.Delete, .i6 o_.Replica, .i6 o_.Counter, .i6 o_.AfterReplica, .i6 o_.AfterCounter, .string o_.Line]) 4 rfl 0 rfl (lb rfl))) F S, trivial⟩ ?_
     refine dv_op ok1 4 rfl [] ?_
     refine wl_lit (l := ([o_] : List SeqOp)) (vs := [.agg #[.bool o_.Delete, .i6 o_.Replica, .i6 o_.Counter, .i6 o_.AfterReplica, .i6 o_.AfterCounter, .string o_.Line]]) (parts := [(0, .tmp 20)]) (wn rfl) rfl rfl rfl tu22 te33 (sz_cons rfl sz_nil) rfl (Cat.cons (rep_SeqOp_mk (x := o_) ) (Cat.nil _)) (coa_cons rfl coa_nil) rfl F S rfl rfl ?_; clear F a S
     rintro v4 c4 a w h4 F S
     refine dv_nx trivial ?_
     refine dv_op ok1 5 rfl [] ?_
     obtain ⟨cs2, hk2, hr2⟩ := OwnS.reads h4
     refine wl_append (wn rfl) rfl tu22 tu22 te33 (by decide) (by decide) F S rfl rfl (k := 1) rfl h3 hk2 rfl (hr2 _ _ _ 0 rfl S) hy3 rfl rfl ?_; clear F a S
     rintro v5 c5 a w h5 S F; replace S : St g1 [c4, c5, [bx b3 #[.i6 0, .i6 0] 25], [bx b2 #[.i6 y1.2.Code, .i6 y1.2.Index] 25], c1, [bx b1 #[.bool o_.Delete, .i6 o_.Replica, .i6 o_.Counter, .i6 o_.AfterReplica, .i6 o_.AfterCounter, .string o_.Line] 33]] fr w := S
     refine dv_nx trivial ?_
     refine dv_op ok1 6 rfl [] ?_
     obtain ⟨g2, l2, S, h6⟩ : ∃ gz, Le g1 gz ∧ St gz [c4, [bx b3 #[.i6 0, .i6 0] 25], [bx b2 #[.i6 y1.2.Code, .i6 y1.2.Index] 25], c1, [bx b1 #[.bool o_.Delete, .i6 o_.Replica, .i6 o_.Counter, .i6 o_.AfterReplica, .i6 o_.AfterCounter, .string o_.Line] 33]] fr w ∧ RepSl gz y3 v5 := ⟨_, Le.add _ _, S.freeze 1 rfl, OwnS.freeze (S.front 1 rfl) h5⟩
     refine wl_call0 (wn rfl) rfl F rfl (sequence_Visible_ok (fr := (fl [c4, [bx b3 #[.i6 0, .i6 0] 25], [bx b2 #[.i6 y1.2.Code, .i6 y1.2.Index] 25], c1, [bx b1 #[.bool o_.Delete, .i6 o_.Replica, .i6 o_.Counter, .i6 o_.AfterReplica, .i6 o_.AfterCounter, .string o_.Line] 33]] fr)) y3 v5 h6 S hy4) rfl tc9 rfl rfl ?_; clear F a S
     rintro _ a w ⟨g3, v6, c6, l3, S, h7, rfl⟩ F; replace S : St g3 [c6, c4, [bx b3 #[.i6 0, .i6 0] 25], [bx b2 #[.i6 y1.2.Code, .i6 y1.2.Index] 25], c1, [bx b1 #[.bool o_.Delete, .i6 o_.Replica, .i6 o_.Counter, .i6 o_.AfterReplica, .i6 o_.AfterCounter, .string o_.Line] 33]] fr w := S
     refine dv_nx trivial ?_
     refine dv_et ok1 7 rfl (ev_move rfl) F rfl fun a F=>?_
     refine dv_et ok1 8 rfl (ev_extract rfl rfl) F rfl fun a F=>?_
     refine dv_et ok1 9 rfl (ev_extract rfl rfl) F rfl fun a F=>?_
     refine dv_et ok1 11 rfl (ev_assign rfl) F rfl fun a F=>?_
     refine dv_join (HJ _ _ ?_)
     replace S : St g3 [c6, [bx b3 #[.i6 0, .i6 0] 25], c1, [bx b2 #[.i6 y1.2.Code, .i6 y1.2.Index] 25], [bx b1 #[.bool o_.Delete, .i6 o_.Replica, .i6 o_.Counter, .i6 o_.AfterReplica, .i6 o_.AfterCounter, .string o_.Line] 33]] fr w := St.tail [c6, [bx b3 #[.i6 0, .i6 0] 25], c1, [bx b2 #[.i6 y1.2.Code, .i6 y1.2.Index] 25], [bx b1 #[.bool o_.Delete, .i6 o_.Replica, .i6 o_.Counter, .i6 o_.AfterReplica, .i6 o_.AfterCounter, .string o_.Line] 33]] _ (((((S.frontC 5 rfl).frontC 4 rfl).frontC 6 rfl).frontC 5 rfl).frontC 4 rfl)
     exact ⟨v6, b3, c6, g3, F.sub ⟨rfl, rfl, rfl, rfl, rfl, rfl, rfl, trivial⟩, (l2.trans l3), S, h7, hm⟩
    ·refine wl_lit (l := ([o_] : List SeqOp)) (vs := [.agg #[.bool o_.Delete, .i6 o_.Replica, .i6 o_.Counter, .i6 o_.AfterReplica, .i6 o_.AfterCounter, .string o_.Line]]) (parts := [(0, .tmp 20)]) (wn rfl) rfl rfl rfl tu22 te33 (sz_cons rfl sz_nil) rfl (Cat.cons (rep_SeqOp_mk (x := o_) ) (Cat.nil _)) (coa_cons rfl coa_nil) rfl F S rfl rfl ?_; clear F a S
     rintro v4 c4 a w h4 F S
     refine dv_nx trivial ?_
     refine dv_op ok1 2 rfl [] ?_
     obtain ⟨cs1, hk1, hr1⟩ := RepSl.reads (ha_1.mono l1)
     refine wl_append (wn rfl) rfl tu22 tu22 te33 (by decide) (by decide) F S rfl rfl (k := 1) rfl h2 hk1 rfl (hr1 _ _ S) hy2 rfl rfl ?_; clear F a S
     rintro v3 c3 a w h3 S F; replace S : St g1 [c4, c3, [bx b3 #[.i6 0, .i6 0] 25], [bx b2 #[.i6 y1.2.Code, .i6 y1.2.Index] 25], c1, [bx b1 #[.bool o_.Delete, .i6 o_.Replica, .i6 o_.Counter, .i6 o_.AfterReplica, .i6 o_.AfterCounter, .string o_.Line] 33]] fr w := S
     refine dv_nx trivial ?_
     refine dv_op ok1 5 rfl [] ?_
     obtain ⟨cs2, hk2, hr2⟩ := OwnS.reads h4
     refine wl_append (wn rfl) rfl tu22 tu22 te33 (by decide) (by decide) F S rfl rfl (k := 1) rfl h3 hk2 rfl (hr2 _ _ _ 0 rfl S) hy3 rfl rfl ?_; clear F a S
     rintro v5 c5 a w h5 S F; replace S : St g1 [c4, c5, [bx b3 #[.i6 0, .i6 0] 25], [bx b2 #[.i6 y1.2.Code, .i6 y1.2.Index] 25], c1, [bx b1 #[.bool o_.Delete, .i6 o_.Replica, .i6 o_.Counter, .i6 o_.AfterReplica, .i6 o_.AfterCounter, .string o_.Line] 33]] fr w := S
     refine dv_nx trivial ?_
     refine dv_op ok1 6 rfl [] ?_
     obtain ⟨g2, l2, S, h6⟩ : ∃ gz, Le g1 gz ∧ St gz [c4, [bx b3 #[.i6 0, .i6 0] 25], [bx b2 #[.i6 y1.2.Code, .i6 y1.2.Index] 25], c1, [bx b1 #[.bool o_.Delete, .i6 o_.Replica, .i6 o_.Counter, .i6 o_.AfterReplica, .i6 o_.AfterCounter, .string o_.Line] 33]] fr w ∧ RepSl gz y3 v5 := ⟨_, Le.add _ _, S.freeze 1 rfl, OwnS.freeze (S.front 1 rfl) h5⟩
     refine wl_call0 (wn rfl) rfl F rfl (sequence_Visible_ok (fr := (fl [c4, [bx b3 #[.i6 0, .i6 0] 25], [bx b2 #[.i6 y1.2.Code, .i6 y1.2.Index] 25], c1, [bx b1 #[.bool o_.Delete, .i6 o_.Replica, .i6 o_.Counter, .i6 o_.AfterReplica, .i6 o_.AfterCounter, .string o_.Line] 33]] fr)) y3 v5 h6 S hy4) rfl tc9 rfl rfl ?_; clear F a S
     rintro _ a w ⟨g3, v6, c6, l3, S, h7, rfl⟩ F; replace S : St g3 [c6, c4, [bx b3 #[.i6 0, .i6 0] 25], [bx b2 #[.i6 y1.2.Code, .i6 y1.2.Index] 25], c1, [bx b1 #[.bool o_.Delete, .i6 o_.Replica, .i6 o_.Counter, .i6 o_.AfterReplica, .i6 o_.AfterCounter, .string o_.Line] 33]] fr w := S
     refine dv_nx trivial ?_
     refine dv_et ok1 7 rfl (ev_move rfl) F rfl fun a F=>?_
     refine dv_et ok1 8 rfl (ev_extract rfl rfl) F rfl fun a F=>?_
     refine dv_et ok1 9 rfl (ev_extract rfl rfl) F rfl fun a F=>?_
     refine dv_et ok1 11 rfl (ev_assign rfl) F rfl fun a F=>?_
     refine dv_join (HJ _ _ ?_)
     replace S : St g3 [c6, [bx b3 #[.i6 0, .i6 0] 25], c1, [bx b2 #[.i6 y1.2.Code, .i6 y1.2.Index] 25], [bx b1 #[.bool o_.Delete, .i6 o_.Replica, .i6 o_.Counter, .i6 o_.AfterReplica, .i6 o_.AfterCounter, .string o_.Line] 33]] fr w := St.tail [c6, [bx b3 #[.i6 0, .i6 0] 25], c1, [bx b2 #[.i6 y1.2.Code, .i6 y1.2.Index] 25], [bx b1 #[.bool o_.Delete, .i6 o_.Replica, .i6 o_.Counter, .i6 o_.AfterReplica, .i6 o_.AfterCounter, .string o_.Line] 33]] _ (((((S.frontC 5 rfl).frontC 4 rfl).frontC 6 rfl).frontC 5 rfl).frontC 4 rfl)
     exact ⟨v6, b3, c6, g3, F.sub ⟨rfl, rfl, rfl, rfl, rfl, rfl, rfl, trivial⟩, (l2.trans l3), S, h7, hm⟩
   ·refine wl_lit (l := ([o_] : List SeqOp)) (vs := [.agg #[.bool o_.Delete, .i6 o_.Replica, .i6 o_.Counter, .i6 o_.AfterReplica, .i6 o_.AfterCounter, .string o_.Line]]) (parts := [(0, .tmp 20)]) (wn rfl) rfl rfl rfl tu22 te33 (sz_cons rfl sz_nil) rfl (Cat.cons (rep_SeqOp_mk (x := o_) ) (Cat.nil _)) (coa_cons rfl coa_nil) rfl F S rfl rfl ?_; clear F a S
    rintro v4 c4 a w h4 F S
    refine dv_nx trivial ?_
    refine dv_op ok1 0 rfl [] ?_
    refine wl_lit (l := ([] : List SeqOp)) (vs := []) (parts := []) (wn rfl) rfl rfl rfl tu22 te33 sz_nil rfl (Cat.nil _) coa_nil rfl F S rfl rfl ?_; clear F a S
    rintro v2 c2 a w h2 F S
    refine dv_nx trivial ?_
    refine dv_op ok1 2 rfl [] ?_
    obtain ⟨cs1, hk1, hr1⟩ := RepSl.reads (ha_1.mono l1)
    refine wl_append (wn rfl) rfl tu22 tu22 te33 (by decide) (by decide) F S rfl rfl (k := 0) rfl h2 hk1 rfl (hr1 _ _ S) hy2 rfl rfl ?_; clear F a S
    rintro v3 c3 a w h3 S F; replace S : St g1 [c3, c4, [bx b3 #[.i6 0, .i6 0] 25], [bx b2 #[.i6 y1.2.Code, .i6 y1.2.Index] 25], c1, [bx b1 #[.bool o_.Delete, .i6 o_.Replica, .i6 o_.Counter, .i6 o_.AfterReplica, .i6 o_.AfterCounter, .string o_.Line] 33]] fr w := S
    refine dv_nx trivial ?_
    refine dv_op ok1 5 rfl [] ?_
    obtain ⟨cs2, hk2, hr2⟩ := OwnS.reads h4
    refine wl_append (wn rfl) rfl tu22 tu22 te33 (by decide) (by decide) F S rfl rfl (k := 0) rfl h3 hk2 rfl (hr2 _ _ _ 1 rfl S) hy3 rfl rfl ?_; clear F a S
    rintro v5 c5 a w h5 S F; replace S : St g1 [c5, c4, [bx b3 #[.i6 0, .i6 0] 25], [bx b2 #[.i6 y1.2.Code, .i6 y1.2.Index] 25], c1, [bx b1 #[.bool o_.Delete, .i6 o_.Replica, .i6 o_.Counter, .i6 o_.AfterReplica, .i6 o_.AfterCounter, .string o_.Line] 33]] fr w := S
    refine dv_nx trivial ?_
    refine dv_op ok1 6 rfl [] ?_
    obtain ⟨g2, l2, S, h6⟩ : ∃ gz, Le g1 gz ∧ St gz [c4, [bx b3 #[.i6 0, .i6 0] 25], [bx b2 #[.i6 y1.2.Code, .i6 y1.2.Index] 25], c1, [bx b1 #[.bool o_.Delete, .i6 o_.Replica, .i6 o_.Counter, .i6 o_.AfterReplica, .i6 o_.AfterCounter, .string o_.Line] 33]] fr w ∧ RepSl gz y3 v5 := ⟨_, Le.add _ _, S.freeze 0 rfl, OwnS.freeze (S.front 0 rfl) h5⟩
    refine wl_call0 (wn rfl) rfl F rfl (sequence_Visible_ok (fr := (fl [c4, [bx b3 #[.i6 0, .i6 0] 25], [bx b2 #[.i6 y1.2.Code, .i6 y1.2.Index] 25], c1, [bx b1 #[.bool o_.Delete, .i6 o_.Replica, .i6 o_.Counter, .i6 o_.AfterReplica, .i6 o_.AfterCounter, .string o_.Line] 33]] fr)) y3 v5 h6 S hy4) rfl tc9 rfl rfl ?_; clear F a S
    rintro _ a w ⟨g3, v6, c6, l3, S, h7, rfl⟩ F; replace S : St g3 [c6, c4, [bx b3 #[.i6 0, .i6 0] 25], [bx b2 #[.i6 y1.2.Code, .i6 y1.2.Index] 25], c1, [bx b1 #[.bool o_.Delete, .i6 o_.Replica, .i6 o_.Counter, .i6 o_.AfterReplica, .i6 o_.AfterCounter, .string o_.Line] 33]] fr w := S
    refine dv_nx trivial ?_
    refine dv_et ok1 7 rfl (ev_move rfl) F rfl fun a F=>?_
    refine dv_et ok1 8 rfl (ev_extract rfl rfl) F rfl fun a F=>?_
    refine dv_et ok1 9 rfl (ev_extract rfl rfl) F rfl fun a F=>?_
    refine dv_et ok1 11 rfl (ev_assign rfl) F rfl fun a F=>?_
    refine dv_join (HJ _ _ ?_)
    replace S : St g3 [c6, [bx b3 #[.i6 0, .i6 0] 25], c1, [bx b2 #[.i6 y1.2.Code, .i6 y1.2.Index] 25], [bx b1 #[.bool o_.Delete, .i6 o_.Replica, .i6 o_.Counter, .i6 o_.AfterReplica, .i6 o_.AfterCounter, .string o_.Line] 33]] fr w := St.tail [c6, [bx b3 #[.i6 0, .i6 0] 25], c1, [bx b2 #[.i6 y1.2.Code, .i6 y1.2.Index] 25], [bx b1 #[.bool o_.Delete, .i6 o_.Replica, .i6 o_.Counter, .i6 o_.AfterReplica, .i6 o_.AfterCounter, .string o_.Line] 33]] _ (((((S.frontC 5 rfl).frontC 4 rfl).frontC 6 rfl).frontC 5 rfl).frontC 4 rfl)
    exact ⟨v6, b3, c6, g3, F.sub ⟨rfl, rfl, rfl, rfl, rfl, rfl, rfl, trivial⟩, (l2.trans l3), S, h7, hm⟩
 ·clear F S hm; rintro a w ⟨v7, b4, c7, g4, F, l4, S, h8, hm⟩
  refine dv_op ok1 12 rfl [] ?_
  refine wl_storeC (wn rfl) rfl F S rfl rfl (vs := [.i6 y4.2.Code, .i6 y4.2.Index]) rfl ts25 (one_cons rfl (one_cons rfl one_nil)) (k := 1) rfl (lb rfl) (c' := #[.i6 y4.2.Code, .i6 y4.2.Index]) rfl rfl ?_; clear S; intro w S
  refine dv_nx trivial ?_
  refine dv_fin ok1 ?_
  refine then_n ?_
  refine wp_seq ?_
  refine wp_seq ?_
  refine wp_region_lit ?_
  refine wE (ev_fieldAddr' tu25 tf25_0 (z := 0) ts3 rfl ⟨_, rfl⟩ rfl) F S rfl fun a F=>?_
  refine wE (ev_load1 tu3 rfl rfl (box_ptr (cells := [.i6 y1.2.Code]) 3 rfl 0 rfl (lb rfl))) F S rfl fun a F=>?_
  refine wE (ev_int rfl rfl (bo_neq _ _ _ _)) F S rfl fun a F=>?_
  refine wE (ev_move rfl) F S rfl fun a F=>?_
  obtain ⟨x2, hx1, hm⟩ := bind_some hm
  refine wl_cut 4 (fun a w' => w = w' ∧ Fr 79 a [(33, .bool x2), (7, v7), (5, v1), (3, bp b1 0), (0, va_1)]) ?_ ?_
  ·clear hm; obtain ⟨hc1, hm⟩ | ⟨hc1, hm⟩ := ite_or hx1
   ·refine wl_skip rfl rfl rfl rfl (ne_ft hc1) F rfl rfl ?_; clear F a; intro a F
    refine wl_skip rfl rfl rfl rfl (ne_ft hc1) F rfl rfl ?_; clear F a; intro a F
    refine wl_skip rfl rfl rfl rfl (ne_ft hc1) F rfl rfl ?_; clear F a; intro a F
    refine wE (ev_pickT rfl hc1 rfl) F S rfl fun a F=>?_
    obtain rfl := sinj hm
    refine wpList_nil (then_n ?_); exact ⟨rfl, F.sub ⟨rfl, rfl, rfl, rfl, rfl, trivial⟩⟩
   ·refine wl_ev (wg F rfl rfl rfl rfl hc1) (ev_fieldAddr' tu25 tf25_0 (z := 0) ts3 rfl ⟨_, rfl⟩ rfl) F S rfl rfl ?_; clear F a; intro a F
    refine wl_ev (wg F rfl rfl rfl rfl hc1) (ev_load1 tu3 rfl rfl (box_ptr (cells := [.i6 y4.2.Code]) 1 rfl 0 rfl (lb rfl))) F S rfl rfl ?_; clear F a; intro a F
    refine wl_ev (wg F rfl rfl rfl rfl hc1) (ev_int rfl rfl (bo_neq _ _ _ _)) F S rfl rfl ?_; clear F a; intro a F
    refine wE (ev_pickF rfl hc1 rfl) F S rfl fun a F=>?_
    obtain rfl := sinj hm
    refine wpList_nil (then_n ?_); exact ⟨rfl, F.sub ⟨rfl, rfl, rfl, rfl, rfl, trivial⟩⟩
  clear F; rintro a w' ⟨rfl, F⟩
  refine wE (ev_move rfl) F S rfl fun a F=>?_
  obtain ⟨x3, hx2, hm⟩ := bind_some hm
  refine wl_cut 3 (fun a w' => w = w' ∧ Fr 79 a [(37, .bool x3), (7, v7), (5, v1), (3, bp b1 0), (0, va_1)]) ?_ ?_
  ·clear hm; obtain ⟨hc2, hm⟩ | ⟨hc2, hm⟩ := ite_or hx2
   ·refine wl_skip rfl rfl rfl rfl (ne_ft hc2) F rfl rfl ?_; clear F a; intro a F
    refine wl_skip rfl rfl rfl rfl (ne_ft hc2) F rfl rfl ?_; clear F a; intro a F
    refine wE (ev_pickT rfl hc2 rfl) F S rfl fun a F=>?_
    obtain rfl := sinj hm
    refine wpList_nil (then_n ?_); exact ⟨rfl, F.sub ⟨rfl, rfl, rfl, rfl, rfl, trivial⟩⟩
   ·refine wl_ev (wg F rfl rfl rfl rfl hc2) (ev_fieldAddr' tu33 tf33_0 (z := 0) ts4 rfl ⟨_, rfl⟩ rfl) F S rfl rfl ?_; clear F a; intro a F
    refine wl_ev (wg F rfl rfl rfl rfl hc2) (ev_load1 tu4 rfl rfl (box_ptr (cells := [.bool o_.Delete]) 4 rfl 0 rfl (lb rfl))) F S rfl rfl ?_; clear F a; intro a F
    refine wE (ev_pickF rfl hc2 rfl) F S rfl fun a F=>?_
    obtain rfl := sinj hm
    refine wpList_nil (then_n ?_); exact ⟨rfl, F.sub ⟨rfl, rfl, rfl, rfl, rfl, trivial⟩⟩
  clear F; rintro a w' ⟨rfl, F⟩
  refine wpList_nil ?_
  refine then_n ?_
  obtain ⟨hc3, hm⟩ | ⟨hc3, hm⟩ := ite_or hm
  ·refine wp_condT F rfl hc3 ?_
   refine wp_seq ?_
   refine wp_region_lit ?_
   obtain ⟨y5, hy5, hm⟩ := bind_some hm
   refine wl_call0 (wn rfl) rfl F rfl (changeforgelaw2_latest_ok (fr := (fl [c7, [bx b4 #[.i6 y4.2.Code, .i6 y4.2.Index] 25], c1, [bx b2 #[.i6 y1.2.Code, .i6 y1.2.Index] 25], [bx b1 #[.bool o_.Delete, .i6 o_.Replica, .i6 o_.Counter, .i6 o_.AfterReplica, .i6 o_.AfterCounter, .string o_.Line] 33]] fr))  S hy5) rfl tc11 rfl rfl ?_; clear F a S
   rintro _ a w ⟨g5, l5, S, rfl⟩ F; replace S : St g5 [c7, [bx b4 #[.i6 y4.2.Code, .i6 y4.2.Index] 25], c1, [bx b2 #[.i6 y1.2.Code, .i6 y1.2.Index] 25], [bx b1 #[.bool o_.Delete, .i6 o_.Replica, .i6 o_.Counter, .i6 o_.AfterReplica, .i6 o_.AfterCounter, .string o_.Line] 33]] fr w := S
   refine wE (ev_assign rfl) F S rfl fun a F=>?_
   refine wpList_nil ?_
   refine then_n ?_
   refine wp_ret ?_
   refine then_r ?_
   obtain rfl := sinj hm
   refine post_r _ F rfl (ar_cons (resT rfl) ar_nil) ?_
   replace S : St g5 [] fr w := St.tail [] _ S
   exact ⟨_, rfl, g5, ((l1.trans l4).trans l5), S, rfl⟩
  ·refine wp_condF F rfl hc3 ?_
   refine wp_skip ?_
   refine then_n ?_
   refine wp_seq ?_
   refine wp_region_lit ?_
   refine wE (ev_assign rfl) F S rfl fun a F=>?_
   refine wpList_nil ?_
   refine then_n ?_
   refine wp_cut (fun a w => ∃ (x4 : Bool) (g6 : Gh), Fr 79 a [(9, .bool x4), (7, v7), (5, v1)] ∧ Le g4 g6 ∧ St g6 [c7, c1] fr w ∧ changeforgelaw2_SequenceInserts.j2 y1 y4 x4 = some r) ?_ ?_
   ·refine wp_seq ?_
    refine wp_region_lit ?_
    refine wE (ev_assign rfl) F S rfl fun a F=>?_
    refine wpList_nil ?_
    refine then_n ?_
    refine wp_block ?_
    obtain ⟨r1, hr3, hm⟩ := bind_some hm
    have hmo1 := hm; clear hm
    refine wp_iter (σ := Int × Bool) (ρ := Bool) (m := fun s => changeforgelaw2_SequenceInserts.l1 a_ o_ s.1 s.2) (I := fun s a w => match s with | (x8, x9) => ∃ (g13 : Gh), Fr 79 a [(10, .i6 x8), (9, .bool x9), (7, v7), (5, v1), (3, bp b1 0), (0, va_1)] ∧ Le g4 g13 ∧ St g13 [c7, c1, [bx b1 #[.bool o_.Delete, .i6 o_.Replica, .i6 o_.Counter, .i6 o_.AfterReplica, .i6 o_.AfterCounter, .string o_.Line] 33]] fr w) hr3 ?_ ?_
    ·dsimp only
     replace S : St g4 [c7, c1, [bx b1 #[.bool o_.Delete, .i6 o_.Replica, .i6 o_.Counter, .i6 o_.AfterReplica, .i6 o_.AfterCounter, .string o_.Line] 33]] fr w := St.tail [c7, c1, [bx b1 #[.bool o_.Delete, .i6 o_.Replica, .i6 o_.Counter, .i6 o_.AfterReplica, .i6 o_.AfterCounter, .string o_.Line] 33]] _ (((S.frontC 4 rfl).frontC 3 rfl).frontC 2 rfl)
     exact ⟨g4, F.sub ⟨rfl, rfl, rfl, rfl, rfl, rfl, trivial⟩, (Le.refl _), S⟩
    ·clear F S; rintro ⟨x8, x9⟩ a w x10 ⟨g13, F, l13, S⟩ hx6 hfin1
     have hm : changeforgelaw2_SequenceInserts.l1 a_ o_ x8 x9 = some x10 := hx6; clear hx6
     unfold changeforgelaw2_SequenceInserts.l1 at hm
     refine wp_seq ?_
     refine wp_seq ?_
     refine wp_region_lit ?_
     refine wE (ev_move rfl) F S rfl fun a F=>?_
     refine wE (ev_move rfl) F S rfl fun a F=>?_
     refine wE (ev_lenSh ha_1 rfl tu22) F S rfl fun a F=>?_
     refine wE (ev_int rfl rfl (bo_lss _ _ _ _)) F S rfl fun a F=>?_
     refine wpList_nil ?_
     refine then_n ?_
     obtain ⟨hc7, hm⟩ | ⟨hc7, hm⟩ := ite_or hm
     ·refine wp_condT F rfl hc7 ?_
      refine wp_skip ?_
      refine then_n ?_
      refine wp_seq ?_
      refine wp_block ?_
      refine wp_quiet mo (by kernel_rfl) S ?_
      refine wq_ev (wn rfl) (ev_move rfl) F rfl rfl ?_; clear F a; intro a F
      refine wq_ev (wn rfl) (ev_move rfl) F rfl rfl ?_; clear F a; intro a F
      obtain ⟨x11, hx7, hm⟩ := bind_some hm
      refine wq_cut 14 (fun a => Fr 79 a [(60, .bool x11), (10, .i6 x8), (9, .bool x9), (7, v7), (5, v1), (3, bp b1 0), (0, va_1)]) ?_ ?_
      ·clear hm; obtain ⟨hc8, hm⟩ | ⟨hc8, hm⟩ := ite_or hx7
       ·refine wq_skip rfl rfl rfl rfl (ne_ft hc8) F rfl rfl ?_; clear F a; intro a F
        refine wq_skip rfl rfl rfl rfl (ne_ft hc8) F rfl rfl ?_; clear F a; intro a F
        refine wq_skip rfl rfl rfl rfl (ne_ft hc8) F rfl rfl ?_; clear F a; intro a F
        refine wq_skip rfl rfl rfl rfl (ne_ft hc8) F rfl rfl ?_; clear F a; intro a F
        refine wq_skip rfl rfl rfl rfl (ne_ft hc8) F rfl rfl ?_; clear F a; intro a F
        refine wq_skip rfl rfl rfl rfl (ne_ft hc8) F rfl rfl ?_; clear F a; intro a F
        refine wq_skipu rfl rfl rfl rfl F rfl rfl ?_; clear F a; intro a F
        refine wq_skipu rfl rfl rfl rfl F rfl rfl ?_; clear F a; intro a F
        refine wq_skipu rfl rfl rfl rfl F rfl rfl ?_; clear F a; intro a F
        refine wq_skipu rfl rfl rfl rfl F rfl rfl ?_; clear F a; intro a F
        refine wq_skipu rfl rfl rfl rfl F rfl rfl ?_; clear F a; intro a F
        refine wq_skipu rfl rfl rfl rfl F rfl rfl ?_; clear F a; intro a F
        refine wq_skip rfl rfl rfl rfl (ne_ft hc8) F rfl rfl ?_; clear F a; intro a F
        refine wq_ev (wn rfl) (ev_pickT rfl hc8 rfl) F rfl rfl ?_; clear F a; intro a F
        obtain rfl := sinj hm
        refine wq_nil ?_; exact F.sub ⟨rfl, rfl, rfl, rfl, rfl, rfl, rfl, trivial⟩
       ·refine wq_ev (wg F rfl rfl rfl rfl hc8) (ev_move rfl) F rfl rfl ?_; clear F a; intro a F
        refine wq_ev (wg F rfl rfl rfl rfl hc8) (ev_move rfl) F rfl rfl ?_; clear F a; intro a F
        obtain ⟨y8, hy8, hm⟩ := bind_some hm
        obtain ⟨cs3, hr4, hp1⟩ := elemS (ha_1.mono ((l1.trans l4).trans l13)) hy8
        obtain rfl := rep_SeqOp hr4
        refine wq_ev (wg F rfl rfl rfl rfl hc8) (ev_idxS (ha_1.mono ((l1.trans l4).trans l13)) hy8 tu22 ts33 rfl rfl) F rfl rfl ?_; clear F a; intro a F
        have hp2 := PtrC.field hp1 0 1 (lb rfl)
        have hp2 : PtrC g13 (addP (elemP va_1 x8 6) 0) [.bool y8.Delete] := hp2
        refine wq_ev (wg F rfl rfl rfl rfl hc8) (ev_fieldAddr' tu33 tf33_0 (z := 0) ts4 rfl hp1.ptr rfl) F rfl rfl ?_; clear F a; intro a F
        refine wq_ev (wg F rfl rfl rfl rfl hc8) (ev_load1 tu4 rfl rfl (ptr_mono (cks := [c7, c1, [bx b1 #[.bool o_.Delete, .i6 o_.Replica, .i6 o_.Counter, .i6 o_.AfterReplica, .i6 o_.AfterCounter, .string o_.Line] 33]]) (fr := fr) hp2 (Le.refl _))) F rfl rfl ?_; clear F a; intro a F
        refine wq_ev (wg F rfl rfl rfl rfl hc8) (ev_move rfl) F rfl rfl ?_; clear F a; intro a F
        obtain ⟨x12, hx8, hm⟩ := bind_some hm
        refine wq_cut 7 (fun a => Fr 79 a [(59, .bool x12), (52, .bool y8.Delete), (51, .bool y8.Delete), (50, (addP (elemP va_1 x8 6) 0)), (49, (elemP va_1 x8 6)), (48, .i6 x8), (47, va_1), (46, .bool x9), (10, .i6 x8), (9, .bool x9), (7, v7), (5, v1), (3, bp b1 0), (0, va_1)]) ?_ ?_
        ·clear hm; obtain ⟨hc9, hm⟩ | ⟨hc9, hm⟩ := ite_or hx8
         ·refine wq_ev (wg F rfl rfl rfl rfl hc9) (ev_move rfl) F rfl rfl ?_; clear F a; intro a F
          refine wq_ev (wg F rfl rfl rfl rfl hc9) (ev_move rfl) F rfl rfl ?_; clear F a; intro a F
          obtain ⟨y9, hy9, hm⟩ := bind_some hm
          obtain ⟨cs4, hr5, hp3⟩ := elemS (ha_1.mono ((l1.trans l4).trans l13)) hy9
          obtain rfl := rep_SeqOp hr5
          refine wq_ev (wg F rfl rfl rfl rfl hc9) (ev_idxS (ha_1.mono ((l1.trans l4).trans l13)) hy9 tu22 ts33 rfl rfl) F rfl rfl ?_; clear F a; intro a F
          refine wq_ev (wg F rfl rfl rfl rfl hc9) (ev_loadA tu33 rfl (cs := [.bool y9.Delete, .i6 y9.Replica, .i6 y9.Counter, .i6 y9.AfterReplica, .i6 y9.AfterCounter, .string y9.Line]) ts33 rfl (ptr_mono (cks := [c7, c1, [bx b1 #[.bool o_.Delete, .i6 o_.Replica, .i6 o_.Counter, .i6 o_.AfterReplica, .i6 o_.AfterCounter, .string o_.Line] 33]]) (fr := fr) hp3 (Le.refl _))) F rfl rfl ?_; clear F a; intro a F
          refine wq_ev (wg F rfl rfl rfl rfl hc9) (ev_loadA tu33 rfl (cs := [.bool o_.Delete, .i6 o_.Replica, .i6 o_.Counter, .i6 o_.AfterReplica, .i6 o_.AfterCounter, .string o_.Line]) ts33 rfl (box_ptr (cells := [.bool o_.Delete, .i6 o_.Replica, .i6 o_.Counter, .i6 o_.AfterReplica, .i6 o_.AfterCounter, .string o_.Line]) 2 rfl 0 rfl (lb rfl))) F rfl rfl ?_; clear F a; intro a F
          obtain ⟨y10, hy10, hm⟩ := bind_some hm
          refine wq_call (wg F rfl rfl rfl rfl hc9) rfl (xs := [.tmp 56, .tmp 57]) (vs := [.agg #[.bool y9.Delete, .i6 y9.Replica, .i6 y9.Counter, .i6 y9.AfterReplica, .i6 y9.AfterCounter, .string y9.Line], .agg #[.bool o_.Delete, .i6 o_.Replica, .i6 o_.Counter, .i6 o_.AfterReplica, .i6 o_.AfterCounter, .string o_.Line]]) (cap := []) F rfl rfl tc13 (v := .bool y10) (fun w S => (changeforgeref2_SameElement_ok (g := g13) (fr := (fl [c7, c1, [bx b1 #[.bool o_.Delete, .i6 o_.Replica, .i6 o_.Counter, .i6 o_.AfterReplica, .i6 o_.AfterCounter, .string o_.Line] 33]] fr)) (w := w) y9 o_ S hy10).mono (by rintro en w' ⟨_, rfl, g2, l2, S2, rfl⟩; exact ⟨rfl, S2.weak l2⟩)) rfl rfl ?_; clear F a; intro a F
          refine wq_ev (wg F rfl rfl rfl rfl hc8) (ev_pickT rfl hc9 rfl) F rfl rfl ?_; clear F a; intro a F
          obtain rfl := sinj hm
          refine wq_nil ?_; exact F.sub ⟨rfl, rfl, rfl, rfl, rfl, rfl, rfl, rfl, rfl, rfl, rfl, rfl, rfl, rfl, trivial⟩
         ·refine wq_skip rfl rfl rfl rfl (ne_tf hc9) F rfl rfl ?_; clear F a; intro a F
          refine wq_skip rfl rfl rfl rfl (ne_tf hc9) F rfl rfl ?_; clear F a; intro a F
          refine wq_skip rfl rfl rfl rfl (ne_tf hc9) F rfl rfl ?_; clear F a; intro a F
          refine wq_skip rfl rfl rfl rfl (ne_tf hc9) F rfl rfl ?_; clear F a; intro a F
          refine wq_skip rfl rfl rfl rfl (ne_tf hc9) F rfl rfl ?_; clear F a; intro a F
          refine wq_skip rfl rfl rfl rfl (ne_tf hc9) F rfl rfl ?_; clear F a; intro a F
          refine wq_ev (wg F rfl rfl rfl rfl hc8) (ev_pickF rfl hc9 rfl) F rfl rfl ?_; clear F a; intro a F
          obtain rfl := sinj hm
          refine wq_nil ?_; exact F.sub ⟨rfl, rfl, rfl, rfl, rfl, rfl, rfl, rfl, rfl, rfl, rfl, rfl, rfl, rfl, trivial⟩
        clear F; intro a F
        refine wq_ev (wn rfl) (ev_pickF rfl hc8 rfl) F rfl rfl ?_; clear F a; intro a F
        obtain rfl := sinj hm
        refine wq_nil ?_; exact F.sub ⟨rfl, rfl, rfl, rfl, rfl, rfl, rfl, trivial⟩
      clear F; intro a F
      refine wq_ev (wn rfl) (ev_assign rfl) F rfl rfl ?_; clear F a; intro a F
      refine wq_nil ?_; clear S; intro w S
      refine inb_n ?_
      refine then_n ?_
      refine wp_region_lit ?_
      refine wE (ev_move rfl) F S rfl fun a F=>?_
      obtain ⟨z2, hz2, hm⟩ := bind_some hm
      refine wE (ev_int rfl rfl (bo_add hz2)) F S rfl fun a F=>?_
      refine wE (ev_assign rfl) F S rfl fun a F=>?_
      refine wpList_nil ?_
      refine then_n ?_
      obtain rfl := sinj hm
      refine ⟨_, rfl, ?_⟩
      dsimp only
      exact ⟨g13, F.sub ⟨rfl, rfl, rfl, rfl, rfl, rfl, trivial⟩, l13, S⟩
     ·refine wp_condF F rfl hc7 ?_
      refine wp_exit ?_
      refine then_e ?_
      refine then_e ?_
      refine inb_x ?_
      refine then_n ?_
      obtain rfl := sinj hm
      obtain rfl := hfin1 _ rfl
      clear hm
      have hm : (changeforgelaw2_SequenceInserts.j2 y1 y4 x9 : Option Bool) = some _ := hmo1
      replace S : St g13 [c7, c1] fr w := St.tail [c7, c1] _ ((S.frontC 1 rfl).frontC 1 rfl)
      exact ⟨x9, g13, F.sub ⟨rfl, rfl, rfl, trivial⟩, l13, S, hm⟩
   ·clear F S hm; rintro a w ⟨x4, g6, F, l6, S, hm⟩
    refine wp_seq ?_
    refine wp_region_lit ?_
    refine wE (ev_move rfl) F S rfl fun a F=>?_
    refine wE (ev_not rfl) F S rfl fun a F=>?_
    refine wE (ev_move rfl) F S rfl fun a F=>?_
    obtain ⟨x5, hx3, hm⟩ := bind_some hm
    refine wl_cut 7 (fun a w' => w = w' ∧ Fr 79 a [(70, .bool x5), (7, v7), (5, v1)]) ?_ ?_
    ·clear hm; obtain ⟨hc4, hm⟩ | ⟨hc4, hm⟩ := ite_or hx3
     ·refine wl_ev (wg F rfl rfl rfl rfl hc4) (ev_move rfl) F S rfl rfl ?_; clear F a; intro a F
      refine wl_ev (wg F rfl rfl rfl rfl hc4) (ev_lenOw h8 rfl tu23) F S rfl rfl ?_; clear F a; intro a F
      refine wl_ev (wg F rfl rfl rfl rfl hc4) (ev_move rfl) F S rfl rfl ?_; clear F a; intro a F
      refine wl_ev (wg F rfl rfl rfl rfl hc4) (ev_lenOw h1 rfl tu23) F S rfl rfl ?_; clear F a; intro a F
      obtain ⟨z1, hz1, hm⟩ := bind_some hm
      refine wl_ev (wg F rfl rfl rfl rfl hc4) (ev_int rfl rfl (bo_add hz1)) F S rfl rfl ?_; clear F a; intro a F
      refine wl_ev (wg F rfl rfl rfl rfl hc4) (ev_int rfl rfl (bo_eql _ _ _ _)) F S rfl rfl ?_; clear F a; intro a F
      refine wE (ev_pickT rfl hc4 rfl) F S rfl fun a F=>?_
      obtain rfl := sinj hm
      refine wpList_nil (then_n ?_); exact ⟨rfl, F.sub ⟨rfl, rfl, rfl, trivial⟩⟩
     ·refine wl_skip rfl rfl rfl rfl (ne_tf hc4) F rfl rfl ?_; clear F a; intro a F
      refine wl_skip rfl rfl rfl rfl (ne_tf hc4) F rfl rfl ?_; clear F a; intro a F
      refine wl_skip rfl rfl rfl rfl (ne_tf hc4) F rfl rfl ?_; clear F a; intro a F
      refine wl_skip rfl rfl rfl rfl (ne_tf hc4) F rfl rfl ?_; clear F a; intro a F
      refine wl_skip rfl rfl rfl rfl (ne_tf hc4) F rfl rfl ?_; clear F a; intro a F
      refine wl_skip rfl rfl rfl rfl (ne_tf hc4) F rfl rfl ?_; clear F a; intro a F
      refine wE (ev_pickF rfl hc4 rfl) F S rfl fun a F=>?_
      obtain rfl := sinj hm
      refine wpList_nil (then_n ?_); exact ⟨rfl, F.sub ⟨rfl, rfl, rfl, trivial⟩⟩
    clear F; rintro a w' ⟨rfl, F⟩
    refine wE (ev_move rfl) F S rfl fun a F=>?_
    obtain ⟨g7, l7, S, h9⟩ : ∃ gz, Le g6 gz ∧ St gz [c1] fr w ∧ RepSl gz y4.1 v7 := ⟨_, Le.add _ _, S.freeze 0 rfl, OwnS.freeze (S.front 0 rfl) (h8.mono l6)⟩
    obtain ⟨g8, l8, S, h10⟩ : ∃ gz, Le g7 gz ∧ St gz [] fr w ∧ RepSl gz y1.1 v1 := ⟨_, Le.add _ _, S.freeze 0 rfl, OwnS.freeze (S.front 0 rfl) (h1.mono ((l4.trans l6).trans l7))⟩
    obtain ⟨x6, hx4, hm⟩ := bind_some hm
    refine wl_cut 4 (fun a w => ∃ g9, Fr 79 a [(75, .bool x6)] ∧ Le g8 g9 ∧ St g9 [] fr w) ?_ ?_
    ·clear hm; obtain ⟨hc5, hm⟩ | ⟨hc5, hm⟩ := ite_or hx4
     ·refine wl_ev (wg F rfl rfl rfl rfl hc5) (ev_move rfl) F S rfl rfl ?_; clear F a; intro a F
      refine wl_ev (wg F rfl rfl rfl rfl hc5) (ev_move rfl) F S rfl rfl ?_; clear F a; intro a F
      obtain ⟨y6, hy6, hm⟩ := bind_some hm
      refine wl_call0 (wg F rfl rfl rfl rfl hc5) rfl F rfl (changeforgelaw2_follows_ok y1.1 v1 h10 y4.1 v7 (h9.mono l8) S hy6) rfl tc14 rfl rfl ?_; clear F a S
      rintro _ a w ⟨g10, l10, S, rfl⟩ F; replace S : St g10 [] fr w := S
      refine wE (ev_pickT rfl hc5 rfl) F S rfl fun a F=>?_
      obtain rfl := sinj hm
      refine wpList_nil (then_n ?_); exact ⟨g10, F.sub ⟨rfl, trivial⟩, l10, S⟩
     ·refine wl_skip rfl rfl rfl rfl (ne_tf hc5) F rfl rfl ?_; clear F a; intro a F
      refine wl_skip rfl rfl rfl rfl (ne_tf hc5) F rfl rfl ?_; clear F a; intro a F
      refine wl_skip rfl rfl rfl rfl (ne_tf hc5) F rfl rfl ?_; clear F a; intro a F
      refine wE (ev_pickF rfl hc5 rfl) F S rfl fun a F=>?_
      obtain rfl := sinj hm
      refine wpList_nil (then_n ?_); exact ⟨g8, F.sub ⟨rfl, trivial⟩, (Le.refl _), S⟩
    clear F S; rintro a w ⟨g9, F, l9, S⟩
    refine wE (ev_move rfl) F S rfl fun a F=>?_
    obtain ⟨x7, hx5, hm⟩ := bind_some hm
    refine wl_cut 2 (fun a w => ∃ g11, Fr 79 a [(78, .bool x7)] ∧ Le g9 g11 ∧ St g11 [] fr w) ?_ ?_
    ·clear hm; obtain ⟨hc6, hm⟩ | ⟨hc6, hm⟩ := ite_or hx5
     ·obtain ⟨y7, hy7, hm⟩ := bind_some hm
      refine wl_call0 (wg F rfl rfl rfl rfl hc6) rfl F rfl (changeforgelaw2_latest_ok  S hy7) rfl tc11 rfl rfl ?_; clear F a S
      rintro _ a w ⟨g12, l12, S, rfl⟩ F; replace S : St g12 [] fr w := S
      refine wE (ev_pickT rfl hc6 rfl) F S rfl fun a F=>?_
      obtain rfl := sinj hm
      refine wpList_nil (then_n ?_); exact ⟨g12, F.sub ⟨rfl, trivial⟩, l12, S⟩
     ·refine wl_skip rfl rfl rfl rfl (ne_tf hc6) F rfl rfl ?_; clear F a; intro a F
      refine wE (ev_pickF rfl hc6 rfl) F S rfl fun a F=>?_
      obtain rfl := sinj hm
      refine wpList_nil (then_n ?_); exact ⟨g9, F.sub ⟨rfl, trivial⟩, (Le.refl _), S⟩
    clear F S; rintro a w ⟨g11, F, l11, S⟩
    refine wE (ev_assign rfl) F S rfl fun a F=>?_
    refine wpList_nil ?_
    refine then_n ?_
    refine wp_ret ?_
    obtain rfl := sinj hm
    refine post_r _ F rfl (ar_cons (resT rfl) ar_nil) ?_
    exact ⟨_, rfl, g11, ((((((l1.trans l4).trans l6).trans l7).trans l8).trans l9).trans l11), S, rfl⟩
end Go.Dc
