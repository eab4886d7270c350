/- Walks: each function comes to what its model says. -/
import Derived.Test.YtibigfejalemjaaDcTab
import Derived.Test.YtibigfejalemjaaDcM
import Derived.Test.YtibigfejalemjaaDcW1
namespace Go.Dc
open Go Go.Proofs
set_option maxRecDepth 100000
set_option maxHeartbeats 4000000
set_option linter.unusedVariables false
theorem sequence_Visible_s1.body_ok {rec_ : Element_sequence → (List (K2 × Option (List SeqOp))) → (List (K2 × Bool)) → (List ByteArray) → Option ((List (K2 × Option (List SeqOp))) × (List ByteArray))} (hrec : ∀ {g : Gh} {fr : Hl} {w : World} {r : (List (K2 × Option (List SeqOp))) × (List ByteArray)} (e_ : Element_sequence) (bu1 : Nat) (u1 : (List (K2 × Option (List SeqOp)))) (vu11 : Value) (cu11 : Hl) (hu11 : OwnR g u1 vu11 cu11) (bu2 : Nat) (u2 : (List (K2 × Bool))) (vu21 : Value) (cu21 : Hl) (hu21 : OwnB g u2 vu21 cu21) (bu3 : Nat) (u3 : (List ByteArray)) (vu31 : Value) (cu31 : Hl) (hu31 : OwnS g u3 vu31 cu31) (bu4 : Nat) (S : St g [[bx bu1 #[vu11] 46], cu11, [bx bu2 #[vu21] 45], cu21, [bx bu3 #[vu31] 23], cu31, [(bu4, .cells #[.func (.func 25) #[] #[bp bu1 0, bp bu2 0, bp bu3 0, bp bu4 0]] 50 (0, 0))]] fr w) (hm : rec_ e_ u1 u2 u3 = some r), Calls Try.prog 25 [.agg #[.i6 e_.counter, .i6 e_.replica], bp bu1 0, bp bu2 0, bp bu3 0, bp bu4 0].toArray w (fun en w' => ∃ v, en = .returned v ∧ ∃ (g' : Gh) (v1 : Value) (c1 c2 : Hl), Le g g' ∧ St g' [[bx bu1 #[vu11] 46], c1, [bx bu2 #[vu21] 45], cu21, [bx bu3 #[v1] 23], c2, [(bu4, .cells #[.func (.func 25) #[] #[bp bu1 0, bp bu2 0, bp bu3 0, bp bu4 0]] 50 (0, 0))]] fr w' ∧ OwnR g' r.1 vu11 c1 ∧ OwnS g' r.2 v1 c2 ∧ .tuple #[] = v)) {g : Gh} {fr : Hl} {w : World} {r : (List (K2 × Option (List SeqOp))) × (List ByteArray)} (e_ : Element_sequence) (bu1 : Nat) (u1 : (List (K2 × Option (List SeqOp)))) (vu11 : Value) (cu11 : Hl) (hu11 : OwnR g u1 vu11 cu11) (bu2 : Nat) (u2 : (List (K2 × Bool))) (vu21 : Value) (cu21 : Hl) (hu21 : OwnB g u2 vu21 cu21) (bu3 : Nat) (u3 : (List ByteArray)) (vu31 : Value) (cu31 : Hl) (hu31 : OwnS g u3 vu31 cu31) (bu4 : Nat) (S : St g [[bx bu1 #[vu11] 46], cu11, [bx bu2 #[vu21] 45], cu21, [bx bu3 #[vu31] 23], cu31, [(bu4, .cells #[.func (.func 25) #[] #[bp bu1 0, bp bu2 0, bp bu3 0, bp bu4 0]] 50 (0, 0))]] fr w) (hm : sequence_Visible_s1.body rec_ e_ u1 u2 u3 = some r) :
  Calls Try.prog 25 [.agg #[.i6 e_.counter, .i6 e_.replica], bp bu1 0, bp bu2 0, bp bu3 0, bp bu4 0].toArray w (fun en w' => ∃ v, en = .returned v ∧ ∃ (g' : Gh) (v1 : Value) (c1 c2 : Hl), Le g g' ∧ St g' [[bx bu1 #[vu11] 46], c1, [bx bu2 #[vu21] 45], cu21, [bx bu3 #[v1] 23], c2, [(bu4, .cells #[.func (.func 25) #[] #[bp bu1 0, bp bu2 0, bp bu3 0, bp bu4 0]] 50 (0, 0))]] fr w' ∧ OwnR g' r.1 vu11 c1 ∧ OwnS g' r.2 v1 c2 ∧ .tuple #[] = v) := by
 unfold sequence_Visible_s1.body at hm
 refine calls_enter (fn := Try.f25) Try.func25 rfl Try.ntmps25 (lb rfl) ?_
 intro a F
 replace F : Fr 35 a [(0, .agg #[.i6 e_.counter, .i6 e_.replica]), (1, bp bu1 0), (2, bp bu2 0), (3, bp bu3 0), (4, bp bu4 0)] := F
 refine wp_seq ?_
 refine wp_region_lit ?_
 refine wl_boxC (wn rfl) rfl rfl rfl F S rfl rfl ?_; clear F a S; rintro b1 a w F S
 refine wpList_nil ?_
 refine then_n ?_
 refine wp_seq ?_
 refine wp_region_lit ?_
 refine wE (ev_load1 tu46 rfl rfl (box_ptr (cells := [vu11]) 1 rfl 0 rfl (lb rfl))) F S rfl fun a F=>?_
 refine wE (ev_loadA tu48 rfl (cs := [.i6 e_.counter, .i6 e_.replica]) ts48 rfl (box_ptr (cells := [.i6 e_.counter, .i6 e_.replica]) 0 rfl 0 rfl (lb rfl))) F S rfl fun a F=>?_
 obtain ⟨y1, hy1, hm⟩ := bind_some hm
 replace S : St g [cu11, [bx b1 #[.i6 e_.counter, .i6 e_.replica] 48], [bx bu1 #[vu11] 46], [bx bu2 #[vu21] 45], cu21, [bx bu3 #[vu31] 23], cu31, [(bu4, .cells #[.func (.func 25) #[] #[bp bu1 0, bp bu2 0, bp bu3 0, bp bu4 0]] 50 (0, 0))]] fr w := ((((((((S.frontC 7 rfl).frontC 7 rfl).frontC 7 rfl).frontC 7 rfl).frontC 7 rfl).frontC 6 rfl).frontC 6 rfl).frontC 9 rfl)
 obtain ⟨v1, c1, c2, h1, h2, hL1, hP1⟩ := OwnR.look hu11 hy1
 replace S : St g [c1, c2, [bx b1 #[.i6 e_.counter, .i6 e_.replica] 48], [bx bu1 #[vu11] 46], [bx bu2 #[vu21] 45], cu21, [bx bu3 #[vu31] 23], cu31, [(bu4, .cells #[.func (.func 25) #[] #[bp bu1 0, bp bu2 0, bp bu3 0, bp bu4 0]] 50 (0, 0))]] fr w := St.splitM hP1 S
 refine wE (ev_lookR hL1 tk48 tu46 tz22 rfl (k := (e_.counter, e_.replica)) rfl 1 rfl) F S rfl fun a F=>?_
 refine wE (ev_assign rfl) F S rfl fun a F=>?_
 refine wpList_nil ?_
 refine then_n ?_
 refine wp_seq ?_
 refine wp_region_lit ?_
 refine wE (ev_move rfl) F S rfl fun a F=>?_
 obtain ⟨y2, hy2, hm⟩ := bind_some hm
 refine wl_call0 (wn rfl) rfl F rfl (sort_ok (δ := SeqOp) Try.lay26 sA33 sZ33 tc27 (fun g w x y cx cy r hx hy S hm => by obtain rfl := rep_SeqOp hx; obtain rfl := rep_SeqOp hy; exact sequence_Visible_s1_s1_ok x y S hm) S h1 hy2) rfl tc26 rfl rfl ?_; clear F a S
 rintro _ a w ⟨c3, S, h3, rfl⟩ F; replace S : St g [c3, c2, [bx b1 #[.i6 e_.counter, .i6 e_.replica] 48], [bx bu1 #[vu11] 46], [bx bu2 #[vu21] 45], cu21, [bx bu3 #[vu31] 23], cu31, [(bu4, .cells #[.func (.func 25) #[] #[bp bu1 0, bp bu2 0, bp bu3 0, bp bu4 0]] 50 (0, 0))]] fr w := S
 refine wpList_nil ?_
 refine then_n ?_
 refine wp_seq ?_
 refine wp_region_lit ?_
 refine wE (ev_move rfl) F S rfl fun a F=>?_
 refine wE (ev_lenOw h3 rfl tu22) F S rfl fun a F=>?_
 refine wE (ev_move rfl) F S rfl fun a F=>?_
 refine wpList_nil ?_
 refine then_n ?_
 refine wp_cut1 (fun a w => ∃ (x1 : List (K2 × Option (List SeqOp))) (x2 : List ByteArray) (v3 : Value) (c4 c5 : Hl) (g1 : Gh), Fr 35 a [(1, bp bu1 0), (2, bp bu2 0), (3, bp bu3 0), (4, bp bu4 0)] ∧ Le g g1 ∧ St g1 [[bx bu1 #[vu11] 46], [bx bu2 #[vu21] 45], [bx bu3 #[v3] 23], [(bu4, .cells #[.func (.func 25) #[] #[bp bu1 0, bp bu2 0, bp bu3 0, bp bu4 0]] 50 (0, 0))], c4, cu21, c5] fr w ∧ OwnR g1 x1 vu11 c4 ∧ OwnS g1 x2 v3 c5 ∧ sequence_Visible_s1.j1 x1 x2 = some r) ?_ ?_
 ·refine wp_block ?_
  obtain ⟨r1, hr1, hm⟩ := bind_some hm
  have hmo1 := hm; clear hm
  refine wp_iter (σ := Int × (List (K2 × Option (List SeqOp))) × (List ByteArray)) (ρ := (List (K2 × Option (List SeqOp))) × (List ByteArray)) (m := fun s => sequence_Visible_s1.l1 u2 rec_ y2 s.1 s.2.1 s.2.2) (I := fun s a w => match s with | (x3, x4, x5) => ∃ (v5 : Value) (c6 c7 : Hl) (g2 : Gh), Fr 35 a [(16, .i6 x3), (15, .i6 (y2.length : Int)), (14, v1), (1, bp bu1 0), (2, bp bu2 0), (3, bp bu3 0), (4, bp bu4 0)] ∧ Le g g2 ∧ St g2 [c3, [bx bu1 #[vu11] 46], [bx bu2 #[vu21] 45], [bx bu3 #[v5] 23], [(bu4, .cells #[.func (.func 25) #[] #[bp bu1 0, bp bu2 0, bp bu3 0, bp bu4 0]] 50 (0, 0))], c6, cu21, c7] fr w ∧ OwnR g2 x4 vu11 c6 ∧ OwnS g2 x5 v5 c7) hr1 ?_ ?_
  ·dsimp only
   replace S : St g [c3, [bx bu1 #[vu11] 46], [bx bu2 #[vu21] 45], [bx bu3 #[vu31] 23], [(bu4, .cells #[.func (.func 25) #[] #[bp bu1 0, bp bu2 0, bp bu3 0, bp bu4 0]] 50 (0, 0))], c2, cu21, cu31] fr w := St.tail [c3, [bx bu1 #[vu11] 46], [bx bu2 #[vu21] 45], [bx bu3 #[vu31] 23], [(bu4, .cells #[.func (.func 25) #[] #[bp bu1 0, bp bu2 0, bp bu3 0, bp bu4 0]] 50 (0, 0))], c2, cu21, cu31] _ ((((((((S.frontC 7 rfl).frontC 6 rfl).frontC 3 rfl).frontC 11 rfl).frontC 10 rfl).frontC 9 rfl).frontC 9 rfl).frontC 7 rfl)
   exact ⟨vu31, c2, cu31, g, F.sub ⟨rfl, rfl, rfl, rfl, rfl, rfl, rfl, trivial⟩, (Le.refl _), S, h2, hu31⟩
  ·clear F S; rintro ⟨x3, x4, x5⟩ a w x6 ⟨v5, c6, c7, g2, F, l2, S, h6, h7⟩ hx1 hfin1
   have hm : sequence_Visible_s1.l1 u2 rec_ y2 x3 x4 x5 = some x6 := hx1; clear hx1
   unfold sequence_Visible_s1.l1 at hm
   refine wp_seq ?_
   refine wp_region_lit ?_
   refine wE (ev_int rfl rfl (bo_lss _ _ _ _)) F S rfl fun a F=>?_
   refine wpList_nil ?_
   refine then_n ?_
   refine wp_seq ?_
   obtain ⟨hc1, hm⟩ | ⟨hc1, hm⟩ := ite_or hm
   ·refine wp_condT F rfl hc1 ?_
    refine wp_skip ?_
    refine then_n ?_
    refine wp_seq ?_
    refine wp_block ?_
    refine wp_seq ?_
    refine wp_region_lit ?_
    obtain ⟨y3, hy3, hm⟩ := bind_some hm
    refine wE (ev_idxO (h3.mono l2) hy3 tu22 ts33 rfl rfl) F S rfl fun a F=>?_
    obtain ⟨cs1, hr2, hq1⟩ := elemO (h3.mono l2) hy3
    obtain rfl := rep_SeqOp hr2
    refine wE (ev_loadA tu33 rfl (cs := [.bool y3.Delete, .i6 y3.Replica, .i6 y3.Counter, .i6 y3.AfterReplica, .i6 y3.AfterCounter, .string y3.Line]) ts33 rfl (hq1 _ _ 0 rfl)) F S rfl fun a F=>?_
    refine wl_alloc (wn rfl) rfl tz33 (cs := [.bool false, .i6 0, .i6 0, .i6 0, .i6 0, .string ByteArray.empty]) rfl F S rfl rfl ?_; clear F a S; rintro b2 a w F S
    refine wl_storeC (wn rfl) rfl F S rfl rfl (vs := [.bool y3.Delete, .i6 y3.Replica, .i6 y3.Counter, .i6 y3.AfterReplica, .i6 y3.AfterCounter, .string y3.Line]) rfl ts33 (one_cons rfl (one_cons rfl (one_cons rfl (one_cons rfl (one_cons rfl (one_cons rfl one_nil)))))) (k := 0) rfl (lb rfl) (c' := #[.bool y3.Delete, .i6 y3.Replica, .i6 y3.Counter, .i6 y3.AfterReplica, .i6 y3.AfterCounter, .string y3.Line]) rfl rfl ?_; clear S; intro w S
    refine wpList_nil ?_
    refine then_n ?_
    refine wp_cut (fun a w => ∃ (x7 : List ByteArray) (v6 : Value) (c8 : Hl) (g3 : Gh), Fr 35 a [(8, bp b2 0), (16, .i6 x3), (15, .i6 (y2.length : Int)), (14, v1), (1, bp bu1 0), (2, bp bu2 0), (3, bp bu3 0), (4, bp bu4 0)] ∧ Le g2 g3 ∧ St g3 [[bx b2 #[.bool y3.Delete, .i6 y3.Replica, .i6 y3.Counter, .i6 y3.AfterReplica, .i6 y3.AfterCounter, .string y3.Line] 33], c3, [bx bu1 #[vu11] 46], [bx bu2 #[vu21] 45], [bx bu3 #[v6] 23], [(bu4, .cells #[.func (.func 25) #[] #[bp bu1 0, bp bu2 0, bp bu3 0, bp bu4 0]] 50 (0, 0))], c6, cu21, c8] fr w ∧ OwnS g3 x7 v6 c8 ∧ sequence_Visible_s1.j2 u2 rec_ x3 x4 y3 x7 = some x6) ?_ ?_
    ·refine wp_seq ?_
     refine wp_quiet mo (by kernel_rfl) S ?_
     refine wq_ev (wn rfl) (ev_load1 tu45 rfl rfl (box_ptr (cells := [vu21]) 3 rfl 0 rfl (lb rfl))) F rfl rfl ?_; clear F a; intro a F
     refine wq_ev (wn rfl) (ev_loadA tu33 rfl (cs := [.bool y3.Delete, .i6 y3.Replica, .i6 y3.Counter, .i6 y3.AfterReplica, .i6 y3.AfterCounter, .string y3.Line]) ts33 rfl (box_ptr (cells := [.bool y3.Delete, .i6 y3.Replica, .i6 y3.Counter, .i6 y3.AfterReplica, .i6 y3.AfterCounter, .string y3.Line]) 0 rfl 0 rfl (lb rfl))) F rfl rfl ?_; clear F a; intro a F
     obtain ⟨y6, hy6, hm⟩ := bind_some hm
     refine wq_call (wn rfl) rfl (xs := [.tmp 21]) (vs := [.agg #[.bool y3.Delete, .i6 y3.Replica, .i6 y3.Counter, .i6 y3.AfterReplica, .i6 y3.AfterCounter, .string y3.Line]]) (cap := []) F rfl rfl tc23 (v := .agg #[.i6 y6.counter, .i6 y6.replica]) (fun w S => (sequence_own_ok (g := g2) (fr := (fl [[bx b2 #[.bool y3.Delete, .i6 y3.Replica, .i6 y3.Counter, .i6 y3.AfterReplica, .i6 y3.AfterCounter, .string y3.Line] 33], c3, [bx bu1 #[vu11] 46], [bx bu2 #[vu21] 45], [bx bu3 #[v5] 23], [(bu4, .cells #[.func (.func 25) #[] #[bp bu1 0, bp bu2 0, bp bu3 0, bp bu4 0]] 50 (0, 0))], c6, cu21, c7] fr)) (w := w) y3 S hy6).mono (by rintro en w' ⟨_, rfl, g2, l2, S2, rfl⟩; exact ⟨rfl, S2.weak l2⟩)) rfl rfl ?_; clear F a; intro a F
     refine wq_ev (wn rfl) (ev_lookB (hu21.mono l2) tk48 tu45 tz4 rfl (k := (y6.counter, y6.replica)) rfl 7 rfl) F rfl rfl ?_; clear F a; intro a F
     refine wq_ev (wn rfl) (ev_not rfl) F rfl rfl ?_; clear F a; intro a F
     refine wq_nil ?_; clear S; intro w S
     refine then_n ?_
     obtain ⟨hc2, hm⟩ | ⟨hc2, hm⟩ := ite_or hm
     ·refine wp_condT F rfl hc2 ?_
      refine wp_region_lit ?_
      refine wE (ev_load1 tu23 rfl rfl (box_ptr (cells := [v5]) 4 rfl 0 rfl (lb rfl))) F S rfl fun a F=>?_
      refine wE (ev_fieldAddr' tu33 tf33_5 (z := 0) ts9 rfl ⟨_, rfl⟩ rfl) F S rfl fun a F=>?_
      refine wE (ev_load1 tu9 rfl rfl (box_ptr (cells := [.string y3.Line]) 0 rfl 5 rfl (lb rfl))) F S rfl fun a F=>?_
      refine wl_lit (l := ([y3.Line] : List ByteArray)) (vs := [.string y3.Line]) (parts := [(0, .tmp 27)]) (wn rfl) rfl rfl rfl tu23 te9 (sz_cons rfl sz_nil) rfl (Cat.cons (show Rep.rep _ y3.Line _ from rfl) (Cat.nil _)) (coa_cons rfl coa_nil) rfl F S rfl rfl ?_; clear F a S
      rintro v8 c11 a w h11 F S
      obtain ⟨cs2, hk1, hr3⟩ := OwnS.reads h11
      obtain ⟨y7, hy7, hm⟩ := bind_some hm
      refine wl_append (wn rfl) rfl tu23 tu23 te9 (by decide) (by decide) F S rfl rfl (k := 9) rfl h7 hk1 rfl (hr3 _ _ _ 0 rfl S) hy7 rfl rfl ?_; clear F a S
      rintro v9 c12 a w h12 S F; replace S : St g2 [c11, [bx b2 #[.bool y3.Delete, .i6 y3.Replica, .i6 y3.Counter, .i6 y3.AfterReplica, .i6 y3.AfterCounter, .string y3.Line] 33], c3, [bx bu1 #[vu11] 46], [bx bu2 #[vu21] 45], [bx bu3 #[v5] 23], [(bu4, .cells #[.func (.func 25) #[] #[bp bu1 0, bp bu2 0, bp bu3 0, bp bu4 0]] 50 (0, 0))], c6, cu21, c12] fr w := S
      refine wl_storeC (wn rfl) rfl F S rfl rfl (vs := [v9]) (OwnS.cl h12) ts23 (one_cons (OwnS.one h12) one_nil) (k := 5) rfl (lb rfl) (c' := #[v9]) rfl rfl ?_; clear S; intro w S
      refine wpList_nil ?_
      refine then_n ?_
      replace S : St g2 [[bx b2 #[.bool y3.Delete, .i6 y3.Replica, .i6 y3.Counter, .i6 y3.AfterReplica, .i6 y3.AfterCounter, .string y3.Line] 33], c3, [bx bu1 #[vu11] 46], [bx bu2 #[vu21] 45], [bx bu3 #[v9] 23], [(bu4, .cells #[.func (.func 25) #[] #[bp bu1 0, bp bu2 0, bp bu3 0, bp bu4 0]] 50 (0, 0))], c6, cu21, c12] fr w := St.tail [[bx b2 #[.bool y3.Delete, .i6 y3.Replica, .i6 y3.Counter, .i6 y3.AfterReplica, .i6 y3.AfterCounter, .string y3.Line] 33], c3, [bx bu1 #[vu11] 46], [bx bu2 #[vu21] 45], [bx bu3 #[v9] 23], [(bu4, .cells #[.func (.func 25) #[] #[bp bu1 0, bp bu2 0, bp bu3 0, bp bu4 0]] 50 (0, 0))], c6, cu21, c12] _ (((((((((S.frontC 9 rfl).frontC 9 rfl).frontC 9 rfl).frontC 9 rfl).frontC 9 rfl).frontC 9 rfl).frontC 9 rfl).frontC 9 rfl).frontC 9 rfl)
      exact ⟨y7, v9, c12, g2, F.sub ⟨rfl, rfl, rfl, rfl, rfl, rfl, rfl, rfl, trivial⟩, (Le.refl _), S, h12, hm⟩
     ·refine wp_condF F rfl hc2 ?_
      refine wp_skip ?_
      refine then_n ?_
      exact ⟨x5, v5, c7, g2, F.sub ⟨rfl, rfl, rfl, rfl, rfl, rfl, rfl, rfl, trivial⟩, (Le.refl _), S, h7, hm⟩
    ·clear F S hm; rintro a w ⟨x7, v6, c8, g3, F, l3, S, h8, hm⟩
     refine wp_dv [] mo S ?_; clear S; intro ok1 w S
     refine dv_ev ok1 0 rfl (ev_load1 tu50 rfl rfl (box_ptr (cells := [.func (.func 25) #[] #[bp bu1 0, bp bu2 0, bp bu3 0, bp bu4 0]]) 5 rfl 0 rfl (lb rfl))) F S rfl fun a F=>?_
     refine dv_ev ok1 1 rfl (ev_loadA tu33 rfl (cs := [.bool y3.Delete, .i6 y3.Replica, .i6 y3.Counter, .i6 y3.AfterReplica, .i6 y3.AfterCounter, .string y3.Line]) ts33 rfl (box_ptr (cells := [.bool y3.Delete, .i6 y3.Replica, .i6 y3.Counter, .i6 y3.AfterReplica, .i6 y3.AfterCounter, .string y3.Line]) 0 rfl 0 rfl (lb rfl))) F S rfl fun a F=>?_
     refine dv_op ok1 2 rfl [(0, .func (.func 25) #[] #[bp bu1 0, bp bu2 0, bp bu3 0, bp bu4 0])] ?_
     obtain ⟨y4, hy4, hm⟩ := bind_some hm
     refine wl_call0 (wn rfl) rfl F rfl (sequence_own_ok (fr := (fl [[bx b2 #[.bool y3.Delete, .i6 y3.Replica, .i6 y3.Counter, .i6 y3.AfterReplica, .i6 y3.AfterCounter, .string y3.Line] 33], c3, [bx bu1 #[vu11] 46], [bx bu2 #[vu21] 45], [bx bu3 #[v6] 23], [(bu4, .cells #[.func (.func 25) #[] #[bp bu1 0, bp bu2 0, bp bu3 0, bp bu4 0]] 50 (0, 0))], c6, cu21, c8] fr)) y3 S hy4) rfl tc23 rfl rfl ?_; clear F a S
     rintro _ a w ⟨g4, l4, S, rfl⟩ F; replace S : St g4 [[bx b2 #[.bool y3.Delete, .i6 y3.Replica, .i6 y3.Counter, .i6 y3.AfterReplica, .i6 y3.AfterCounter, .string y3.Line] 33], c3, [bx bu1 #[vu11] 46], [bx bu2 #[vu21] 45], [bx bu3 #[v6] 23], [(bu4, .cells #[.func (.func 25) #[] #[bp bu1 0, bp bu2 0, bp bu3 0, bp bu4 0]] 50 (0, 0))], c6, cu21, c8] fr w := S
     refine dv_nx ⟨yl_ev rfl rfl (ev_load1 tu50 rfl rfl (box_ptr (cells := [.func (.func 25) #[] #[bp bu1 0, bp bu2 0, bp bu3 0, bp bu4 0]]) 5 rfl 0 rfl (lb rfl))) F S, trivial⟩ ?_
     refine dv_op ok1 3 rfl [] ?_
     replace S : St g4 [[bx bu1 #[vu11] 46], c6, [bx bu2 #[vu21] 45], cu21, [bx bu3 #[v6] 23], c8, [(bu4, .cells #[.func (.func 25) #[] #[bp bu1 0, bp bu2 0, bp bu3 0, bp bu4 0]] 50 (0, 0))], [bx b2 #[.bool y3.Delete, .i6 y3.Replica, .i6 y3.Counter, .i6 y3.AfterReplica, .i6 y3.AfterCounter, .string y3.Line] 33], c3] fr w := (((((((((S.frontC 1 rfl).frontC 1 rfl).frontC 7 rfl).frontC 11 rfl).frontC 8 rfl).frontC 12 rfl).frontC 9 rfl).frontC 13 rfl).frontC 10 rfl)
     obtain ⟨y5, hy5, hm⟩ := bind_some hm
     refine wl_call (wn rfl) rfl (xs := [.tmp 32]) (vs := [.agg #[.i6 y4.counter, .i6 y4.replica]]) (cap := [bp bu1 0, bp bu2 0, bp bu3 0, bp bu4 0]) F rfl rfl tc25 (hrec (g := g4) (fr := (fl [[bx b2 #[.bool y3.Delete, .i6 y3.Replica, .i6 y3.Counter, .i6 y3.AfterReplica, .i6 y3.AfterCounter, .string y3.Line] 33], c3] fr)) (w := w) y4 bu1 x4 vu11 c6 (h6.mono (l3.trans l4)) bu2 u2 vu21 cu21 (hu21.mono ((l2.trans l3).trans l4)) bu3 x7 v6 c8 (h8.mono l4) bu4 S hy5) rfl rfl ?_; clear F a S
     rintro _ a w ⟨g5, v7, c9, c10, l5, S, h9, h10, rfl⟩ F; replace S : St g5 [[bx bu1 #[vu11] 46], c9, [bx bu2 #[vu21] 45], cu21, [bx bu3 #[v7] 23], c10, [(bu4, .cells #[.func (.func 25) #[] #[bp bu1 0, bp bu2 0, bp bu3 0, bp bu4 0]] 50 (0, 0))], [bx b2 #[.bool y3.Delete, .i6 y3.Replica, .i6 y3.Counter, .i6 y3.AfterReplica, .i6 y3.AfterCounter, .string y3.Line] 33], c3] fr w := S
     refine dv_nx trivial ?_
     refine dv_fin ok1 ?_
     refine inb_n ?_
     refine then_n ?_
     refine wp_region_lit ?_
     obtain ⟨z1, hz1, hm⟩ := bind_some hm
     refine wE (ev_int rfl rfl (bo_add hz1)) F S rfl fun a F=>?_
     refine wE (ev_move rfl) F S rfl fun a F=>?_
     refine wpList_nil ?_
     refine then_n ?_
     obtain rfl := sinj hm
     refine ⟨_, rfl, ?_⟩
     dsimp only
     replace S : St g5 [c3, [bx bu1 #[vu11] 46], [bx bu2 #[vu21] 45], [bx bu3 #[v7] 23], [(bu4, .cells #[.func (.func 25) #[] #[bp bu1 0, bp bu2 0, bp bu3 0, bp bu4 0]] 50 (0, 0))], c9, cu21, c10] fr w := St.tail [c3, [bx bu1 #[vu11] 46], [bx bu2 #[vu21] 45], [bx bu3 #[v7] 23], [(bu4, .cells #[.func (.func 25) #[] #[bp bu1 0, bp bu2 0, bp bu3 0, bp bu4 0]] 50 (0, 0))], c9, cu21, c10] _ ((((((((S.frontC 5 rfl).frontC 4 rfl).frontC 3 rfl).frontC 9 rfl).frontC 8 rfl).frontC 7 rfl).frontC 6 rfl).frontC 15 rfl)
     exact ⟨v7, c9, c10, g5, F.sub ⟨rfl, rfl, rfl, rfl, rfl, rfl, rfl, trivial⟩, (((l2.trans l3).trans l4).trans l5), S, h9, h10⟩
   ·refine wp_condF F rfl hc1 ?_
    refine wp_exit ?_
    refine then_e ?_
    refine then_e ?_
    refine inb_x ?_
    refine then_n ?_
    obtain rfl := sinj hm
    obtain rfl := hfin1 _ rfl
    clear hm
    have hm : (sequence_Visible_s1.j1 x4 x5 : Option ((List (K2 × Option (List SeqOp))) × (List ByteArray))) = some _ := hmo1
    replace S : St g2 [[bx bu1 #[vu11] 46], [bx bu2 #[vu21] 45], [bx bu3 #[v5] 23], [(bu4, .cells #[.func (.func 25) #[] #[bp bu1 0, bp bu2 0, bp bu3 0, bp bu4 0]] 50 (0, 0))], c6, cu21, c7] fr w := St.tail [[bx bu1 #[vu11] 46], [bx bu2 #[vu21] 45], [bx bu3 #[v5] 23], [(bu4, .cells #[.func (.func 25) #[] #[bp bu1 0, bp bu2 0, bp bu3 0, bp bu4 0]] 50 (0, 0))], c6, cu21, c7] _ (((((((S.frontC 7 rfl).frontC 7 rfl).frontC 7 rfl).frontC 7 rfl).frontC 7 rfl).frontC 7 rfl).frontC 7 rfl)
    exact ⟨x4, x5, v5, c6, c7, g2, F.sub ⟨rfl, rfl, rfl, rfl, trivial⟩, l2, S, h6, h7, hm⟩
 ·clear F S hm; rintro a w ⟨x1, x2, v3, c4, c5, g1, F, l1, S, h4, h5, hm⟩
  obtain rfl := sinj hm
  refine post_n _ F rfl ar_nil ?_
  replace S : St g1 [[bx bu1 #[vu11] 46], c4, [bx bu2 #[vu21] 45], cu21, [bx bu3 #[v3] 23], c5, [(bu4, .cells #[.func (.func 25) #[] #[bp bu1 0, bp bu2 0, bp bu3 0, bp bu4 0]] 50 (0, 0))]] fr w := St.tail [[bx bu1 #[vu11] 46], c4, [bx bu2 #[vu21] 45], cu21, [bx bu3 #[v3] 23], c5, [(bu4, .cells #[.func (.func 25) #[] #[bp bu1 0, bp bu2 0, bp bu3 0, bp bu4 0]] 50 (0, 0))]] _ (((((((S.frontC 3 rfl).frontC 7 rfl).frontC 4 rfl).frontC 8 rfl).frontC 5 rfl).frontC 9 rfl).frontC 6 rfl)
  exact ⟨_, rfl, g1, v3, c4, c5, l1, S, h4, h5, rfl⟩

theorem sequence_Visible_s1.m_ok : ∀ (fu_ : Nat) {g : Gh} {fr : Hl} {w : World} {r : (List (K2 × Option (List SeqOp))) × (List ByteArray)} (e_ : Element_sequence) (bu1 : Nat) (u1 : (List (K2 × Option (List SeqOp)))) (vu11 : Value) (cu11 : Hl) (hu11 : OwnR g u1 vu11 cu11) (bu2 : Nat) (u2 : (List (K2 × Bool))) (vu21 : Value) (cu21 : Hl) (hu21 : OwnB g u2 vu21 cu21) (bu3 : Nat) (u3 : (List ByteArray)) (vu31 : Value) (cu31 : Hl) (hu31 : OwnS g u3 vu31 cu31) (bu4 : Nat) (S : St g [[bx bu1 #[vu11] 46], cu11, [bx bu2 #[vu21] 45], cu21, [bx bu3 #[vu31] 23], cu31, [(bu4, .cells #[.func (.func 25) #[] #[bp bu1 0, bp bu2 0, bp bu3 0, bp bu4 0]] 50 (0, 0))]] fr w) (hm : sequence_Visible_s1.m fu_ e_ u1 u2 u3 = some r), Calls Try.prog 25 [.agg #[.i6 e_.counter, .i6 e_.replica], bp bu1 0, bp bu2 0, bp bu3 0, bp bu4 0].toArray w (fun en w' => ∃ v, en = .returned v ∧ ∃ (g' : Gh) (v1 : Value) (c1 c2 : Hl), Le g g' ∧ St g' [[bx bu1 #[vu11] 46], c1, [bx bu2 #[vu21] 45], cu21, [bx bu3 #[v1] 23], c2, [(bu4, .cells #[.func (.func 25) #[] #[bp bu1 0, bp bu2 0, bp bu3 0, bp bu4 0]] 50 (0, 0))]] fr w' ∧ OwnR g' r.1 vu11 c1 ∧ OwnS g' r.2 v1 c2 ∧ .tuple #[] = v)
 | 0 => by intros; rename_i hm; cases hm
 | fu_ + 1 => sequence_Visible_s1.body_ok (sequence_Visible_s1.m_ok fu_)

theorem sequence_Visible_s1_ok {g : Gh} {fr : Hl} {w : World} {r : (List (K2 × Option (List SeqOp))) × (List ByteArray)} (e_ : Element_sequence) (bu1 : Nat) (u1 : (List (K2 × Option (List SeqOp)))) (vu11 : Value) (cu11 : Hl) (hu11 : OwnR g u1 vu11 cu11) (bu2 : Nat) (u2 : (List (K2 × Bool))) (vu21 : Value) (cu21 : Hl) (hu21 : OwnB g u2 vu21 cu21) (bu3 : Nat) (u3 : (List ByteArray)) (vu31 : Value) (cu31 : Hl) (hu31 : OwnS g u3 vu31 cu31) (bu4 : Nat) (S : St g [[bx bu1 #[vu11] 46], cu11, [bx bu2 #[vu21] 45], cu21, [bx bu3 #[vu31] 23], cu31, [(bu4, .cells #[.func (.func 25) #[] #[bp bu1 0, bp bu2 0, bp bu3 0, bp bu4 0]] 50 (0, 0))]] fr w) (hm : sequence_Visible_s1 e_ u1 u2 u3 = some r) :
  Calls Try.prog 25 [.agg #[.i6 e_.counter, .i6 e_.replica], bp bu1 0, bp bu2 0, bp bu3 0, bp bu4 0].toArray w (fun en w' => ∃ v, en = .returned v ∧ ∃ (g' : Gh) (v1 : Value) (c1 c2 : Hl), Le g g' ∧ St g' [[bx bu1 #[vu11] 46], c1, [bx bu2 #[vu21] 45], cu21, [bx bu3 #[v1] 23], c2, [(bu4, .cells #[.func (.func 25) #[] #[bp bu1 0, bp bu2 0, bp bu3 0, bp bu4 0]] 50 (0, 0))]] fr w' ∧ OwnR g' r.1 vu11 c1 ∧ OwnS g' r.2 v1 c2 ∧ .tuple #[] = v) := sequence_Visible_s1.m_ok _ e_ bu1 u1 vu11 cu11 hu11 bu2 u2 vu21 cu21 hu21 bu3 u3 vu31 cu31 hu31 bu4 S hm

theorem sequence_Visible_ok {g : Gh} {fr : Hl} {w : World} {r : (List ByteArray) × Fault} (ops : (List SeqOp)) (vops1 : Value) (hops1 : RepSl g ops vops1) (S : St g [] fr w) (hm : sequence_Visible ops = some r) :
  Calls Try.prog 9 [vops1].toArray w (fun en w' => ∃ v, en = .returned v ∧ ∃ (g' : Gh) (v1 : Value) (c1 : Hl), Le g g' ∧ St g' [c1] fr w' ∧ OwnS g' r.1 v1 c1 ∧ .tuple #[v1, .agg #[.i6 r.2.Code, .i6 r.2.Index]] = v) := by
 unfold sequence_Visible at hm
 refine calls_enter (fn := Try.f9) Try.func9 rfl Try.ntmps9 (lb rfl) ?_
 intro a F
 replace F : Fr 47 a [(0, vops1)] := F
 refine wp_seq ?_
 refine wp_region_lit ?_
 refine wE (ev_assign rfl) F S rfl fun a F=>?_
 refine wl_alloc (wn rfl) rfl tz25 (cs := [.i6 0, .i6 0]) rfl F S rfl rfl ?_; clear F a S; rintro b1 a w F S
 refine wpList_nil ?_
 refine then_n ?_
 refine wp_seq ?_
 refine wp_seq ?_
 refine wp_region_lit ?_
 refine wE (ev_move rfl) F S rfl fun a F=>?_
 obtain ⟨y1, hy1, hm⟩ := bind_some hm
 refine wl_call0 (wn rfl) rfl F rfl (sequence_Validate_ok (fr := (fl [[bx b1 #[.i6 0, .i6 0] 25]] fr)) ops vops1 hops1 S hy1) rfl tc20 rfl rfl ?_; clear F a S
 rintro _ a w ⟨g1, l1, S, rfl⟩ F; replace S : St g1 [[bx b1 #[.i6 0, .i6 0] 25]] fr w := S
 refine wl_alloc (wn rfl) rfl tz25 (cs := [.i6 0, .i6 0]) rfl F S rfl rfl ?_; clear F a S; rintro b2 a w F S
 refine wl_storeC (wn rfl) rfl F S rfl rfl (vs := [.i6 y1.Code, .i6 y1.Index]) rfl ts25 (one_cons rfl (one_cons rfl one_nil)) (k := 0) rfl (lb rfl) (c' := #[.i6 y1.Code, .i6 y1.Index]) rfl rfl ?_; clear S; intro w S
 refine wpList_nil ?_
 refine then_n ?_
 refine wp_seq ?_
 refine wp_region_lit ?_
 refine wE (ev_loadA tu25 rfl (cs := [.i6 y1.Code, .i6 y1.Index]) ts25 rfl (box_ptr (cells := [.i6 y1.Code, .i6 y1.Index]) 0 rfl 0 rfl (lb rfl))) F S rfl fun a F=>?_
 refine wE (ev_build (parts := []) (vs := []) rfl (fun w => tb25_  w)) F S rfl fun a F=>?_
 refine wE (ev_neS tu25 tqa25 tqb25 tqc25 (xs := [.i6 y1.Code, .i6 y1.Index]) (ys := [.i6 0, .i6 0]) rfl rfl ⟨_, _, rfl, by decide, ⟨_, _, rfl, rfl, leaf_int tu3⟩, ⟨_, _, rfl, by decide, ⟨_, _, rfl, rfl, leaf_int tu3⟩, rfl⟩⟩) F S rfl fun a F=>?_
 refine wpList_nil ?_
 refine then_n ?_
 obtain ⟨hc1, hm⟩ | ⟨hc1, hm⟩ := ite_or hm
 ·refine wp_condT F rfl hc1 ?_
  refine wp_seq ?_
  refine wp_dv [] mo S ?_; clear S; intro ok1 w S
  refine dv_ev ok1 0 rfl (ev_loadA tu25 rfl (cs := [.i6 y1.Code, .i6 y1.Index]) ts25 rfl (box_ptr (cells := [.i6 y1.Code, .i6 y1.Index]) 0 rfl 0 rfl (lb rfl))) F S rfl fun a F=>?_
  refine dv_et ok1 1 rfl (ev_assign rfl) F rfl fun a F=>?_
  refine dv_op ok1 2 rfl [] ?_
  refine wl_storeC (wn rfl) rfl F S rfl rfl (vs := [.i6 y1.Code, .i6 y1.Index]) rfl ts25 (one_cons rfl (one_cons rfl one_nil)) (k := 1) rfl (lb rfl) (c' := #[.i6 y1.Code, .i6 y1.Index]) rfl rfl ?_; clear S; intro w S
  refine dv_nx trivial ?_
  refine dv_fin ok1 ?_
  refine then_n ?_
  refine wp_ret ?_
  refine then_r ?_
  obtain rfl := sinj hm
  replace S : St g1 [[], [bx b2 #[.i6 y1.Code, .i6 y1.Index] 25], [bx b1 #[.i6 y1.Code, .i6 y1.Index] 25]] fr w := S
  refine post_r _ F rfl (ar_cons (resT rfl) (ar_cons (resA rfl tu25 rfl (box_ptr (cells := [.i6 y1.Code, .i6 y1.Index]) 2 rfl 0 rfl (lb rfl) w S) ts25) ar_nil)) ?_
  replace S : St g1 [[]] fr w := St.tail [[]] _ (S.frontC 0 rfl)
  exact ⟨_, rfl, g1, (nilS), [], l1, S, (OwnS.nil _), rfl⟩
 ·refine wp_condF F rfl hc1 ?_
  refine wp_skip ?_
  refine then_n ?_
  refine wp_seq ?_
  refine wp_region_lit ?_
  refine wl_makeB (wn rfl) rfl F S rfl rfl ?_; clear F a S; rintro v1 c1 a w h1 F S
  refine wl_alloc (wn rfl) rfl tz45 (cs := [.map Option.none]) rfl F S rfl rfl ?_; clear F a S; rintro b3 a w F S
  refine wl_storeC (wn rfl) rfl F S rfl rfl (vs := [v1]) (OwnB.cl h1) ts45 (one_cons (OwnB.one h1) one_nil) (k := 0) rfl (lb rfl) (c' := #[v1]) rfl rfl ?_; clear S; intro w S
  refine wpList_nil ?_
  refine then_n ?_
  refine wp_seq ?_
  refine wp_region_lit ?_
  refine wl_makeR (α := SeqOp) (wn rfl) rfl F S rfl rfl ?_; clear F a S; rintro v2 c2 a w h2 F S
  refine wl_alloc (wn rfl) rfl tz46 (cs := [.map Option.none]) rfl F S rfl rfl ?_; clear F a S; rintro b4 a w F S
  refine wl_storeC (wn rfl) rfl F S rfl rfl (vs := [v2]) (OwnR.cl h2) ts46 (one_cons (OwnR.one h2) one_nil) (k := 0) rfl (lb rfl) (c' := #[v2]) rfl rfl ?_; clear S; intro w S
  refine wpList_nil ?_
  refine then_n ?_
  refine wp_cut (fun a w => ∃ (x1 : List (K2 × Option (List SeqOp))) (x2 : List (K2 × Bool)) (c3 c4 : Hl) (g2 : Gh), Fr 47 a [(6, bp b4 0), (5, bp b3 0), (3, bp b1 0)] ∧ Le g1 g2 ∧ St g2 [[bx b4 #[v2] 46], [bx b3 #[v1] 45], [bx b1 #[.i6 0, .i6 0] 25], c3, c4] fr w ∧ OwnR g2 x1 v2 c3 ∧ OwnB g2 x2 v1 c4 ∧ sequence_Visible.j1 x1 x2 = some r) ?_ ?_
  ·refine wp_seq ?_
   refine wp_region_lit ?_
   refine wE (ev_move rfl) F S rfl fun a F=>?_
   refine wE (ev_lenSh hops1 rfl tu22) F S rfl fun a F=>?_
   refine wE (ev_move rfl) F S rfl fun a F=>?_
   refine wpList_nil ?_
   refine then_n ?_
   refine wp_block ?_
   obtain ⟨r1, hr1, hm⟩ := bind_some hm
   have hmo1 := hm; clear hm
   refine wp_iter (σ := Int × (List (K2 × Option (List SeqOp))) × (List (K2 × Bool))) (ρ := (List (K2 × Option (List SeqOp))) × (List (K2 × Bool))) (m := fun s => sequence_Visible.l1 ops s.1 s.2.1 s.2.2) (I := fun s a w => match s with | (x3, x4, x5) => ∃ (c7 c8 : Hl) (g4 : Gh), Fr 47 a [(21, .i6 x3), (20, .i6 (ops.length : Int)), (19, vops1), (6, bp b4 0), (5, bp b3 0), (3, bp b1 0)] ∧ Le g1 g4 ∧ St g4 [[bx b4 #[v2] 46], [bx b3 #[v1] 45], [bx b1 #[.i6 0, .i6 0] 25], c7, c8] fr w ∧ OwnR g4 x4 v2 c7 ∧ OwnB g4 x5 v1 c8) hr1 ?_ ?_
   ·dsimp only
    replace S : St g1 [[bx b4 #[v2] 46], [bx b3 #[v1] 45], [bx b1 #[.i6 0, .i6 0] 25], c2, c1] fr w := St.tail [[bx b4 #[v2] 46], [bx b3 #[v1] 45], [bx b1 #[.i6 0, .i6 0] 25], c2, c1] _ (((((S.frontC 3 rfl).frontC 2 rfl).frontC 7 rfl).frontC 5 rfl).frontC 4 rfl)
    exact ⟨c2, c1, g1, F.sub ⟨rfl, rfl, rfl, rfl, rfl, rfl, trivial⟩, (Le.refl _), S, h2, h1⟩
   ·clear F S; rintro ⟨x3, x4, x5⟩ a w x6 ⟨c7, c8, g4, F, l4, S, h7, h8⟩ hx1 hfin1
    have hm : sequence_Visible.l1 ops x3 x4 x5 = some x6 := hx1; clear hx1
    unfold sequence_Visible.l1 at hm
    refine wp_seq ?_
    refine wp_region_lit ?_
    refine wE (ev_int rfl rfl (bo_lss _ _ _ _)) F S rfl fun a F=>?_
    refine wpList_nil ?_
    refine then_n ?_
    refine wp_seq ?_
    obtain ⟨hc2, hm⟩ | ⟨hc2, hm⟩ := ite_or hm
    ·refine wp_condT F rfl hc2 ?_
     refine wp_skip ?_
     refine then_n ?_
     refine wp_cut (fun a w => ∃ (x7 : List (K2 × Option (List SeqOp))) (x8 : List (K2 × Bool)) (c9 c10 : Hl) (g5 : Gh), Fr 47 a [(21, .i6 x3), (20, .i6 (ops.length : Int)), (19, vops1), (6, bp b4 0), (5, bp b3 0), (3, bp b1 0)] ∧ Le g4 g5 ∧ St g5 [[bx b4 #[v2] 46], [bx b3 #[v1] 45], [bx b1 #[.i6 0, .i6 0] 25], c9, c10] fr w ∧ OwnR g5 x7 v2 c9 ∧ OwnB g5 x8 v1 c10 ∧ sequence_Visible.j2 x3 x7 x8 = some x6) ?_ ?_
     ·refine wp_block ?_
      refine wp_seq ?_
      refine wp_region_lit ?_
      obtain ⟨y3, hy3, hm⟩ := bind_some hm
      obtain ⟨cs1, hr2, hp1⟩ := elemS (hops1.mono (l1.trans l4)) hy3
      obtain rfl := rep_SeqOp hr2
      refine wE (ev_idxS (hops1.mono (l1.trans l4)) hy3 tu22 ts33 rfl rfl) F S rfl fun a F=>?_
      refine wE (ev_loadA tu33 rfl (cs := [.bool y3.Delete, .i6 y3.Replica, .i6 y3.Counter, .i6 y3.AfterReplica, .i6 y3.AfterCounter, .string y3.Line]) ts33 rfl (ptr_mono (cks := [[bx b4 #[v2] 46], [bx b3 #[v1] 45], [bx b1 #[.i6 0, .i6 0] 25], c7, c8]) (fr := fr) hp1 (Le.refl _))) F S rfl fun a F=>?_
      refine wl_alloc (wn rfl) rfl tz33 (cs := [.bool false, .i6 0, .i6 0, .i6 0, .i6 0, .string ByteArray.empty]) rfl F S rfl rfl ?_; clear F a S; rintro b7 a w F S
      refine wl_storeC (wn rfl) rfl F S rfl rfl (vs := [.bool y3.Delete, .i6 y3.Replica, .i6 y3.Counter, .i6 y3.AfterReplica, .i6 y3.AfterCounter, .string y3.Line]) rfl ts33 (one_cons rfl (one_cons rfl (one_cons rfl (one_cons rfl (one_cons rfl (one_cons rfl one_nil)))))) (k := 0) rfl (lb rfl) (c' := #[.bool y3.Delete, .i6 y3.Replica, .i6 y3.Counter, .i6 y3.AfterReplica, .i6 y3.AfterCounter, .string y3.Line]) rfl rfl ?_; clear S; intro w S
      refine wpList_nil ?_
      refine then_n ?_
      refine wp_seq ?_
      refine wp_region_lit ?_
      refine wE (ev_fieldAddr' tu33 tf33_0 (z := 0) ts4 rfl ⟨_, rfl⟩ rfl) F S rfl fun a F=>?_
      refine wE (ev_load1 tu4 rfl rfl (box_ptr (cells := [.bool y3.Delete]) 0 rfl 0 rfl (lb rfl))) F S rfl fun a F=>?_
      refine wpList_nil ?_
      refine then_n ?_
      obtain ⟨hc3, hm⟩ | ⟨hc3, hm⟩ := ite_or hm
      ·refine wp_condT F rfl hc3 ?_
       refine wp_dv [] mo S ?_; clear S; intro ok2 w S
       refine dv_ev ok2 0 rfl (ev_load1 tu45 rfl rfl (box_ptr (cells := [v1]) 2 rfl 0 rfl (lb rfl))) F S rfl fun a F=>?_
       refine dv_ev ok2 1 rfl (ev_loadA tu33 rfl (cs := [.bool y3.Delete, .i6 y3.Replica, .i6 y3.Counter, .i6 y3.AfterReplica, .i6 y3.AfterCounter, .string y3.Line]) ts33 rfl (box_ptr (cells := [.bool y3.Delete, .i6 y3.Replica, .i6 y3.Counter, .i6 y3.AfterReplica, .i6 y3.AfterCounter, .string y3.Line]) 0 rfl 0 rfl (lb rfl))) F S rfl fun a F=>?_
       refine dv_op ok2 2 rfl [(0, v1)] ?_
       obtain ⟨y4, hy4, hm⟩ := bind_some hm
       refine wl_call0 (wn rfl) rfl F rfl (sequence_own_ok (fr := (fl [[bx b7 #[.bool y3.Delete, .i6 y3.Replica, .i6 y3.Counter, .i6 y3.AfterReplica, .i6 y3.AfterCounter, .string y3.Line] 33], [bx b4 #[v2] 46], [bx b3 #[v1] 45], [bx b1 #[.i6 0, .i6 0] 25], c7, c8] fr)) y3 S hy4) rfl tc23 rfl rfl ?_; clear F a S
       rintro _ a w ⟨g6, l6, S, rfl⟩ F; replace S : St g6 [[bx b7 #[.bool y3.Delete, .i6 y3.Replica, .i6 y3.Counter, .i6 y3.AfterReplica, .i6 y3.AfterCounter, .string y3.Line] 33], [bx b4 #[v2] 46], [bx b3 #[v1] 45], [bx b1 #[.i6 0, .i6 0] 25], c7, c8] fr w := S
       refine dv_nx ⟨yl_ev rfl rfl (ev_load1 tu45 rfl rfl (box_ptr (cells := [v1]) 2 rfl 0 rfl (lb rfl))) F S, trivial⟩ ?_
       refine dv_op ok2 3 rfl [] ?_
       refine wl_updB (h8.mono l6) tk48 tu45 (wn rfl) rfl F S rfl (k := (y4.counter, y4.replica)) rfl rfl 5 rfl rfl ?_; clear S
       rintro c11 w h11 S; replace S : St g6 [[bx b7 #[.bool y3.Delete, .i6 y3.Replica, .i6 y3.Counter, .i6 y3.AfterReplica, .i6 y3.AfterCounter, .string y3.Line] 33], [bx b4 #[v2] 46], [bx b3 #[v1] 45], [bx b1 #[.i6 0, .i6 0] 25], c7, c11] fr w := S
       obtain ⟨y5, hy5, hm⟩ := bind_some hm
       replace h11 : OwnB g6 y5 v1 c11 := sinj hy5 ▸ h11
       refine dv_nx trivial ?_
       refine dv_fin ok2 ?_
       refine inb_n ?_
       refine then_n ?_
       replace S : St g6 [[bx b4 #[v2] 46], [bx b3 #[v1] 45], [bx b1 #[.i6 0, .i6 0] 25], c7, c11] fr w := St.tail [[bx b4 #[v2] 46], [bx b3 #[v1] 45], [bx b1 #[.i6 0, .i6 0] 25], c7, c11] _ (((((S.frontC 5 rfl).frontC 5 rfl).frontC 5 rfl).frontC 5 rfl).frontC 5 rfl)
       exact ⟨x4, y5, c7, c11, g6, F.sub ⟨rfl, rfl, rfl, rfl, rfl, rfl, trivial⟩, l6, S, (h7.mono l6), h11, hm⟩
      ·refine wp_condF F rfl hc3 ?_
       refine wp_dv [] mo S ?_; clear S; intro ok3 w S
       refine dv_ev ok3 0 rfl (ev_load1 tu46 rfl rfl (box_ptr (cells := [v2]) 1 rfl 0 rfl (lb rfl))) F S rfl fun a F=>?_
       refine dv_ev ok3 1 rfl (ev_loadA tu33 rfl (cs := [.bool y3.Delete, .i6 y3.Replica, .i6 y3.Counter, .i6 y3.AfterReplica, .i6 y3.AfterCounter, .string y3.Line]) ts33 rfl (box_ptr (cells := [.bool y3.Delete, .i6 y3.Replica, .i6 y3.Counter, .i6 y3.AfterReplica, .i6 y3.AfterCounter, .string y3.Line]) 0 rfl 0 rfl (lb rfl))) F S rfl fun a F=>?_
       refine dv_ev ok3 3 rfl (ev_load1 tu46 rfl rfl (box_ptr (cells := [v2]) 1 rfl 0 rfl (lb rfl))) F S rfl fun a F=>?_
       refine dv_ev ok3 4 rfl (ev_loadA tu33 rfl (cs := [.bool y3.Delete, .i6 y3.Replica, .i6 y3.Counter, .i6 y3.AfterReplica, .i6 y3.AfterCounter, .string y3.Line]) ts33 rfl (box_ptr (cells := [.bool y3.Delete, .i6 y3.Replica, .i6 y3.Counter, .i6 y3.AfterReplica, .i6 y3.AfterCounter, .string y3.Line]) 0 rfl 0 rfl (lb rfl))) F S rfl fun a F=>?_
       refine dv_ev ok3 7 rfl (ev_loadA tu33 rfl (cs := [.bool y3.Delete, .i6 y3.Replica, .i6 y3.Counter, .i6 y3.AfterReplica, .i6 y3.AfterCounter, .string y3.Line]) ts33 rfl (box_ptr (cells := [.bool y3.Delete, .i6 y3.Replica, .i6 y3.Counter, .i6 y3.AfterReplica, .i6 y3.AfterCounter, .string y3.Line]) 0 rfl 0 rfl (lb rfl))) F S rfl fun a F=>?_
       obtain ⟨y6, hy6, hm⟩ := bind_some hm
       obtain ⟨y7, hy7, hm⟩ := bind_some hm
       obtain ⟨y8, hy8, hm⟩ := bind_some hm
       refine dv_cut [0, 1, 3, 4, 7, 2, 5, 6, 8] [(0, v2)] (fun a w => ∃ (x9 : List SeqOp) (x11 : List (K2 × Option (List SeqOp))) (v12 v13 : Value) (c15 c16 c17 : Hl) (g9 : Gh), Fr 47 a [(38, v12), (36, v13), (32, .agg #[.i6 y6.counter, .i6 y6.replica]), (30, v2), (21, .i6 x3), (20, .i6 (ops.length : Int)), (19, vops1), (6, bp b4 0), (5, bp b3 0), (3, bp b1 0)] ∧ Le g4 g9 ∧ St g9 [c15, c16, c17, [bx b4 #[v2] 46], [bx b3 #[v1] 45], [bx b1 #[.i6 0, .i6 0] 25], c8] fr w ∧ OwnS g9 x9 v12 c15 ∧ OwnS g9 y8 v13 c16 ∧ OwnR g9 x11 v2 c17 ∧ sequence_Visible.j3 x3 x5 y6 y8 x9 x11 = some x6) ?_ ?_
       ·intro HJ
        refine dv_fork ok3 2 [8] (fk 2 rfl [(7, .agg #[.bool y3.Delete, .i6 y3.Replica, .i6 y3.Counter, .i6 y3.AfterReplica, .i6 y3.AfterCounter, .string y3.Line]), (4, .agg #[.bool y3.Delete, .i6 y3.Replica, .i6 y3.Counter, .i6 y3.AfterReplica, .i6 y3.AfterCounter, .string y3.Line]), (3, v2), (0, v2)] ?_ (fk 8 rfl [(4, .agg #[.bool y3.Delete, .i6 y3.Replica, .i6 y3.Counter, .i6 y3.AfterReplica, .i6 y3.AfterCounter, .string y3.Line]), (3, v2), (1, .agg #[.bool y3.Delete, .i6 y3.Replica, .i6 y3.Counter, .i6 y3.AfterReplica, .i6 y3.AfterCounter, .string y3.Line]), (0, v2)] ?_ trivial))
        ·refine wl_call0 (wn rfl) rfl F rfl (sequence_after_ok (fr := (fl [[bx b7 #[.bool y3.Delete, .i6 y3.Replica, .i6 y3.Counter, .i6 y3.AfterReplica, .i6 y3.AfterCounter, .string y3.Line] 33], [bx b4 #[v2] 46], [bx b3 #[v1] 45], [bx b1 #[.i6 0, .i6 0] 25], c7, c8] fr)) y3 S hy6) rfl tc24 rfl rfl ?_; clear F a S
         rintro _ a w ⟨g7, l7, S, rfl⟩ F; replace S : St g7 [[bx b7 #[.bool y3.Delete, .i6 y3.Replica, .i6 y3.Counter, .i6 y3.AfterReplica, .i6 y3.AfterCounter, .string y3.Line] 33], [bx b4 #[v2] 46], [bx b3 #[v1] 45], [bx b1 #[.i6 0, .i6 0] 25], c7, c8] fr w := S
         refine dv_nx ⟨yl_ev rfl rfl (ev_loadA tu33 rfl (cs := [.bool y3.Delete, .i6 y3.Replica, .i6 y3.Counter, .i6 y3.AfterReplica, .i6 y3.AfterCounter, .string y3.Line]) ts33 rfl (box_ptr (cells := [.bool y3.Delete, .i6 y3.Replica, .i6 y3.Counter, .i6 y3.AfterReplica, .i6 y3.AfterCounter, .string y3.Line]) 0 rfl 0 rfl (lb rfl))) F S, yl_ev rfl rfl (ev_loadA tu33 rfl (cs := [.bool y3.Delete, .i6 y3.Replica, .i6 y3.Counter, .i6 y3.AfterReplica, .i6 y3.AfterCounter, .string y3.Line]) ts33 rfl (box_ptr (cells := [.bool y3.Delete, .i6 y3.Replica, .i6 y3.Counter, .i6 y3.AfterReplica, .i6 y3.AfterCounter, .string y3.Line]) 0 rfl 0 rfl (lb rfl))) F S, yl_ev rfl rfl (ev_load1 tu46 rfl rfl (box_ptr (cells := [v2]) 1 rfl 0 rfl (lb rfl))) F S, yl_ev rfl rfl (ev_load1 tu46 rfl rfl (box_ptr (cells := [v2]) 1 rfl 0 rfl (lb rfl))) F S, trivial⟩ ?_
         refine dv_fork ok3 5 [8] (fk 5 rfl [(7, .agg #[.bool y3.Delete, .i6 y3.Replica, .i6 y3.Counter, .i6 y3.AfterReplica, .i6 y3.AfterCounter, .string y3.Line]), (3, v2), (0, v2)] ?_ (fk 8 rfl [(4, .agg #[.bool y3.Delete, .i6 y3.Replica, .i6 y3.Counter, .i6 y3.AfterReplica, .i6 y3.AfterCounter, .string y3.Line]), (3, v2), (0, v2)] ?_ trivial))
         ·refine wl_call0 (wn rfl) rfl F rfl (sequence_after_ok (fr := (fl [[bx b7 #[.bool y3.Delete, .i6 y3.Replica, .i6 y3.Counter, .i6 y3.AfterReplica, .i6 y3.AfterCounter, .string y3.Line] 33], [bx b4 #[v2] 46], [bx b3 #[v1] 45], [bx b1 #[.i6 0, .i6 0] 25], c7, c8] fr)) y3 S hy7) rfl tc24 rfl rfl ?_; clear F a S
          rintro _ a w ⟨g8, l8, S, rfl⟩ F; replace S : St g8 [[bx b7 #[.bool y3.Delete, .i6 y3.Replica, .i6 y3.Counter, .i6 y3.AfterReplica, .i6 y3.AfterCounter, .string y3.Line] 33], [bx b4 #[v2] 46], [bx b3 #[v1] 45], [bx b1 #[.i6 0, .i6 0] 25], c7, c8] fr w := S
          refine dv_nx ⟨yl_ev rfl rfl (ev_loadA tu33 rfl (cs := [.bool y3.Delete, .i6 y3.Replica, .i6 y3.Counter, .i6 y3.AfterReplica, .i6 y3.AfterCounter, .string y3.Line]) ts33 rfl (box_ptr (cells := [.bool y3.Delete, .i6 y3.Replica, .i6 y3.Counter, .i6 y3.AfterReplica, .i6 y3.AfterCounter, .string y3.Line]) 0 rfl 0 rfl (lb rfl))) F S, yl_ev rfl rfl (ev_load1 tu46 rfl rfl (box_ptr (cells := [v2]) 1 rfl 0 rfl (lb rfl))) F S, yl_ev rfl rfl (ev_load1 tu46 rfl rfl (box_ptr (cells := [v2]) 1 rfl 0 rfl (lb rfl))) F S, trivial⟩ ?_
          refine dv_fork ok3 6 [8] (fk 6 rfl [(7, .agg #[.bool y3.Delete, .i6 y3.Replica, .i6 y3.Counter, .i6 y3.AfterReplica, .i6 y3.AfterCounter, .string y3.Line]), (0, v2)] ?_ (fk 8 rfl [(3, v2), (0, v2)] ?_ trivial))
          ·replace S : St g8 [c7, [bx b7 #[.bool y3.Delete, .i6 y3.Replica, .i6 y3.Counter, .i6 y3.AfterReplica, .i6 y3.AfterCounter, .string y3.Line] 33], [bx b4 #[v2] 46], [bx b3 #[v1] 45], [bx b1 #[.i6 0, .i6 0] 25], c8] fr w := ((((((S.frontC 5 rfl).frontC 4 rfl).frontC 4 rfl).frontC 4 rfl).frontC 4 rfl).frontC 9 rfl)
           obtain ⟨v10, c12, c13, h12, h13, hL1, hP1⟩ := OwnR.look (h7.mono (l7.trans l8)) hy8
           replace S : St g8 [c12, c13, [bx b7 #[.bool y3.Delete, .i6 y3.Replica, .i6 y3.Counter, .i6 y3.AfterReplica, .i6 y3.AfterCounter, .string y3.Line] 33], [bx b4 #[v2] 46], [bx b3 #[v1] 45], [bx b1 #[.i6 0, .i6 0] 25], c8] fr w := St.splitM hP1 S
           refine wE (ev_lookR hL1 tk48 tu46 tz22 rfl (k := (y7.counter, y7.replica)) rfl 1 rfl) F S rfl fun a F=>?_
           refine dv_nx ⟨yl_ev rfl rfl (ev_loadA tu33 rfl (cs := [.bool y3.Delete, .i6 y3.Replica, .i6 y3.Counter, .i6 y3.AfterReplica, .i6 y3.AfterCounter, .string y3.Line]) ts33 rfl (box_ptr (cells := [.bool y3.Delete, .i6 y3.Replica, .i6 y3.Counter, .i6 y3.AfterReplica, .i6 y3.AfterCounter, .string y3.Line]) 2 rfl 0 rfl (lb rfl))) F S, yl_ev rfl rfl (ev_load1 tu46 rfl rfl (box_ptr (cells := [v2]) 3 rfl 0 rfl (lb rfl))) F S, trivial⟩ ?_
           refine dv_op ok3 8 rfl [(0, v2)] ?_
           refine wl_lit (l := ([y3] : List SeqOp)) (vs := [.agg #[.bool y3.Delete, .i6 y3.Replica, .i6 y3.Counter, .i6 y3.AfterReplica, .i6 y3.AfterCounter, .string y3.Line]]) (parts := [(0, .tmp 37)]) (wn rfl) rfl rfl rfl tu22 te33 (sz_cons rfl sz_nil) rfl (Cat.cons (rep_SeqOp_mk (x := y3) ) (Cat.nil _)) (coa_cons rfl coa_nil) rfl F S rfl rfl ?_; clear F a S
           rintro v11 c14 a w h14 F S
           refine dv_nx ⟨yl_ev rfl rfl (ev_load1 tu46 rfl rfl (box_ptr (cells := [v2]) 4 rfl 0 rfl (lb rfl))) F S, trivial⟩ ?_
           refine dv_join (HJ _ _ ?_)
           replace S : St g8 [c14, c12, c13, [bx b4 #[v2] 46], [bx b3 #[v1] 45], [bx b1 #[.i6 0, .i6 0] 25], c8] fr w := St.tail [c14, c12, c13, [bx b4 #[v2] 46], [bx b3 #[v1] 45], [bx b1 #[.i6 0, .i6 0] 25], c8] _ (((((((S.frontC 7 rfl).frontC 7 rfl).frontC 7 rfl).frontC 7 rfl).frontC 6 rfl).frontC 6 rfl).frontC 6 rfl)
           exact ⟨([y3] : List SeqOp), (deadM x4 (y7.counter, y7.replica)), v11, v10, c14, c12, c13, g8, F.sub ⟨rfl, rfl, rfl, rfl, rfl, rfl, rfl, rfl, rfl, rfl, trivial⟩, (l7.trans l8), S, h14, h12, h13, hm⟩
          ·refine wl_lit (l := ([y3] : List SeqOp)) (vs := [.agg #[.bool y3.Delete, .i6 y3.Replica, .i6 y3.Counter, .i6 y3.AfterReplica, .i6 y3.AfterCounter, .string y3.Line]]) (parts := [(0, .tmp 37)]) (wn rfl) rfl rfl rfl tu22 te33 (sz_cons rfl sz_nil) rfl (Cat.cons (rep_SeqOp_mk (x := y3) ) (Cat.nil _)) (coa_cons rfl coa_nil) rfl F S rfl rfl ?_; clear F a S
           rintro v11 c14 a w h14 F S
           refine dv_nx ⟨yl_ev rfl rfl (ev_load1 tu46 rfl rfl (box_ptr (cells := [v2]) 2 rfl 0 rfl (lb rfl))) F S, yl_ev rfl rfl (ev_load1 tu46 rfl rfl (box_ptr (cells := [v2]) 2 rfl 0 rfl (lb rfl))) F S, trivial⟩ ?_
           refine dv_op ok3 6 rfl [(0, v2)] ?_
           replace S : St g8 [c7, c14, [bx b7 #[.bool y3.Delete, .i6 y3.Replica, .i6 y3.Counter, .i6 y3.AfterReplica, .i6 y3.AfterCounter, .string y3.Line] 33], [bx b4 #[v2] 46], [bx b3 #[v1] 45], [bx b1 #[.i6 0, .i6 0] 25], c8] fr w := (((((((S.frontC 6 rfl).frontC 5 rfl).frontC 5 rfl).frontC 5 rfl).frontC 5 rfl).frontC 5 rfl).frontC 11 rfl)
           obtain ⟨v10, c12, c13, h12, h13, hL1, hP1⟩ := OwnR.look (h7.mono (l7.trans l8)) hy8
           replace S : St g8 [c12, c13, c14, [bx b7 #[.bool y3.Delete, .i6 y3.Replica, .i6 y3.Counter, .i6 y3.AfterReplica, .i6 y3.AfterCounter, .string y3.Line] 33], [bx b4 #[v2] 46], [bx b3 #[v1] 45], [bx b1 #[.i6 0, .i6 0] 25], c8] fr w := St.splitM hP1 S
           refine wE (ev_lookR hL1 tk48 tu46 tz22 rfl (k := (y7.counter, y7.replica)) rfl 1 rfl) F S rfl fun a F=>?_
           refine dv_nx ⟨yl_ev rfl rfl (ev_load1 tu46 rfl rfl (box_ptr (cells := [v2]) 4 rfl 0 rfl (lb rfl))) F S, trivial⟩ ?_
           refine dv_join (HJ _ _ ?_)
           replace S : St g8 [c14, c12, c13, [bx b4 #[v2] 46], [bx b3 #[v1] 45], [bx b1 #[.i6 0, .i6 0] 25], c8] fr w := St.tail [c14, c12, c13, [bx b4 #[v2] 46], [bx b3 #[v1] 45], [bx b1 #[.i6 0, .i6 0] 25], c8] _ (((((((S.frontC 7 rfl).frontC 7 rfl).frontC 7 rfl).frontC 7 rfl).frontC 5 rfl).frontC 5 rfl).frontC 8 rfl)
           exact ⟨([y3] : List SeqOp), (deadM x4 (y7.counter, y7.replica)), v11, v10, c14, c12, c13, g8, F.sub ⟨rfl, rfl, rfl, rfl, rfl, rfl, rfl, rfl, rfl, rfl, trivial⟩, (l7.trans l8), S, h14, h12, h13, hm⟩
         ·refine wl_lit (l := ([y3] : List SeqOp)) (vs := [.agg #[.bool y3.Delete, .i6 y3.Replica, .i6 y3.Counter, .i6 y3.AfterReplica, .i6 y3.AfterCounter, .string y3.Line]]) (parts := [(0, .tmp 37)]) (wn rfl) rfl rfl rfl tu22 te33 (sz_cons rfl sz_nil) rfl (Cat.cons (rep_SeqOp_mk (x := y3) ) (Cat.nil _)) (coa_cons rfl coa_nil) rfl F S rfl rfl ?_; clear F a S
          rintro v11 c14 a w h14 F S
          refine dv_nx ⟨yl_ev rfl rfl (ev_loadA tu33 rfl (cs := [.bool y3.Delete, .i6 y3.Replica, .i6 y3.Counter, .i6 y3.AfterReplica, .i6 y3.AfterCounter, .string y3.Line]) ts33 rfl (box_ptr (cells := [.bool y3.Delete, .i6 y3.Replica, .i6 y3.Counter, .i6 y3.AfterReplica, .i6 y3.AfterCounter, .string y3.Line]) 1 rfl 0 rfl (lb rfl))) F S, yl_ev rfl rfl (ev_load1 tu46 rfl rfl (box_ptr (cells := [v2]) 2 rfl 0 rfl (lb rfl))) F S, yl_ev rfl rfl (ev_load1 tu46 rfl rfl (box_ptr (cells := [v2]) 2 rfl 0 rfl (lb rfl))) F S, trivial⟩ ?_
          refine dv_op ok3 5 rfl [(3, v2), (0, v2)] ?_
          refine wl_call0 (wn rfl) rfl F rfl (sequence_after_ok (fr := (fl [c14, [bx b7 #[.bool y3.Delete, .i6 y3.Replica, .i6 y3.Counter, .i6 y3.AfterReplica, .i6 y3.AfterCounter, .string y3.Line] 33], [bx b4 #[v2] 46], [bx b3 #[v1] 45], [bx b1 #[.i6 0, .i6 0] 25], c7, c8] fr)) y3 S hy7) rfl tc24 rfl rfl ?_; clear F a S
          rintro _ a w ⟨g8, l8, S, rfl⟩ F; replace S : St g8 [c14, [bx b7 #[.bool y3.Delete, .i6 y3.Replica, .i6 y3.Counter, .i6 y3.AfterReplica, .i6 y3.AfterCounter, .string y3.Line] 33], [bx b4 #[v2] 46], [bx b3 #[v1] 45], [bx b1 #[.i6 0, .i6 0] 25], c7, c8] fr w := S
          refine dv_nx ⟨yl_ev rfl rfl (ev_load1 tu46 rfl rfl (box_ptr (cells := [v2]) 2 rfl 0 rfl (lb rfl))) F S, yl_ev rfl rfl (ev_load1 tu46 rfl rfl (box_ptr (cells := [v2]) 2 rfl 0 rfl (lb rfl))) F S, trivial⟩ ?_
          refine dv_op ok3 6 rfl [(0, v2)] ?_
          replace S : St g8 [c7, c14, [bx b7 #[.bool y3.Delete, .i6 y3.Replica, .i6 y3.Counter, .i6 y3.AfterReplica, .i6 y3.AfterCounter, .string y3.Line] 33], [bx b4 #[v2] 46], [bx b3 #[v1] 45], [bx b1 #[.i6 0, .i6 0] 25], c8] fr w := (((((((S.frontC 6 rfl).frontC 5 rfl).frontC 5 rfl).frontC 5 rfl).frontC 5 rfl).frontC 5 rfl).frontC 11 rfl)
          obtain ⟨v10, c12, c13, h12, h13, hL1, hP1⟩ := OwnR.look (h7.mono (l7.trans l8)) hy8
          replace S : St g8 [c12, c13, c14, [bx b7 #[.bool y3.Delete, .i6 y3.Replica, .i6 y3.Counter, .i6 y3.AfterReplica, .i6 y3.AfterCounter, .string y3.Line] 33], [bx b4 #[v2] 46], [bx b3 #[v1] 45], [bx b1 #[.i6 0, .i6 0] 25], c8] fr w := St.splitM hP1 S
          refine wE (ev_lookR hL1 tk48 tu46 tz22 rfl (k := (y7.counter, y7.replica)) rfl 1 rfl) F S rfl fun a F=>?_
          refine dv_nx ⟨yl_ev rfl rfl (ev_load1 tu46 rfl rfl (box_ptr (cells := [v2]) 4 rfl 0 rfl (lb rfl))) F S, trivial⟩ ?_
          refine dv_join (HJ _ _ ?_)
          replace S : St g8 [c14, c12, c13, [bx b4 #[v2] 46], [bx b3 #[v1] 45], [bx b1 #[.i6 0, .i6 0] 25], c8] fr w := St.tail [c14, c12, c13, [bx b4 #[v2] 46], [bx b3 #[v1] 45], [bx b1 #[.i6 0, .i6 0] 25], c8] _ (((((((S.frontC 7 rfl).frontC 7 rfl).frontC 7 rfl).frontC 7 rfl).frontC 5 rfl).frontC 5 rfl).frontC 8 rfl)
          exact ⟨([y3] : List SeqOp), (deadM x4 (y7.counter, y7.replica)), v11, v10, c14, c12, c13, g8, F.sub ⟨rfl, rfl, rfl, rfl, rfl, rfl, rfl, rfl, rfl, rfl, trivial⟩, (l7.trans l8), S, (h14.mono l8), h12, h13, hm⟩
        ·refine wl_lit (l := ([y3] : List SeqOp)) (vs := [.agg #[.bool y3.Delete, .i6 y3.Replica, .i6 y3.Counter, .i6 y3.AfterReplica, .i6 y3.AfterCounter, .string y3.Line]]) (parts := [(0, .tmp 37)]) (wn rfl) rfl rfl rfl tu22 te33 (sz_cons rfl sz_nil) rfl (Cat.cons (rep_SeqOp_mk (x := y3) ) (Cat.nil _)) (coa_cons rfl coa_nil) rfl F S rfl rfl ?_; clear F a S
         rintro v11 c14 a w h14 F S
         refine dv_nx ⟨yl_ev rfl rfl (ev_loadA tu33 rfl (cs := [.bool y3.Delete, .i6 y3.Replica, .i6 y3.Counter, .i6 y3.AfterReplica, .i6 y3.AfterCounter, .string y3.Line]) ts33 rfl (box_ptr (cells := [.bool y3.Delete, .i6 y3.Replica, .i6 y3.Counter, .i6 y3.AfterReplica, .i6 y3.AfterCounter, .string y3.Line]) 1 rfl 0 rfl (lb rfl))) F S, yl_ev rfl rfl (ev_load1 tu46 rfl rfl (box_ptr (cells := [v2]) 2 rfl 0 rfl (lb rfl))) F S, yl_ev rfl rfl (ev_loadA tu33 rfl (cs := [.bool y3.Delete, .i6 y3.Replica, .i6 y3.Counter, .i6 y3.AfterReplica, .i6 y3.AfterCounter, .string y3.Line]) ts33 rfl (box_ptr (cells := [.bool y3.Delete, .i6 y3.Replica, .i6 y3.Counter, .i6 y3.AfterReplica, .i6 y3.AfterCounter, .string y3.Line]) 1 rfl 0 rfl (lb rfl))) F S, yl_ev rfl rfl (ev_load1 tu46 rfl rfl (box_ptr (cells := [v2]) 2 rfl 0 rfl (lb rfl))) F S, trivial⟩ ?_
         refine dv_op ok3 2 rfl [(4, .agg #[.bool y3.Delete, .i6 y3.Replica, .i6 y3.Counter, .i6 y3.AfterReplica, .i6 y3.AfterCounter, .string y3.Line]), (3, v2), (0, v2)] ?_
         refine wl_call0 (wn rfl) rfl F rfl (sequence_after_ok (fr := (fl [c14, [bx b7 #[.bool y3.Delete, .i6 y3.Replica, .i6 y3.Counter, .i6 y3.AfterReplica, .i6 y3.AfterCounter, .string y3.Line] 33], [bx b4 #[v2] 46], [bx b3 #[v1] 45], [bx b1 #[.i6 0, .i6 0] 25], c7, c8] fr)) y3 S hy6) rfl tc24 rfl rfl ?_; clear F a S
         rintro _ a w ⟨g7, l7, S, rfl⟩ F; replace S : St g7 [c14, [bx b7 #[.bool y3.Delete, .i6 y3.Replica, .i6 y3.Counter, .i6 y3.AfterReplica, .i6 y3.AfterCounter, .string y3.Line] 33], [bx b4 #[v2] 46], [bx b3 #[v1] 45], [bx b1 #[.i6 0, .i6 0] 25], c7, c8] fr w := S
         refine dv_nx ⟨yl_ev rfl rfl (ev_loadA tu33 rfl (cs := [.bool y3.Delete, .i6 y3.Replica, .i6 y3.Counter, .i6 y3.AfterReplica, .i6 y3.AfterCounter, .string y3.Line]) ts33 rfl (box_ptr (cells := [.bool y3.Delete, .i6 y3.Replica, .i6 y3.Counter, .i6 y3.AfterReplica, .i6 y3.AfterCounter, .string y3.Line]) 1 rfl 0 rfl (lb rfl))) F S, yl_ev rfl rfl (ev_load1 tu46 rfl rfl (box_ptr (cells := [v2]) 2 rfl 0 rfl (lb rfl))) F S, yl_ev rfl rfl (ev_load1 tu46 rfl rfl (box_ptr (cells := [v2]) 2 rfl 0 rfl (lb rfl))) F S, trivial⟩ ?_
         refine dv_op ok3 5 rfl [(3, v2), (0, v2)] ?_
         refine wl_call0 (wn rfl) rfl F rfl (sequence_after_ok (fr := (fl [c14, [bx b7 #[.bool y3.Delete, .i6 y3.Replica, .i6 y3.Counter, .i6 y3.AfterReplica, .i6 y3.AfterCounter, .string y3.Line] 33], [bx b4 #[v2] 46], [bx b3 #[v1] 45], [bx b1 #[.i6 0, .i6 0] 25], c7, c8] fr)) y3 S hy7) rfl tc24 rfl rfl ?_; clear F a S
         rintro _ a w ⟨g8, l8, S, rfl⟩ F; replace S : St g8 [c14, [bx b7 #[.bool y3.Delete, .i6 y3.Replica, .i6 y3.Counter, .i6 y3.AfterReplica, .i6 y3.AfterCounter, .string y3.Line] 33], [bx b4 #[v2] 46], [bx b3 #[v1] 45], [bx b1 #[.i6 0, .i6 0] 25], c7, c8] fr w := S
         refine dv_nx ⟨yl_ev rfl rfl (ev_load1 tu46 rfl rfl (box_ptr (cells := [v2]) 2 rfl 0 rfl (lb rfl))) F S, yl_ev rfl rfl (ev_load1 tu46 rfl rfl (box_ptr (cells := [v2]) 2 rfl 0 rfl (lb rfl))) F S, trivial⟩ ?_
         refine dv_op ok3 6 rfl [(0, v2)] ?_
         replace S : St g8 [c7, c14, [bx b7 #[.bool y3.Delete, .i6 y3.Replica, .i6 y3.Counter, .i6 y3.AfterReplica, .i6 y3.AfterCounter, .string y3.Line] 33], [bx b4 #[v2] 46], [bx b3 #[v1] 45], [bx b1 #[.i6 0, .i6 0] 25], c8] fr w := (((((((S.frontC 6 rfl).frontC 5 rfl).frontC 5 rfl).frontC 5 rfl).frontC 5 rfl).frontC 5 rfl).frontC 11 rfl)
         obtain ⟨v10, c12, c13, h12, h13, hL1, hP1⟩ := OwnR.look (h7.mono (l7.trans l8)) hy8
         replace S : St g8 [c12, c13, c14, [bx b7 #[.bool y3.Delete, .i6 y3.Replica, .i6 y3.Counter, .i6 y3.AfterReplica, .i6 y3.AfterCounter, .string y3.Line] 33], [bx b4 #[v2] 46], [bx b3 #[v1] 45], [bx b1 #[.i6 0, .i6 0] 25], c8] fr w := St.splitM hP1 S
         refine wE (ev_lookR hL1 tk48 tu46 tz22 rfl (k := (y7.counter, y7.replica)) rfl 1 rfl) F S rfl fun a F=>?_
         refine dv_nx ⟨yl_ev rfl rfl (ev_load1 tu46 rfl rfl (box_ptr (cells := [v2]) 4 rfl 0 rfl (lb rfl))) F S, trivial⟩ ?_
         refine dv_join (HJ _ _ ?_)
         replace S : St g8 [c14, c12, c13, [bx b4 #[v2] 46], [bx b3 #[v1] 45], [bx b1 #[.i6 0, .i6 0] 25], c8] fr w := St.tail [c14, c12, c13, [bx b4 #[v2] 46], [bx b3 #[v1] 45], [bx b1 #[.i6 0, .i6 0] 25], c8] _ (((((((S.frontC 7 rfl).frontC 7 rfl).frontC 7 rfl).frontC 7 rfl).frontC 5 rfl).frontC 5 rfl).frontC 8 rfl)
         exact ⟨([y3] : List SeqOp), (deadM x4 (y7.counter, y7.replica)), v11, v10, c14, c12, c13, g8, F.sub ⟨rfl, rfl, rfl, rfl, rfl, rfl, rfl, rfl, rfl, rfl, trivial⟩, (l7.trans l8), S, (h14.mono (l7.trans l8)), h12, h13, hm⟩
       ·clear F S hm; rintro a w ⟨x9, x11, v12, v13, c15, c16, c17, g9, F, l9, S, h15, h16, h17, hm⟩
        refine dv_op ok3 9 rfl [(0, v2)] ?_
        obtain ⟨cs2, hk1, hr3⟩ := OwnS.reads h15
        obtain ⟨y9, hy9, hm⟩ := bind_some hm
        refine wl_append (wn rfl) rfl tu22 tu22 te33 (by decide) (by decide) F S rfl rfl (k := 1) rfl h16 hk1 rfl (hr3 _ _ _ 0 rfl S) hy9 rfl rfl ?_; clear F a S
        rintro v15 c18 a w h18 S F; replace S : St g9 [c15, c18, c17, [bx b4 #[v2] 46], [bx b3 #[v1] 45], [bx b1 #[.i6 0, .i6 0] 25], c8] fr w := S
        refine dv_nx ⟨yl_ev rfl rfl (ev_load1 tu46 rfl rfl (box_ptr (cells := [v2]) 3 rfl 0 rfl (lb rfl))) F S, trivial⟩ ?_
        refine dv_op ok3 10 rfl [] ?_
        replace S : St g9 [c17, c18, c15, [bx b4 #[v2] 46], [bx b3 #[v1] 45], [bx b1 #[.i6 0, .i6 0] 25], c8] fr w := (((((((S.frontC 6 rfl).frontC 6 rfl).frontC 6 rfl).frontC 6 rfl).frontC 4 rfl).frontC 6 rfl).frontC 8 rfl)
        refine wl_updR h17 h18 tk48 tu46 (wn rfl) rfl F S rfl (k := (y6.counter, y6.replica)) rfl rfl rfl ?_; clear S
        rintro c19 w h19 S; replace S : St g9 [c19, c15, [bx b4 #[v2] 46], [bx b3 #[v1] 45], [bx b1 #[.i6 0, .i6 0] 25], c8] fr w := S
        obtain ⟨y10, hy10, hm⟩ := bind_some hm
        replace h19 : OwnR g9 y10 v2 c19 := sinj hy10 ▸ h19
        refine dv_nx trivial ?_
        refine dv_fin ok3 ?_
        refine inb_n ?_
        refine then_n ?_
        replace S : St g9 [[bx b4 #[v2] 46], [bx b3 #[v1] 45], [bx b1 #[.i6 0, .i6 0] 25], c19, c8] fr w := St.tail [[bx b4 #[v2] 46], [bx b3 #[v1] 45], [bx b1 #[.i6 0, .i6 0] 25], c19, c8] _ (((((S.frontC 5 rfl).frontC 1 rfl).frontC 6 rfl).frontC 6 rfl).frontC 6 rfl)
        exact ⟨y10, x5, c19, c8, g9, F.sub ⟨rfl, rfl, rfl, rfl, rfl, rfl, trivial⟩, l9, S, h19, (h8.mono l9), hm⟩
     ·clear F S hm; rintro a w ⟨x7, x8, c9, c10, g5, F, l5, S, h9, h10, hm⟩
      refine wp_region_lit ?_
      obtain ⟨z1, hz1, hm⟩ := bind_some hm
      refine wE (ev_int rfl rfl (bo_add hz1)) F S rfl fun a F=>?_
      refine wE (ev_move rfl) F S rfl fun a F=>?_
      refine wpList_nil ?_
      refine then_n ?_
      obtain rfl := sinj hm
      refine ⟨_, rfl, ?_⟩
      dsimp only
      exact ⟨c9, c10, g5, F.sub ⟨rfl, rfl, rfl, rfl, rfl, rfl, trivial⟩, (l4.trans l5), S, h9, h10⟩
    ·refine wp_condF F rfl hc2 ?_
     refine wp_exit ?_
     refine then_e ?_
     refine then_e ?_
     refine inb_x ?_
     refine then_n ?_
     obtain rfl := sinj hm
     obtain rfl := hfin1 _ rfl
     clear hm
     have hm : (sequence_Visible.j1 x4 x5 : Option ((List ByteArray) × Fault)) = some _ := hmo1
     exact ⟨x4, x5, c7, c8, g4, F.sub ⟨rfl, rfl, rfl, trivial⟩, l4, S, h7, h8, hm⟩
  ·clear F S hm; rintro a w ⟨x1, x2, c3, c4, g2, F, l2, S, h3, h4, hm⟩
   refine wp_seq ?_
   refine wp_region_lit ?_
   refine wl_alloc (wn rfl) rfl tz23 (cs := [nilS]) rfl F S rfl rfl ?_; clear F a S; rintro b5 a w F S
   refine wpList_nil ?_
   refine then_n ?_
   refine wp_seq ?_
   refine wp_region_lit ?_
   refine wl_alloc (wn rfl) rfl tz50 (cs := [.nilFunc]) rfl F S rfl rfl ?_; clear F a S; rintro b6 a w F S
   refine wpList_nil ?_
   refine then_n ?_
   refine wp_seq ?_
   refine wp_region_lit ?_
   refine wE (ev_makeFunc (xs := [.tmp 6, .tmp 5, .tmp 9, .tmp 10]) (vs := [bp b4 0, bp b3 0, bp b5 0, bp b6 0]) rfl) F S rfl fun a F=>?_
   refine wl_storeC (wn rfl) rfl F S rfl rfl (vs := [.func (.func 25) #[] #[bp b4 0, bp b3 0, bp b5 0, bp b6 0]]) rfl ts50 (one_cons rfl one_nil) (k := 0) rfl (lb rfl) (c' := #[.func (.func 25) #[] #[bp b4 0, bp b3 0, bp b5 0, bp b6 0]]) rfl rfl ?_; clear S; intro w S
   refine wpList_nil ?_
   refine then_n ?_
   refine wp_seq ?_
   refine wp_region_lit ?_
   refine wE (ev_load1 tu50 rfl rfl (box_ptr (cells := [.func (.func 25) #[] #[bp b4 0, bp b3 0, bp b5 0, bp b6 0]]) 0 rfl 0 rfl (lb rfl))) F S rfl fun a F=>?_
   refine wE (ev_build (parts := []) (vs := []) rfl (fun w => tb48_  w)) F S rfl fun a F=>?_
   replace S : St g2 [[], [(b6, .cells #[.func (.func 25) #[] #[bp b4 0, bp b3 0, bp b5 0, bp b6 0]] 50 (0, 0))], [bx b5 #[nilS] 23], [bx b4 #[v2] 46], [bx b3 #[v1] 45], [bx b1 #[.i6 0, .i6 0] 25], c3, c4] fr w := S
   replace S : St g2 [[bx b4 #[v2] 46], c3, [bx b3 #[v1] 45], c4, [bx b5 #[nilS] 23], [], [(b6, .cells #[.func (.func 25) #[] #[bp b4 0, bp b3 0, bp b5 0, bp b6 0]] 50 (0, 0))], [bx b1 #[.i6 0, .i6 0] 25]] fr w := ((((((((S.frontC 5 rfl).frontC 2 rfl).frontC 2 rfl).frontC 5 rfl).frontC 11 rfl).frontC 9 rfl).frontC 12 rfl).frontC 10 rfl)
   obtain ⟨y2, hy2, hm⟩ := bind_some hm
   refine wl_call (wn rfl) rfl (xs := [.tmp 43]) (vs := [.agg #[.i6 0, .i6 0]]) (cap := [bp b4 0, bp b3 0, bp b5 0, bp b6 0]) F rfl rfl tc25 (sequence_Visible_s1_ok (g := g2) (fr := (fl [[bx b1 #[.i6 0, .i6 0] 25]] fr)) (w := w) ({ counter := 0, replica := 0 } : Element_sequence) b4 x1 v2 c3 h3 b3 x2 v1 c4 h4 b5 [] (nilS) [] (OwnS.nil _) b6 S hy2) rfl rfl ?_; clear F a S
   rintro _ a w ⟨g3, v5, c5, c6, l3, S, h5, h6, rfl⟩ F; replace S : St g3 [[bx b4 #[v2] 46], c5, [bx b3 #[v1] 45], c4, [bx b5 #[v5] 23], c6, [(b6, .cells #[.func (.func 25) #[] #[bp b4 0, bp b3 0, bp b5 0, bp b6 0]] 50 (0, 0))], [bx b1 #[.i6 0, .i6 0] 25]] fr w := S
   refine wpList_nil ?_
   refine then_n ?_
   refine wp_seq ?_
   refine wp_region_lit ?_
   refine wE (ev_load1 tu23 rfl rfl (box_ptr (cells := [v5]) 4 rfl 0 rfl (lb rfl))) F S rfl fun a F=>?_
   refine wE (ev_build (parts := []) (vs := []) rfl (fun w => tb25_  w)) F S rfl fun a F=>?_
   refine wE (ev_assign rfl) F S rfl fun a F=>?_
   refine wl_storeC (wn rfl) rfl F S rfl rfl (vs := [.i6 0, .i6 0]) rfl ts25 (one_cons rfl (one_cons rfl one_nil)) (k := 7) rfl (lb rfl) (c' := #[.i6 0, .i6 0]) rfl rfl ?_; clear S; intro w S
   refine wpList_nil ?_
   refine then_n ?_
   refine wp_ret ?_
   obtain rfl := sinj hm
   refine post_r _ F rfl (ar_cons (resT rfl) (ar_cons (resA rfl tu25 rfl (box_ptr (cells := [.i6 0, .i6 0]) 7 rfl 0 rfl (lb rfl) w S) ts25) ar_nil)) ?_
   replace S : St g3 [c6] fr w := St.tail [c6] _ (S.frontC 5 rfl)
   exact ⟨_, rfl, g3, v5, c6, ((l1.trans l2).trans l3), S, h6, rfl⟩

theorem changeforgeequal_Strings_ok {g : Gh} {fr : Hl} {w : World} {r : Bool} (a_ : (List ByteArray)) (va_1 : Value) (ha_1 : RepSl g a_ va_1) (b_ : (List ByteArray)) (vb_1 : Value) (hb_1 : RepSl g b_ vb_1) (S : St g [] fr w) (hm : changeforgeequal_Strings a_ b_ = some r) :
  Calls Try.prog 12 [va_1, vb_1].toArray w (fun en w' => ∃ v, en = .returned v ∧ ∃ (g' : Gh), Le g g' ∧ St g' [] fr w' ∧ .bool r = v) := by
 unfold changeforgeequal_Strings at hm
 refine calls_enter (fn := Try.f12) Try.func12 rfl Try.ntmps12 (lb rfl) ?_
 intro a F
 replace F : Fr 26 a [(0, va_1), (1, vb_1)] := F
 refine wp_seq ?_
 refine wp_region_lit ?_
 refine wE (ev_assign rfl) F S rfl fun a F=>?_
 refine wpList_nil ?_
 refine then_n ?_
 refine wp_seq ?_
 refine wp_seq ?_
 refine wp_region_lit ?_
 refine wE (ev_move rfl) F S rfl fun a F=>?_
 refine wE (ev_lenSh ha_1 rfl tu23) F S rfl fun a F=>?_
 refine wE (ev_move rfl) F S rfl fun a F=>?_
 refine wE (ev_lenSh hb_1 rfl tu23) F S rfl fun a F=>?_
 refine wE (ev_int rfl rfl (bo_neq _ _ _ _)) F S rfl fun a F=>?_
 refine wpList_nil ?_
 refine then_n ?_
 obtain ⟨hc1, hm⟩ | ⟨hc1, hm⟩ := ite_or hm
 ·refine wp_condT F rfl hc1 ?_
  refine wp_seq ?_
  refine wp_region_lit ?_
  refine wE (ev_assign rfl) F S rfl fun a F=>?_
  refine wpList_nil ?_
  refine then_n ?_
  refine wp_ret ?_
  refine then_r ?_
  obtain rfl := sinj hm
  refine post_r _ F rfl (ar_cons (resT rfl) ar_nil) ?_
  exact ⟨_, rfl, g, (Le.refl _), S, rfl⟩
 ·refine wp_condF F rfl hc1 ?_
  refine wp_skip ?_
  refine then_n ?_
  refine wp_cut (fun a w => ∃ (g1 : Gh), Fr 26 a [] ∧ Le g g1 ∧ St g1 [] fr w ∧ changeforgeequal_Strings.j1 = some r) ?_ ?_
  ·refine wp_seq ?_
   refine wp_region_lit ?_
   refine wE (ev_assign rfl) F S rfl fun a F=>?_
   refine wpList_nil ?_
   refine then_n ?_
   refine wp_block ?_
   obtain ⟨r1, hr1, hm⟩ := bind_some hm
   have hmo1 := hm; clear hm
   refine wp_iter (σ := Int) (ρ := Bool ⊕ Unit) (m := fun s => changeforgeequal_Strings.l1 a_ b_ s) (I := fun x1 a w => ∃ (g2 : Gh), Fr 26 a [(5, .i6 x1), (0, va_1), (1, vb_1)] ∧ Le g g2 ∧ St g2 [] fr w) hr1 ?_ ?_
   ·exact ⟨g, F.sub ⟨rfl, rfl, rfl, trivial⟩, (Le.refl _), S⟩
   ·clear F S; rintro x1 a w x2 ⟨g2, F, l2, S⟩ hx1 hfin1
    have hm : changeforgeequal_Strings.l1 a_ b_ x1 = some x2 := hx1; clear hx1
    unfold changeforgeequal_Strings.l1 at hm
    refine wp_seq ?_
    refine wp_seq ?_
    refine wp_region_lit ?_
    refine wE (ev_move rfl) F S rfl fun a F=>?_
    refine wE (ev_move rfl) F S rfl fun a F=>?_
    refine wE (ev_lenSh ha_1 rfl tu23) F S rfl fun a F=>?_
    refine wE (ev_int rfl rfl (bo_lss _ _ _ _)) F S rfl fun a F=>?_
    refine wpList_nil ?_
    refine then_n ?_
    obtain ⟨hc2, hm⟩ | ⟨hc2, hm⟩ := ite_or hm
    ·refine wp_condT F rfl hc2 ?_
     refine wp_skip ?_
     refine then_n ?_
     refine wp_seq ?_
     refine wp_block ?_
     refine wp_seq ?_
     refine wp_quiet mo (by kernel_rfl) S ?_
     refine wq_ev (wn rfl) (ev_move rfl) F rfl rfl ?_; clear F a; intro a F
     refine wq_ev (wn rfl) (ev_move rfl) F rfl rfl ?_; clear F a; intro a F
     obtain ⟨y1, hy1, hm⟩ := bind_some hm
     obtain ⟨cs1, hr2, hp1⟩ := elemS (ha_1.mono l2) hy1
     obtain rfl := rep_str hr2
     refine wq_ev (wn rfl) (ev_idxS (ha_1.mono l2) hy1 tu23 ts9 rfl rfl) F rfl rfl ?_; clear F a; intro a F
     refine wq_ev (wn rfl) (ev_load1 tu9 rfl rfl (ptr_mono (cks := []) (fr := fr) hp1 (Le.refl _))) F rfl rfl ?_; clear F a; intro a F
     refine wq_ev (wn rfl) (ev_move rfl) F rfl rfl ?_; clear F a; intro a F
     refine wq_ev (wn rfl) (ev_move rfl) F rfl rfl ?_; clear F a; intro a F
     obtain ⟨y2, hy2, hm⟩ := bind_some hm
     obtain ⟨cs2, hr3, hp2⟩ := elemS (hb_1.mono l2) hy2
     obtain rfl := rep_str hr3
     refine wq_ev (wn rfl) (ev_idxS (hb_1.mono l2) hy2 tu23 ts9 rfl rfl) F rfl rfl ?_; clear F a; intro a F
     refine wq_ev (wn rfl) (ev_load1 tu9 rfl rfl (ptr_mono (cks := []) (fr := fr) hp2 (Le.refl _))) F rfl rfl ?_; clear F a; intro a F
     refine wq_ev (wn rfl) (ev_str rfl rfl (bs_neq _ _ _)) F rfl rfl ?_; clear F a; intro a F
     refine wq_nil ?_; clear S; intro w S
     refine then_n ?_
     obtain ⟨hc3, hm⟩ | ⟨hc3, hm⟩ := ite_or hm
     ·refine wp_condT F rfl hc3 ?_
      refine wp_seq ?_
      refine wp_region_lit ?_
      refine wE (ev_assign rfl) F S rfl fun a F=>?_
      refine wpList_nil ?_
      refine then_n ?_
      refine wp_ret ?_
      refine inb_r ?_
      refine then_r ?_
      refine then_r ?_
      refine inb_r ?_
      refine then_r ?_
      obtain rfl := sinj hm
      obtain rfl := hfin1 _ rfl
      clear hm
      have hm : (some false : Option Bool) = some _ := hmo1
      obtain rfl := sinj hm
      refine post_r _ F rfl (ar_cons (resT rfl) ar_nil) ?_
      exact ⟨_, rfl, g2, l2, S, rfl⟩
     ·refine wp_condF F rfl hc3 ?_
      refine wp_skip ?_
      refine inb_n ?_
      refine then_n ?_
      refine wp_region_lit ?_
      refine wE (ev_move rfl) F S rfl fun a F=>?_
      obtain ⟨z1, hz1, hm⟩ := bind_some hm
      refine wE (ev_int rfl rfl (bo_add hz1)) F S rfl fun a F=>?_
      refine wE (ev_assign rfl) F S rfl fun a F=>?_
      refine wpList_nil ?_
      refine then_n ?_
      obtain rfl := sinj hm
      refine ⟨_, rfl, ?_⟩
      exact ⟨g2, F.sub ⟨rfl, rfl, rfl, trivial⟩, l2, S⟩
    ·refine wp_condF F rfl hc2 ?_
     refine wp_exit ?_
     refine then_e ?_
     refine then_e ?_
     refine inb_x ?_
     refine then_n ?_
     obtain rfl := sinj hm
     obtain rfl := hfin1 _ rfl
     clear hm
     have hm : (changeforgeequal_Strings.j1 : Option Bool) = some _ := hmo1
     exact ⟨g2, F.sub trivial, l2, S, hm⟩
  ·clear F S hm; rintro a w ⟨g1, F, l1, S, hm⟩
   refine wp_seq ?_
   refine wp_region_lit ?_
   refine wE (ev_assign rfl) F S rfl fun a F=>?_
   refine wpList_nil ?_
   refine then_n ?_
   refine wp_ret ?_
   obtain rfl := sinj hm
   refine post_r _ F rfl (ar_cons (resT rfl) ar_nil) ?_
   exact ⟨_, rfl, g1, l1, S, rfl⟩

theorem changeforgelaw2_insert_ok {g : Gh} {fr : Hl} {w : World} {r : SeqOp} (counter : Int) (replica : Int) (afterCounter : Int) (afterReplica : Int) (line : ByteArray) (S : St g [] fr w) (hm : changeforgelaw2_insert counter replica afterCounter afterReplica line = some r) :
  Calls Try.prog 15 [.i6 counter, .i6 replica, .i6 afterCounter, .i6 afterReplica, .string line].toArray w (fun en w' => ∃ v, en = .returned v ∧ ∃ (g' : Gh), Le g g' ∧ St g' [] fr w' ∧ .agg #[.bool r.Delete, .i6 r.Replica, .i6 r.Counter, .i6 r.AfterReplica, .i6 r.AfterCounter, .string r.Line] = v) := by
 unfold changeforgelaw2_insert at hm
 refine calls_enter (fn := Try.f15) Try.func15 rfl Try.ntmps15 (lb rfl) ?_
 intro a F
 replace F : Fr 17 a [(0, .i6 counter), (1, .i6 replica), (2, .i6 afterCounter), (3, .i6 afterReplica), (4, .string line)] := F
 refine wp_seq ?_
 refine wp_region_lit ?_
 refine wl_alloc (wn rfl) rfl tz33 (cs := [.bool false, .i6 0, .i6 0, .i6 0, .i6 0, .string ByteArray.empty]) rfl F S rfl rfl ?_; clear F a S; rintro b1 a w F S
 refine wpList_nil ?_
 refine then_n ?_
 refine wp_seq ?_
 refine wp_region_lit ?_
 refine wE (ev_move rfl) F S rfl fun a F=>?_
 refine wE (ev_move rfl) F S rfl fun a F=>?_
 refine wE (ev_move rfl) F S rfl fun a F=>?_
 refine wE (ev_move rfl) F S rfl fun a F=>?_
 refine wE (ev_move rfl) F S rfl fun a F=>?_
 refine wE (ev_build (parts := [(2, .tmp 11), (1, .tmp 12), (4, .tmp 13), (3, .tmp 14), (5, .tmp 15)]) (vs := [(2, .i6 counter), (1, .i6 replica), (4, .i6 afterCounter), (3, .i6 afterReplica), (5, .string line)]) rfl (fun w => tb33_2_1_4_3_5 counter replica afterCounter afterReplica line w)) F S rfl fun a F=>?_
 refine wl_storeC (wn rfl) rfl F S rfl rfl (vs := [.bool false, .i6 replica, .i6 counter, .i6 afterReplica, .i6 afterCounter, .string line]) rfl ts33 (one_cons rfl (one_cons rfl (one_cons rfl (one_cons rfl (one_cons rfl (one_cons rfl one_nil)))))) (k := 0) rfl (lb rfl) (c' := #[.bool false, .i6 replica, .i6 counter, .i6 afterReplica, .i6 afterCounter, .string line]) rfl rfl ?_; clear S; intro w S
 refine wpList_nil ?_
 refine then_n ?_
 refine wp_ret ?_
 obtain rfl := sinj hm
 refine post_r _ F rfl (ar_cons (resA rfl tu33 rfl (box_ptr (cells := [.bool false, .i6 replica, .i6 counter, .i6 afterReplica, .i6 afterCounter, .string line]) 0 rfl 0 rfl (lb rfl) w S) ts33) ar_nil) ?_
 replace S : St g [] fr w := St.tail [] _ S
 exact ⟨_, rfl, g, (Le.refl _), S, rfl⟩

theorem changeforgelaw2_latest_ok {g : Gh} {fr : Hl} {w : World} {r : Bool}  (S : St g [] fr w) (hm : changeforgelaw2_latest = some r) :
  Calls Try.prog 11 [].toArray w (fun en w' => ∃ v, en = .returned v ∧ ∃ (g' : Gh), Le g g' ∧ St g' [] fr w' ∧ .bool r = v) := by
 unfold changeforgelaw2_latest at hm
 refine calls_enter (fn := Try.f11) Try.func11 rfl Try.ntmps11 (lb rfl) ?_
 intro a F
 replace F : Fr 18 a [] := F
 refine wp_seq ?_
 refine wp_region_lit ?_
 refine wE (ev_assign rfl) F S rfl fun a F=>?_
 refine wpList_nil ?_
 refine then_n ?_
 refine wp_seq ?_
 refine wp_region_lit ?_
 obtain ⟨y1, hy1, hm⟩ := bind_some hm
 refine wl_call0 (wn rfl) rfl F rfl (changeforgelaw2_insert_ok 1 0 0 0 (⟨#[97]⟩ : ByteArray) S hy1) rfl tc15 rfl rfl ?_; clear F a S
 rintro _ a w ⟨g1, l1, S, rfl⟩ F; replace S : St g1 [] fr w := S
 obtain ⟨y2, hy2, hm⟩ := bind_some hm
 refine wl_call0 (wn rfl) rfl F rfl (changeforgelaw2_insert_ok 2 0 0 0 (⟨#[98]⟩ : ByteArray) S hy2) rfl tc15 rfl rfl ?_; clear F a S
 rintro _ a w ⟨g2, l2, S, rfl⟩ F; replace S : St g2 [] fr w := S
 refine wl_lit (l := ([y1, y2] : List SeqOp)) (vs := [.agg #[.bool y1.Delete, .i6 y1.Replica, .i6 y1.Counter, .i6 y1.AfterReplica, .i6 y1.AfterCounter, .string y1.Line], .agg #[.bool y2.Delete, .i6 y2.Replica, .i6 y2.Counter, .i6 y2.AfterReplica, .i6 y2.AfterCounter, .string y2.Line]]) (parts := [(0, .tmp 4), (1, .tmp 5)]) (wn rfl) rfl rfl rfl tu22 te33 (sz_cons rfl (sz_cons rfl sz_nil)) rfl (Cat.cons (rep_SeqOp_mk (x := y1) ) (Cat.cons (rep_SeqOp_mk (x := y2) ) (Cat.nil _))) (coa_cons rfl (coa_cons rfl coa_nil)) rfl F S rfl rfl ?_; clear F a S
 rintro v1 c1 a w h1 F S
 obtain ⟨g3, l3, S, h2⟩ : ∃ gz, Le g2 gz ∧ St gz [] fr w ∧ RepSl gz ([y1, y2] : List SeqOp) v1 := ⟨_, Le.add _ _, S.freeze 0 rfl, OwnS.freeze (S.front 0 rfl) h1⟩
 obtain ⟨y3, hy3, hm⟩ := bind_some hm
 refine wl_call0 (wn rfl) rfl F rfl (sequence_Visible_ok ([y1, y2] : List SeqOp) v1 h2 S hy3) rfl tc9 rfl rfl ?_; clear F a S
 rintro _ a w ⟨g4, v2, c2, l4, S, h3, rfl⟩ F; replace S : St g4 [c2] fr w := S
 refine wE (ev_move rfl) F S rfl fun a F=>?_
 refine wE (ev_extract rfl rfl) F S rfl fun a F=>?_
 refine wE (ev_extract rfl rfl) F S rfl fun a F=>?_
 refine wl_alloc (wn rfl) rfl tz25 (cs := [.i6 0, .i6 0]) rfl F S rfl rfl ?_; clear F a S; rintro b1 a w F S
 refine wE (ev_assign rfl) F S rfl fun a F=>?_
 refine wl_storeC (wn rfl) rfl F S rfl rfl (vs := [.i6 y3.2.Code, .i6 y3.2.Index]) rfl ts25 (one_cons rfl (one_cons rfl one_nil)) (k := 0) rfl (lb rfl) (c' := #[.i6 y3.2.Code, .i6 y3.2.Index]) rfl rfl ?_; clear S; intro w S
 refine wpList_nil ?_
 refine then_n ?_
 refine wp_seq ?_
 refine wp_region_lit ?_
 refine wE (ev_fieldAddr' tu25 tf25_0 (z := 0) ts3 rfl ⟨_, rfl⟩ rfl) F S rfl fun a F=>?_
 refine wE (ev_load1 tu3 rfl rfl (box_ptr (cells := [.i6 y3.2.Code]) 0 rfl 0 rfl (lb rfl))) F S rfl fun a F=>?_
 refine wE (ev_int rfl rfl (bo_eql _ _ _ _)) F S rfl fun a F=>?_
 refine wE (ev_move rfl) F S rfl fun a F=>?_
 obtain ⟨g5, l5, S, h4⟩ : ∃ gz, Le g4 gz ∧ St gz [[bx b1 #[.i6 y3.2.Code, .i6 y3.2.Index] 25]] fr w ∧ RepSl gz y3.1 v2 := ⟨_, Le.add _ _, S.freeze 1 rfl, OwnS.freeze (S.front 1 rfl) h3⟩
 obtain ⟨x1, hx1, hm⟩ := bind_some hm
 refine wl_cut 4 (fun a w => ∃ g6, Fr 18 a [(17, .bool x1), (0, .bool false)] ∧ Le g5 g6 ∧ St g6 [[bx b1 #[.i6 y3.2.Code, .i6 y3.2.Index] 25]] fr w) ?_ ?_
 ·clear hm; obtain ⟨hc1, hm⟩ | ⟨hc1, hm⟩ := ite_or hx1
  ·refine wl_ev (wg F rfl rfl rfl rfl hc1) (ev_move rfl) F S rfl rfl ?_; clear F a; intro a F
   refine wl_lit (l := ([(⟨#[98]⟩ : ByteArray), (⟨#[97]⟩ : ByteArray)] : List ByteArray)) (vs := [.string (⟨#[98]⟩ : ByteArray), .string (⟨#[97]⟩ : ByteArray)]) (parts := [(0, .const (.string (⟨#[98]⟩ : ByteArray))), (1, .const (.string (⟨#[97]⟩ : ByteArray)))]) (wg F rfl rfl rfl rfl hc1) rfl rfl rfl tu23 te9 (sz_cons rfl (sz_cons rfl sz_nil)) rfl (Cat.cons (show Rep.rep _ (⟨#[98]⟩ : ByteArray) _ from rfl) (Cat.cons (show Rep.rep _ (⟨#[97]⟩ : ByteArray) _ from rfl) (Cat.nil _))) (coa_cons rfl (coa_cons rfl coa_nil)) rfl F S rfl rfl ?_; clear F a S
   rintro v3 c3 a w h5 F S
   obtain ⟨g7, l7, S, h6⟩ : ∃ gz, Le g5 gz ∧ St gz [[bx b1 #[.i6 y3.2.Code, .i6 y3.2.Index] 25]] fr w ∧ RepSl gz ([(⟨#[98]⟩ : ByteArray), (⟨#[97]⟩ : ByteArray)] : List ByteArray) v3 := ⟨_, Le.add _ _, S.freeze 0 rfl, OwnS.freeze (S.front 0 rfl) h5⟩
   obtain ⟨y4, hy4, hm⟩ := bind_some hm
   refine wl_call0 (wg F rfl rfl rfl rfl hc1) rfl F rfl (changeforgeequal_Strings_ok (fr := (fl [[bx b1 #[.i6 y3.2.Code, .i6 y3.2.Index] 25]] fr)) y3.1 v2 (h4.mono l7) ([(⟨#[98]⟩ : ByteArray), (⟨#[97]⟩ : ByteArray)] : List ByteArray) v3 h6 S hy4) rfl tc12 rfl rfl ?_; clear F a S
   rintro _ a w ⟨g8, l8, S, rfl⟩ F; replace S : St g8 [[bx b1 #[.i6 y3.2.Code, .i6 y3.2.Index] 25]] fr w := S
   refine wE (ev_pickT rfl hc1 rfl) F S rfl fun a F=>?_
   obtain rfl := sinj hm
   refine wpList_nil (then_n ?_); exact ⟨g8, F.sub ⟨rfl, rfl, trivial⟩, (l7.trans l8), S⟩
  ·refine wl_skip rfl rfl rfl rfl (ne_tf hc1) F rfl rfl ?_; clear F a; intro a F
   refine wl_skip rfl rfl rfl rfl (ne_tf hc1) F rfl rfl ?_; clear F a; intro a F
   refine wl_skip rfl rfl rfl rfl (ne_tf hc1) F rfl rfl ?_; clear F a; intro a F
   refine wE (ev_pickF rfl hc1 rfl) F S rfl fun a F=>?_
   obtain rfl := sinj hm
   refine wpList_nil (then_n ?_); exact ⟨g5, F.sub ⟨rfl, rfl, trivial⟩, (Le.refl _), S⟩
 clear F S; rintro a w ⟨g6, F, l6, S⟩
 refine wE (ev_assign rfl) F S rfl fun a F=>?_
 refine wpList_nil ?_
 refine then_n ?_
 refine wp_ret ?_
 obtain rfl := sinj hm
 refine post_r _ F rfl (ar_cons (resT rfl) ar_nil) ?_
 replace S : St g6 [] fr w := St.tail [] _ S
 exact ⟨_, rfl, g6, (((((l1.trans l2).trans l3).trans l4).trans l5).trans l6), S, rfl⟩
end Go.Dc
