/- Walks: each function comes to what its model says. -/
import Derived.Test.YtibigfejalemjaaDcTab
import Derived.Test.YtibigfejalemjaaDcM
import Derived.Test.YtibigfejalemjaaDcW1
namespace Go.Dc
open Go Go.Proofs
set_option maxRecDepth 100000
set_option maxHeartbeats 4000000
set_option linter.unusedVariables false
theorem api_SeqOp__ok {g : Gh} {fr : Hl} {w : World} {r : (List SeqOp)} (s_ : (List SeqOp)) (vs_1 : Value) (hs_1 : RepSl g s_ vs_1) (S : St g [] fr w) (hm : api_SeqOp_ s_ = some r) :
  Calls Try.prog 30 [vs_1].toArray w (fun en w' => ∃ v, en = .returned v ∧ ∃ (g' : Gh) (v1 : Value) (c1 : Hl), Le g g' ∧ St g' [c1] fr w' ∧ OwnS g' r v1 c1 ∧ v1 = v) := by
 unfold api_SeqOp_ at hm
 refine calls_enter (fn := Try.f30) Try.func30 rfl Try.ntmps30 (lb rfl) ?_
 intro a F
 replace F : Fr 8 a [(0, vs_1)] := F
 refine wp_seq ?_
 refine wp_region_lit ?_
 refine wE (ev_assign rfl) F S rfl fun a F=>?_
 refine wpList_nil ?_
 refine then_n ?_
 refine wp_seq ?_
 refine wp_seq ?_
 refine wp_region_lit ?_
 refine wE (ev_move rfl) F S rfl fun a F=>?_
 obtain ⟨nb1, hnb1, he1⟩ := ev_nileqlS (P := Try.prog) (n := 8) (e := [(3, vs_1), (2, nilS), (0, vs_1)]) (C := fun w => St g [] fr w) (x := .tmp 3) (y := .const (nilS)) hs_1 tu22 rfl rfl
 refine wE he1 F S rfl fun a F=>?_
 refine wpList_nil ?_
 refine then_n ?_
 obtain ⟨hc1, hm⟩ | ⟨hc1, hm⟩ := nil_or hnb1 hm
 ·refine wp_condT F rfl hc1 ?_
  refine wp_seq ?_
  refine wp_region_lit ?_
  refine wE (ev_assign rfl) F S rfl fun a F=>?_
  refine wpList_nil ?_
  refine then_n ?_
  refine wp_ret ?_
  refine then_r ?_
  obtain rfl := sinj hm
  replace S : St g [[]] fr w := S
  refine post_r _ F rfl (ar_cons (resT rfl) ar_nil) ?_
  exact ⟨_, rfl, g, (nilS), [], (Le.refl _), S, (OwnS.nil _), rfl⟩
 ·refine wp_condF F rfl hc1 ?_
  refine wp_skip ?_
  refine then_n ?_
  refine wp_seq ?_
  refine wp_region_lit ?_
  refine wl_lit (l := ([] : List SeqOp)) (vs := []) (parts := []) (wn rfl) rfl rfl rfl tu22 te33 sz_nil rfl (Cat.nil _) coa_nil rfl F S rfl rfl ?_; clear F a S
  rintro v1 c1 a w h1 F S
  refine wE (ev_move rfl) F S rfl fun a F=>?_
  obtain ⟨cs1, hk1, hr1⟩ := RepSl.reads hs_1
  obtain ⟨y1, hy1, hm⟩ := bind_some hm
  refine wl_append (wn rfl) rfl tu22 tu22 te33 (by decide) (by decide) F S rfl rfl (k := 0) rfl h1 hk1 rfl (hr1 _ _ S) hy1 rfl rfl ?_; clear F a S
  rintro v2 c2 a w h2 S F; replace S : St g [c2] fr w := S
  refine wE (ev_assign rfl) F S rfl fun a F=>?_
  refine wpList_nil ?_
  refine then_n ?_
  refine wp_ret ?_
  obtain rfl := sinj hm
  refine post_r _ F rfl (ar_cons (resT rfl) ar_nil) ?_
  exact ⟨_, rfl, g, v2, c2, (Le.refl _), S, h2, rfl⟩

theorem sequence_Merge_s2_ok {g : Gh} {fr : Hl} {w : World} {r : Int} (x_ : SeqOp) (y : SeqOp) (S : St g [] fr w) (hm : sequence_Merge_s2 x_ y = some r) :
  Calls Try.prog 33 [.agg #[.bool x_.Delete, .i6 x_.Replica, .i6 x_.Counter, .i6 x_.AfterReplica, .i6 x_.AfterCounter, .string x_.Line], .agg #[.bool y.Delete, .i6 y.Replica, .i6 y.Counter, .i6 y.AfterReplica, .i6 y.AfterCounter, .string y.Line]].toArray w (fun en w' => ∃ v, en = .returned v ∧ ∃ (g' : Gh), Le g g' ∧ St g' [] fr w' ∧ .i6 r = v) := by
 unfold sequence_Merge_s2 at hm
 refine calls_enter (fn := Try.f33) Try.func33 rfl Try.ntmps33 (lb rfl) ?_
 intro a F
 replace F : Fr 23 a [(0, .agg #[.bool x_.Delete, .i6 x_.Replica, .i6 x_.Counter, .i6 x_.AfterReplica, .i6 x_.AfterCounter, .string x_.Line]), (1, .agg #[.bool y.Delete, .i6 y.Replica, .i6 y.Counter, .i6 y.AfterReplica, .i6 y.AfterCounter, .string y.Line])] := F
 refine wp_seq ?_
 refine wp_region_lit ?_
 refine wl_boxC (wn rfl) rfl rfl rfl F S rfl rfl ?_; clear F a S; rintro b1 a w F S
 refine wl_boxC (wn rfl) rfl rfl rfl F S rfl rfl ?_; clear F a S; rintro b2 a w F S
 refine wE (ev_assign rfl) F S rfl fun a F=>?_
 refine wpList_nil ?_
 refine then_n ?_
 refine wp_seq ?_
 refine wp_seq ?_
 refine wp_quiet mo (by kernel_rfl) S ?_
 refine wq_ev (wn rfl) (ev_loadA tu33 rfl (cs := [.bool x_.Delete, .i6 x_.Replica, .i6 x_.Counter, .i6 x_.AfterReplica, .i6 x_.AfterCounter, .string x_.Line]) ts33 rfl (box_ptr (cells := [.bool x_.Delete, .i6 x_.Replica, .i6 x_.Counter, .i6 x_.AfterReplica, .i6 x_.AfterCounter, .string x_.Line]) 1 rfl 0 rfl (lb rfl))) F rfl rfl ?_; clear F a; intro a F
 obtain ⟨y1, hy1, hm⟩ := bind_some hm
 refine wq_call (wn rfl) rfl (xs := [.tmp 6]) (vs := [.agg #[.bool x_.Delete, .i6 x_.Replica, .i6 x_.Counter, .i6 x_.AfterReplica, .i6 x_.AfterCounter, .string x_.Line]]) (cap := []) F rfl rfl tc23 (v := .agg #[.i6 y1.counter, .i6 y1.replica]) (fun w S => (sequence_own_ok (g := g) (fr := (fl [[bx b2 #[.bool y.Delete, .i6 y.Replica, .i6 y.Counter, .i6 y.AfterReplica, .i6 y.AfterCounter, .string y.Line] 33], [bx b1 #[.bool x_.Delete, .i6 x_.Replica, .i6 x_.Counter, .i6 x_.AfterReplica, .i6 x_.AfterCounter, .string x_.Line] 33]] fr)) (w := w) x_ S hy1).mono (by rintro en w' ⟨_, rfl, g2, l2, S2, rfl⟩; exact ⟨rfl, S2.weak l2⟩)) rfl rfl ?_; clear F a; intro a F
 refine wq_ev (wn rfl) (ev_loadA tu33 rfl (cs := [.bool y.Delete, .i6 y.Replica, .i6 y.Counter, .i6 y.AfterReplica, .i6 y.AfterCounter, .string y.Line]) ts33 rfl (box_ptr (cells := [.bool y.Delete, .i6 y.Replica, .i6 y.Counter, .i6 y.AfterReplica, .i6 y.AfterCounter, .string y.Line]) 0 rfl 0 rfl (lb rfl))) F rfl rfl ?_; clear F a; intro a F
 obtain ⟨y2, hy2, hm⟩ := bind_some hm
 refine wq_call (wn rfl) rfl (xs := [.tmp 8]) (vs := [.agg #[.bool y.Delete, .i6 y.Replica, .i6 y.Counter, .i6 y.AfterReplica, .i6 y.AfterCounter, .string y.Line]]) (cap := []) F rfl rfl tc23 (v := .agg #[.i6 y2.counter, .i6 y2.replica]) (fun w S => (sequence_own_ok (g := g) (fr := (fl [[bx b2 #[.bool y.Delete, .i6 y.Replica, .i6 y.Counter, .i6 y.AfterReplica, .i6 y.AfterCounter, .string y.Line] 33], [bx b1 #[.bool x_.Delete, .i6 x_.Replica, .i6 x_.Counter, .i6 x_.AfterReplica, .i6 x_.AfterCounter, .string x_.Line] 33]] fr)) (w := w) y S hy2).mono (by rintro en w' ⟨_, rfl, g2, l2, S2, rfl⟩; exact ⟨rfl, S2.weak l2⟩)) rfl rfl ?_; clear F a; intro a F
 obtain ⟨y3, hy3, hm⟩ := bind_some hm
 refine wq_call (wn rfl) rfl (xs := [.tmp 7, .tmp 9]) (vs := [.agg #[.i6 y1.counter, .i6 y1.replica], .agg #[.i6 y2.counter, .i6 y2.replica]]) (cap := []) F rfl rfl tc28 (v := .i6 y3) (fun w S => (sequence_compare_ok (g := g) (fr := (fl [[bx b2 #[.bool y.Delete, .i6 y.Replica, .i6 y.Counter, .i6 y.AfterReplica, .i6 y.AfterCounter, .string y.Line] 33], [bx b1 #[.bool x_.Delete, .i6 x_.Replica, .i6 x_.Counter, .i6 x_.AfterReplica, .i6 x_.AfterCounter, .string x_.Line] 33]] fr)) (w := w) y1 y2 S hy3).mono (by rintro en w' ⟨_, rfl, g2, l2, S2, rfl⟩; exact ⟨rfl, S2.weak l2⟩)) rfl rfl ?_; clear F a; intro a F
 refine wq_ev (wn rfl) (ev_assign rfl) F rfl rfl ?_; clear F a; intro a F
 refine wq_nil ?_; clear S; intro w S
 refine then_n ?_
 refine wp_seq ?_
 refine wp_region_lit ?_
 refine wE (ev_move rfl) F S rfl fun a F=>?_
 refine wE (ev_int rfl rfl (bo_neq _ _ _ _)) F S rfl fun a F=>?_
 refine wE (ev_move rfl) F S rfl fun a F=>?_
 obtain ⟨x1, hx1, hm⟩ := bind_some hm
 refine wl_cut 6 (fun a w' => w = w' ∧ Fr 23 a [(19, .bool x1), (5, .i6 y3), (2, bp b1 0)]) ?_ ?_
 ·clear hm; obtain ⟨hc1, hm⟩ | ⟨hc1, hm⟩ := ite_or hx1
  ·refine wl_skip rfl rfl rfl rfl (ne_ft hc1) F rfl rfl ?_; clear F a; intro a F
   refine wl_skip rfl rfl rfl rfl (ne_ft hc1) F rfl rfl ?_; clear F a; intro a F
   refine wl_skip rfl rfl rfl rfl (ne_ft hc1) F rfl rfl ?_; clear F a; intro a F
   refine wl_skip rfl rfl rfl rfl (ne_ft hc1) F rfl rfl ?_; clear F a; intro a F
   refine wl_skip rfl rfl rfl rfl (ne_ft hc1) F rfl rfl ?_; clear F a; intro a F
   refine wE (ev_pickT rfl hc1 rfl) F S rfl fun a F=>?_
   obtain rfl := sinj hm
   refine wpList_nil (then_n ?_); exact ⟨rfl, F.sub ⟨rfl, rfl, rfl, trivial⟩⟩
  ·refine wl_ev (wg F rfl rfl rfl rfl hc1) (ev_fieldAddr' tu33 tf33_0 (z := 0) ts4 rfl ⟨_, rfl⟩ rfl) F S rfl rfl ?_; clear F a; intro a F
   refine wl_ev (wg F rfl rfl rfl rfl hc1) (ev_load1 tu4 rfl rfl (box_ptr (cells := [.bool x_.Delete]) 1 rfl 0 rfl (lb rfl))) F S rfl rfl ?_; clear F a; intro a F
   refine wl_ev (wg F rfl rfl rfl rfl hc1) (ev_fieldAddr' tu33 tf33_0 (z := 0) ts4 rfl ⟨_, rfl⟩ rfl) F S rfl rfl ?_; clear F a; intro a F
   refine wl_ev (wg F rfl rfl rfl rfl hc1) (ev_load1 tu4 rfl rfl (box_ptr (cells := [.bool y.Delete]) 0 rfl 0 rfl (lb rfl))) F S rfl rfl ?_; clear F a; intro a F
   refine wl_ev (wg F rfl rfl rfl rfl hc1) (ev_eqB tu4 rfl rfl) F S rfl rfl ?_; clear F a; intro a F
   refine wE (ev_pickF rfl hc1 rfl) F S rfl fun a F=>?_
   obtain rfl := sinj hm
   refine wpList_nil (then_n ?_); exact ⟨rfl, F.sub ⟨rfl, rfl, rfl, trivial⟩⟩
 clear F; rintro a w' ⟨rfl, F⟩
 refine wpList_nil ?_
 refine then_n ?_
 obtain ⟨hc2, hm⟩ | ⟨hc2, hm⟩ := ite_or hm
 ·refine wp_condT F rfl hc2 ?_
  refine wp_seq ?_
  refine wp_region_lit ?_
  refine wE (ev_move rfl) F S rfl fun a F=>?_
  refine wE (ev_assign rfl) F S rfl fun a F=>?_
  refine wpList_nil ?_
  refine then_n ?_
  refine wp_ret ?_
  refine then_r ?_
  obtain rfl := sinj hm
  refine post_r _ F rfl (ar_cons (resT rfl) ar_nil) ?_
  replace S : St g [] fr w := St.tail [] _ S
  exact ⟨_, rfl, g, (Le.refl _), S, rfl⟩
 ·refine wp_condF F rfl hc2 ?_
  refine wp_skip ?_
  refine then_n ?_
  refine wp_seq ?_
  refine wp_seq ?_
  refine wp_region_lit ?_
  refine wE (ev_fieldAddr' tu33 tf33_0 (z := 0) ts4 rfl ⟨_, rfl⟩ rfl) F S rfl fun a F=>?_
  refine wE (ev_load1 tu4 rfl rfl (box_ptr (cells := [.bool x_.Delete]) 1 rfl 0 rfl (lb rfl))) F S rfl fun a F=>?_
  refine wpList_nil ?_
  refine then_n ?_
  obtain ⟨hc3, hm⟩ | ⟨hc3, hm⟩ := ite_or hm
  ·refine wp_condT F rfl hc3 ?_
   refine wp_seq ?_
   refine wp_region_lit ?_
   refine wE (ev_assign rfl) F S rfl fun a F=>?_
   refine wpList_nil ?_
   refine then_n ?_
   refine wp_ret ?_
   refine then_r ?_
   obtain rfl := sinj hm
   refine post_r _ F rfl (ar_cons (resT rfl) ar_nil) ?_
   replace S : St g [] fr w := St.tail [] _ S
   exact ⟨_, rfl, g, (Le.refl _), S, rfl⟩
  ·refine wp_condF F rfl hc3 ?_
   refine wp_skip ?_
   refine then_n ?_
   refine wp_seq ?_
   refine wp_region_lit ?_
   refine wE (ev_assign rfl) F S rfl fun a F=>?_
   refine wpList_nil ?_
   refine then_n ?_
   refine wp_ret ?_
   obtain rfl := sinj hm
   refine post_r _ F rfl (ar_cons (resT rfl) ar_nil) ?_
   replace S : St g [] fr w := St.tail [] _ S
   exact ⟨_, rfl, g, (Le.refl _), S, rfl⟩

theorem sequence_Merge_ok {g : Gh} {fr : Hl} {w : World} {r : (List SeqOp) × Fault} (a_ : (List SeqOp)) (va_1 : Value) (ha_1 : RepSl g a_ va_1) (b_ : (List SeqOp)) (vb_1 : Value) (hb_1 : RepSl g b_ vb_1) (S : St g [] fr w) (hm : sequence_Merge a_ b_ = some r) :
  Calls Try.prog 17 [va_1, vb_1].toArray w (fun en w' => ∃ v, en = .returned v ∧ ∃ (g' : Gh) (v1 : Value) (c1 : Hl), Le g g' ∧ St g' [c1] fr w' ∧ OwnS g' r.1 v1 c1 ∧ .tuple #[v1, .agg #[.i6 r.2.Code, .i6 r.2.Index]] = v) := by
 unfold sequence_Merge at hm
 refine calls_enter (fn := Try.f17) Try.func17 rfl Try.ntmps17 (lb rfl) ?_
 intro a F
 replace F : Fr 61 a [(0, va_1), (1, vb_1)] := F
 refine wp_seq ?_
 refine wp_region_lit ?_
 refine wE (ev_assign rfl) F S rfl fun a F=>?_
 refine wl_alloc (wn rfl) rfl tz25 (cs := [.i6 0, .i6 0]) rfl F S rfl rfl ?_; clear F a S; rintro b1 a w F S
 refine wpList_nil ?_
 refine then_n ?_
 refine wp_seq ?_
 refine wp_seq ?_
 refine wp_region_lit ?_
 refine wE (ev_move rfl) F S rfl fun a F=>?_
 obtain ⟨y1, hy1, hm⟩ := bind_some hm
 refine wl_call0 (wn rfl) rfl F rfl (sequence_Validate_ok (fr := (fl [[bx b1 #[.i6 0, .i6 0] 25]] fr)) a_ va_1 ha_1 S hy1) rfl tc20 rfl rfl ?_; clear F a S
 rintro _ a w ⟨g1, l1, S, rfl⟩ F; replace S : St g1 [[bx b1 #[.i6 0, .i6 0] 25]] fr w := S
 refine wl_alloc (wn rfl) rfl tz25 (cs := [.i6 0, .i6 0]) rfl F S rfl rfl ?_; clear F a S; rintro b2 a w F S
 refine wl_storeC (wn rfl) rfl F S rfl rfl (vs := [.i6 y1.Code, .i6 y1.Index]) rfl ts25 (one_cons rfl (one_cons rfl one_nil)) (k := 0) rfl (lb rfl) (c' := #[.i6 y1.Code, .i6 y1.Index]) rfl rfl ?_; clear S; intro w S
 refine wpList_nil ?_
 refine then_n ?_
 refine wp_seq ?_
 refine wp_region_lit ?_
 refine wE (ev_loadA tu25 rfl (cs := [.i6 y1.Code, .i6 y1.Index]) ts25 rfl (box_ptr (cells := [.i6 y1.Code, .i6 y1.Index]) 0 rfl 0 rfl (lb rfl))) F S rfl fun a F=>?_
 refine wE (ev_build (parts := []) (vs := []) rfl (fun w => tb25_  w)) F S rfl fun a F=>?_
 refine wE (ev_neS tu25 tqa25 tqb25 tqc25 (xs := [.i6 y1.Code, .i6 y1.Index]) (ys := [.i6 0, .i6 0]) rfl rfl ⟨_, _, rfl, by decide, ⟨_, _, rfl, rfl, leaf_int tu3⟩, ⟨_, _, rfl, by decide, ⟨_, _, rfl, rfl, leaf_int tu3⟩, rfl⟩⟩) F S rfl fun a F=>?_
 refine wpList_nil ?_
 refine then_n ?_
 obtain ⟨hc1, hm⟩ | ⟨hc1, hm⟩ := ite_or hm
 ·refine wp_condT F rfl hc1 ?_
  refine wp_seq ?_
  refine wp_dv [] mo S ?_; clear S; intro ok1 w S
  refine dv_ev ok1 0 rfl (ev_loadA tu25 rfl (cs := [.i6 y1.Code, .i6 y1.Index]) ts25 rfl (box_ptr (cells := [.i6 y1.Code, .i6 y1.Index]) 0 rfl 0 rfl (lb rfl))) F S rfl fun a F=>?_
  refine dv_et ok1 1 rfl (ev_assign rfl) F rfl fun a F=>?_
  refine dv_op ok1 2 rfl [] ?_
  refine wl_storeC (wn rfl) rfl F S rfl rfl (vs := [.i6 y1.Code, .i6 y1.Index]) rfl ts25 (one_cons rfl (one_cons rfl one_nil)) (k := 1) rfl (lb rfl) (c' := #[.i6 y1.Code, .i6 y1.Index]) rfl rfl ?_; clear S; intro w S
  refine dv_nx trivial ?_
  refine dv_fin ok1 ?_
  refine then_n ?_
  refine wp_ret ?_
  refine then_r ?_
  obtain rfl := sinj hm
  replace S : St g1 [[], [bx b2 #[.i6 y1.Code, .i6 y1.Index] 25], [bx b1 #[.i6 y1.Code, .i6 y1.Index] 25]] fr w := S
  refine post_r _ F rfl (ar_cons (resT rfl) (ar_cons (resA rfl tu25 rfl (box_ptr (cells := [.i6 y1.Code, .i6 y1.Index]) 2 rfl 0 rfl (lb rfl) w S) ts25) ar_nil)) ?_
  replace S : St g1 [[]] fr w := St.tail [[]] _ (S.frontC 0 rfl)
  exact ⟨_, rfl, g1, (nilS), [], l1, S, (OwnS.nil _), rfl⟩
 ·refine wp_condF F rfl hc1 ?_
  refine wp_skip ?_
  refine then_n ?_
  refine wp_seq ?_
  refine wp_seq ?_
  refine wp_region_lit ?_
  refine wE (ev_move rfl) F S rfl fun a F=>?_
  obtain ⟨y2, hy2, hm⟩ := bind_some hm
  refine wl_call0 (wn rfl) rfl F rfl (sequence_Validate_ok (fr := (fl [[bx b2 #[.i6 y1.Code, .i6 y1.Index] 25], [bx b1 #[.i6 0, .i6 0] 25]] fr)) b_ vb_1 (hb_1.mono l1) S hy2) rfl tc20 rfl rfl ?_; clear F a S
  rintro _ a w ⟨g2, l2, S, rfl⟩ F; replace S : St g2 [[bx b2 #[.i6 y1.Code, .i6 y1.Index] 25], [bx b1 #[.i6 0, .i6 0] 25]] fr w := S
  refine wl_alloc (wn rfl) rfl tz25 (cs := [.i6 0, .i6 0]) rfl F S rfl rfl ?_; clear F a S; rintro b3 a w F S
  refine wl_storeC (wn rfl) rfl F S rfl rfl (vs := [.i6 y2.Code, .i6 y2.Index]) rfl ts25 (one_cons rfl (one_cons rfl one_nil)) (k := 0) rfl (lb rfl) (c' := #[.i6 y2.Code, .i6 y2.Index]) rfl rfl ?_; clear S; intro w S
  refine wpList_nil ?_
  refine then_n ?_
  refine wp_seq ?_
  refine wp_region_lit ?_
  refine wE (ev_loadA tu25 rfl (cs := [.i6 y2.Code, .i6 y2.Index]) ts25 rfl (box_ptr (cells := [.i6 y2.Code, .i6 y2.Index]) 0 rfl 0 rfl (lb rfl))) F S rfl fun a F=>?_
  refine wE (ev_build (parts := []) (vs := []) rfl (fun w => tb25_  w)) F S rfl fun a F=>?_
  refine wE (ev_neS tu25 tqa25 tqb25 tqc25 (xs := [.i6 y2.Code, .i6 y2.Index]) (ys := [.i6 0, .i6 0]) rfl rfl ⟨_, _, rfl, by decide, ⟨_, _, rfl, rfl, leaf_int tu3⟩, ⟨_, _, rfl, by decide, ⟨_, _, rfl, rfl, leaf_int tu3⟩, rfl⟩⟩) F S rfl fun a F=>?_
  refine wpList_nil ?_
  refine then_n ?_
  obtain ⟨hc2, hm⟩ | ⟨hc2, hm⟩ := ite_or hm
  ·refine wp_condT F rfl hc2 ?_
   refine wp_seq ?_
   refine wp_dv [] mo S ?_; clear S; intro ok2 w S
   refine dv_et ok2 0 rfl (ev_fieldAddr' tu25 tf25_0 (z := 0) ts3 rfl ⟨_, rfl⟩ rfl) F rfl fun a F=>?_
   refine dv_ev ok2 1 rfl (ev_load1 tu3 rfl rfl (box_ptr (cells := [.i6 y2.Code]) 0 rfl 0 rfl (lb rfl))) F S rfl fun a F=>?_
   refine dv_et ok2 2 rfl (ev_build (parts := [(0, .tmp 24), (1, .const (.i6 (-2)))]) (vs := [(0, .i6 y2.Code), (1, .i6 (-2))]) rfl (fun w => tb25_0_1 y2.Code (-2) w)) F rfl fun a F=>?_
   refine dv_et ok2 3 rfl (ev_assign rfl) F rfl fun a F=>?_
   refine dv_op ok2 4 rfl [] ?_
   refine wl_storeC (wn rfl) rfl F S rfl rfl (vs := [.i6 y2.Code, .i6 (-2)]) rfl ts25 (one_cons rfl (one_cons rfl one_nil)) (k := 2) rfl (lb rfl) (c' := #[.i6 y2.Code, .i6 (-2)]) rfl rfl ?_; clear S; intro w S
   refine dv_nx trivial ?_
   refine dv_fin ok2 ?_
   refine then_n ?_
   refine wp_ret ?_
   refine then_r ?_
   obtain rfl := sinj hm
   replace S : St g2 [[], [bx b3 #[.i6 y2.Code, .i6 y2.Index] 25], [bx b2 #[.i6 y1.Code, .i6 y1.Index] 25], [bx b1 #[.i6 y2.Code, .i6 (-2)] 25]] fr w := S
   refine post_r _ F rfl (ar_cons (resT rfl) (ar_cons (resA rfl tu25 rfl (box_ptr (cells := [.i6 y2.Code, .i6 (-2)]) 3 rfl 0 rfl (lb rfl) w S) ts25) ar_nil)) ?_
   replace S : St g2 [[]] fr w := St.tail [[]] _ (S.frontC 0 rfl)
   exact ⟨_, rfl, g2, (nilS), [], (l1.trans l2), S, (OwnS.nil _), rfl⟩
  ·refine wp_condF F rfl hc2 ?_
   refine wp_skip ?_
   refine then_n ?_
   refine wp_seq ?_
   refine wp_region_lit ?_
   refine wE (ev_move rfl) F S rfl fun a F=>?_
   obtain ⟨y3, hy3, hm⟩ := bind_some hm
   refine wl_call0 (wn rfl) rfl F rfl (api_SeqOp__ok (fr := (fl [[bx b3 #[.i6 y2.Code, .i6 y2.Index] 25], [bx b2 #[.i6 y1.Code, .i6 y1.Index] 25], [bx b1 #[.i6 0, .i6 0] 25]] fr)) a_ va_1 (ha_1.mono (l1.trans l2)) S hy3) rfl tc30 rfl rfl ?_; clear F a S
   rintro _ a w ⟨g3, v1, c1, l3, S, h1, rfl⟩ F; replace S : St g3 [c1, [bx b3 #[.i6 y2.Code, .i6 y2.Index] 25], [bx b2 #[.i6 y1.Code, .i6 y1.Index] 25], [bx b1 #[.i6 0, .i6 0] 25]] fr w := S
   refine wE (ev_assign rfl) F S rfl fun a F=>?_
   refine wpList_nil ?_
   refine then_n ?_
   refine wp_cut (fun a w => ∃ (x1 : List SeqOp) (v2 : Value) (c2 : Hl) (g4 : Gh), Fr 61 a [(8, v2), (5, bp b1 0)] ∧ Le g3 g4 ∧ St g4 [c2, [bx b1 #[.i6 0, .i6 0] 25]] fr w ∧ OwnS g4 x1 v2 c2 ∧ sequence_Merge.j1 x1 = some r) ?_ ?_
   ·refine wp_seq ?_
    refine wp_region_lit ?_
    refine wE (ev_move rfl) F S rfl fun a F=>?_
    refine wE (ev_lenSh hb_1 rfl tu22) F S rfl fun a F=>?_
    refine wE (ev_move rfl) F S rfl fun a F=>?_
    refine wpList_nil ?_
    refine then_n ?_
    refine wp_block ?_
    obtain ⟨r1, hr1, hm⟩ := bind_some hm
    have hmo1 := hm; clear hm
    refine wp_iter (σ := Int × (List SeqOp)) (ρ := ((List SeqOp) × Fault) ⊕ (List SeqOp)) (m := fun s => sequence_Merge.l1 a_ b_ s.1 s.2) (I := fun s a w => match s with | (x2, x3) => ∃ (v3 : Value) (c4 : Hl) (g5 : Gh), Fr 61 a [(30, .i6 x2), (29, .i6 (b_.length : Int)), (28, vb_1), (8, v3), (5, bp b1 0), (0, va_1)] ∧ Le g3 g5 ∧ St g5 [c4, [bx b1 #[.i6 0, .i6 0] 25]] fr w ∧ OwnS g5 x3 v3 c4) hr1 ?_ ?_
    ·dsimp only
     replace S : St g3 [c1, [bx b1 #[.i6 0, .i6 0] 25]] fr w := St.tail [c1, [bx b1 #[.i6 0, .i6 0] 25]] _ ((S.frontC 3 rfl).frontC 1 rfl)
     exact ⟨v1, c1, g3, F.sub ⟨rfl, rfl, rfl, rfl, rfl, rfl, trivial⟩, (Le.refl _), S, h1⟩
    ·clear F S; rintro ⟨x2, x3⟩ a w x4 ⟨v3, c4, g5, F, l5, S, h4⟩ hx1 hfin1
     have hm : sequence_Merge.l1 a_ b_ x2 x3 = some x4 := hx1; clear hx1
     unfold sequence_Merge.l1 at hm
     refine wp_seq ?_
     refine wp_region_lit ?_
     refine wE (ev_int rfl rfl (bo_lss _ _ _ _)) F S rfl fun a F=>?_
     refine wpList_nil ?_
     refine then_n ?_
     refine wp_seq ?_
     obtain ⟨hc4, hm⟩ | ⟨hc4, hm⟩ := ite_or hm
     ·refine wp_condT F rfl hc4 ?_
      refine wp_skip ?_
      refine then_n ?_
      refine wp_cut (fun a w => ∃ (x5 : List SeqOp) (v4 : Value) (c5 : Hl) (g6 : Gh), Fr 61 a [(8, v4), (30, .i6 x2), (29, .i6 (b_.length : Int)), (28, vb_1), (5, bp b1 0), (0, va_1)] ∧ Le g5 g6 ∧ St g6 [c5, [bx b1 #[.i6 0, .i6 0] 25]] fr w ∧ OwnS g6 x5 v4 c5 ∧ sequence_Merge.j2 x2 x5 = some x4) ?_ ?_
      ·refine wp_block ?_
       refine wp_seq ?_
       refine wp_region_lit ?_
       refine wE (ev_move rfl) F S rfl fun a F=>?_
       obtain ⟨y5, hy5, hm⟩ := bind_some hm
       obtain ⟨cs1, hr2, hp1⟩ := elemS (hb_1.mono (((l1.trans l2).trans l3).trans l5)) hy5
       obtain rfl := rep_SeqOp hr2
       refine wE (ev_idxS (hb_1.mono (((l1.trans l2).trans l3).trans l5)) hy5 tu22 ts33 rfl rfl) F S rfl fun a F=>?_
       refine wE (ev_loadA tu33 rfl (cs := [.bool y5.Delete, .i6 y5.Replica, .i6 y5.Counter, .i6 y5.AfterReplica, .i6 y5.AfterCounter, .string y5.Line]) ts33 rfl (ptr_mono (cks := [c4, [bx b1 #[.i6 0, .i6 0] 25]]) (fr := fr) hp1 (Le.refl _))) F S rfl fun a F=>?_
       refine wl_alloc (wn rfl) rfl tz33 (cs := [.bool false, .i6 0, .i6 0, .i6 0, .i6 0, .string ByteArray.empty]) rfl F S rfl rfl ?_; clear F a S; rintro b4 a w F S
       refine wE (ev_assign rfl) F S rfl fun a F=>?_
       refine wl_storeC (wn rfl) rfl F S rfl rfl (vs := [.bool y5.Delete, .i6 y5.Replica, .i6 y5.Counter, .i6 y5.AfterReplica, .i6 y5.AfterCounter, .string y5.Line]) rfl ts33 (one_cons rfl (one_cons rfl (one_cons rfl (one_cons rfl (one_cons rfl (one_cons rfl one_nil)))))) (k := 0) rfl (lb rfl) (c' := #[.bool y5.Delete, .i6 y5.Replica, .i6 y5.Counter, .i6 y5.AfterReplica, .i6 y5.AfterCounter, .string y5.Line]) rfl rfl ?_; clear S; intro w S
       refine wpList_nil ?_
       refine then_n ?_
       refine wp_seq ?_
       refine wp_region_lit ?_
       refine wE (ev_move rfl) F S rfl fun a F=>?_
       refine wE (ev_makeFunc (xs := [.tmp 10]) (vs := [bp b4 0]) rfl) F S rfl fun a F=>?_
       refine wl_call (wn rfl) rfl (xs := [.tmp 35, .tmp 36]) (vs := [va_1, .func (.func 32) #[] #[bp b4 0]]) (cap := []) (R := fun u1 w => ∃ (x6 : Int) (g7 : Gh), u1 = .i6 x6 ∧ Le g5 g7 ∧ St g7 [[bx b4 #[.bool y5.Delete, .i6 y5.Replica, .i6 y5.Counter, .i6 y5.AfterReplica, .i6 y5.AfterCounter, .string y5.Line] 33], c4, [bx b1 #[.i6 0, .i6 0] 25]] fr w ∧ sequence_Merge.j3 a_ x2 x3 y5 x6 = some x4) F rfl rfl tc31 (calls_enter (fn := Try.f31) Try.func31 rfl Try.ntmps31 (lb rfl) ?_) rfl rfl ?_
       ·clear F a; intro a F
        replace F : Fr 19 a [(0, va_1), (1, .func (.func 32) #[] #[bp b4 0])] := F
        refine wp_seq ?_
        refine wp_region_lit ?_
        refine wE (ev_assign rfl) F S rfl fun a F=>?_
        refine wpList_nil ?_
        refine then_n ?_
        refine wp_cut (fun a w => ∃ (g8 : Gh), Fr 19 a [] ∧ Le g5 g8 ∧ St g8 [[bx b4 #[.bool y5.Delete, .i6 y5.Replica, .i6 y5.Counter, .i6 y5.AfterReplica, .i6 y5.AfterCounter, .string y5.Line] 33], c4, [bx b1 #[.i6 0, .i6 0] 25]] fr w ∧ sequence_Merge.j4 a_ x2 x3 y5 = some x4) ?_ ?_
        ·refine wp_seq ?_
         refine wp_region_lit ?_
         refine wE (ev_move rfl) F S rfl fun a F=>?_
         refine wE (ev_lenSh ha_1 rfl tu22) F S rfl fun a F=>?_
         refine wE (ev_move rfl) F S rfl fun a F=>?_
         refine wpList_nil ?_
         refine then_n ?_
         refine wp_block ?_
         obtain ⟨r2, hr5, hm⟩ := bind_some hm
         have hmo2 := hm; clear hm
         refine wp_iter (σ := Int) (ρ := Int ⊕ Unit) (m := fun s => sequence_Merge.l2 a_ y5 s) (I := fun x7 a w => ∃ (g9 : Gh), Fr 19 a [(8, .i6 x7), (7, .i6 (a_.length : Int)), (0, va_1), (1, .func (.func 32) #[] #[bp b4 0])] ∧ Le g5 g9 ∧ St g9 [[bx b4 #[.bool y5.Delete, .i6 y5.Replica, .i6 y5.Counter, .i6 y5.AfterReplica, .i6 y5.AfterCounter, .string y5.Line] 33], c4, [bx b1 #[.i6 0, .i6 0] 25]] fr w) hr5 ?_ ?_
         ·exact ⟨g5, F.sub ⟨rfl, rfl, rfl, rfl, trivial⟩, (Le.refl _), S⟩
         ·clear F S; rintro x7 a w x8 ⟨g9, F, l9, S⟩ hx2 hfin2
          have hm : sequence_Merge.l2 a_ y5 x7 = some x8 := hx2; clear hx2
          unfold sequence_Merge.l2 at hm
          refine wp_seq ?_
          refine wp_region_lit ?_
          refine wE (ev_int rfl rfl (bo_lss _ _ _ _)) F S rfl fun a F=>?_
          refine wpList_nil ?_
          refine then_n ?_
          refine wp_seq ?_
          obtain ⟨hc7, hm⟩ | ⟨hc7, hm⟩ := ite_or hm
          ·refine wp_condT F rfl hc7 ?_
           refine wp_skip ?_
           refine then_n ?_
           refine wp_seq ?_
           refine wp_block ?_
           refine wp_seq ?_
           refine wp_region_lit ?_
           refine wE (ev_move rfl) F S rfl fun a F=>?_
           refine wE (ev_assign rfl) F S rfl fun a F=>?_
           refine wpList_nil ?_
           refine then_n ?_
           refine wp_seq ?_
           refine wp_region_lit ?_
           refine wE (ev_move rfl) F S rfl fun a F=>?_
           refine wE (ev_move rfl) F S rfl fun a F=>?_
           refine wE (ev_move rfl) F S rfl fun a F=>?_
           obtain ⟨y8, hy8, hm⟩ := bind_some hm
           obtain ⟨cs4, hr6, hp3⟩ := elemS (ha_1.mono ((((l1.trans l2).trans l3).trans l5).trans l9)) hy8
           obtain rfl := rep_SeqOp hr6
           refine wE (ev_idxS (ha_1.mono ((((l1.trans l2).trans l3).trans l5).trans l9)) hy8 tu22 ts33 rfl rfl) F S rfl fun a F=>?_
           refine wE (ev_loadA tu33 rfl (cs := [.bool y8.Delete, .i6 y8.Replica, .i6 y8.Counter, .i6 y8.AfterReplica, .i6 y8.AfterCounter, .string y8.Line]) ts33 rfl (ptr_mono (cks := [[bx b4 #[.bool y5.Delete, .i6 y5.Replica, .i6 y5.Counter, .i6 y5.AfterReplica, .i6 y5.AfterCounter, .string y5.Line] 33], c4, [bx b1 #[.i6 0, .i6 0] 25]]) (fr := fr) hp3 (Le.refl _))) F S rfl fun a F=>?_
           replace F := F.sub (e' := [(15, .agg #[.bool y8.Delete, .i6 y8.Replica, .i6 y8.Counter, .i6 y8.AfterReplica, .i6 y8.AfterCounter, .string y8.Line]), (11, .func (.func 32) #[] #[bp b4 0]), (5, .i6 x7), (8, .i6 x7), (7, .i6 (a_.length : Int)), (0, va_1), (1, .func (.func 32) #[] #[bp b4 0])]) ⟨rfl, rfl, rfl, rfl, rfl, rfl, rfl, trivial⟩
           refine wl_callK (wn rfl) rfl (xs := [.tmp 15]) (vs := [.agg #[.bool y8.Delete, .i6 y8.Replica, .i6 y8.Counter, .i6 y8.AfterReplica, .i6 y8.AfterCounter, .string y8.Line]]) (cap := [bp b4 0]) (e' := [(5, .i6 x7), (8, .i6 x7), (7, .i6 (a_.length : Int)), (0, va_1), (1, .func (.func 32) #[] #[bp b4 0])]) ⟨rfl, rfl, rfl, rfl, rfl, trivial⟩ F rfl rfl tc32 rfl rfl (calls_enter (fn := Try.f32) Try.func32 rfl Try.ntmps32 (lb rfl) ?_); clear F a; intro a F
           replace F : Fr 16 a [(0, .agg #[.bool y8.Delete, .i6 y8.Replica, .i6 y8.Counter, .i6 y8.AfterReplica, .i6 y8.AfterCounter, .string y8.Line]), (1, bp b4 0)] := F
           refine wp_seq ?_
           refine wp_region_lit ?_
           refine wl_boxC (wn rfl) rfl rfl rfl F S rfl rfl ?_; clear F a S; rintro b5 a w F S
           refine wE (ev_assign rfl) F S rfl fun a F=>?_
           refine wpList_nil ?_
           refine then_n ?_
           refine wp_seq ?_
           refine wp_quiet mo (by kernel_rfl) S ?_
           refine wq_ev (wn rfl) (ev_fieldAddr' tu33 tf33_0 (z := 0) ts4 rfl ⟨_, rfl⟩ rfl) F rfl rfl ?_; clear F a; intro a F
           refine wq_ev (wn rfl) (ev_load1 tu4 rfl rfl (box_ptr (cells := [.bool y8.Delete]) 0 rfl 0 rfl (lb rfl))) F rfl rfl ?_; clear F a; intro a F
           refine wq_ev (wn rfl) (ev_fieldAddr' tu33 tf33_0 (z := 0) ts4 rfl ⟨_, rfl⟩ rfl) F rfl rfl ?_; clear F a; intro a F
           refine wq_ev (wn rfl) (ev_load1 tu4 rfl rfl (box_ptr (cells := [.bool y5.Delete]) 1 rfl 0 rfl (lb rfl))) F rfl rfl ?_; clear F a; intro a F
           refine wq_ev (wn rfl) (ev_eqB tu4 rfl rfl) F rfl rfl ?_; clear F a; intro a F
           refine wq_ev (wn rfl) (ev_move rfl) F rfl rfl ?_; clear F a; intro a F
           obtain ⟨x9, hx3, hm⟩ := bind_some hm
           refine wq_cut 6 (fun a => Fr 16 a [(15, .bool x9), (3, .bool false)]) ?_ ?_
           ·clear hm; obtain ⟨hc8, hm⟩ | ⟨hc8, hm⟩ := ite_or hx3
            ·refine wq_ev (wg F rfl rfl rfl rfl hc8) (ev_loadA tu33 rfl (cs := [.bool y8.Delete, .i6 y8.Replica, .i6 y8.Counter, .i6 y8.AfterReplica, .i6 y8.AfterCounter, .string y8.Line]) ts33 rfl (box_ptr (cells := [.bool y8.Delete, .i6 y8.Replica, .i6 y8.Counter, .i6 y8.AfterReplica, .i6 y8.AfterCounter, .string y8.Line]) 0 rfl 0 rfl (lb rfl))) F rfl rfl ?_; clear F a; intro a F
             obtain ⟨y9, hy9, hm⟩ := bind_some hm
             refine wq_call (wg F rfl rfl rfl rfl hc8) rfl (xs := [.tmp 10]) (vs := [.agg #[.bool y8.Delete, .i6 y8.Replica, .i6 y8.Counter, .i6 y8.AfterReplica, .i6 y8.AfterCounter, .string y8.Line]]) (cap := []) F rfl rfl tc23 (v := .agg #[.i6 y9.counter, .i6 y9.replica]) (fun w S => (sequence_own_ok (g := g9) (fr := (fl [[bx b5 #[.bool y8.Delete, .i6 y8.Replica, .i6 y8.Counter, .i6 y8.AfterReplica, .i6 y8.AfterCounter, .string y8.Line] 33], [bx b4 #[.bool y5.Delete, .i6 y5.Replica, .i6 y5.Counter, .i6 y5.AfterReplica, .i6 y5.AfterCounter, .string y5.Line] 33], c4, [bx b1 #[.i6 0, .i6 0] 25]] fr)) (w := w) y8 S hy9).mono (by rintro en w' ⟨_, rfl, g2, l2, S2, rfl⟩; exact ⟨rfl, S2.weak l2⟩)) rfl rfl ?_; clear F a; intro a F
             refine wq_ev (wg F rfl rfl rfl rfl hc8) (ev_loadA tu33 rfl (cs := [.bool y5.Delete, .i6 y5.Replica, .i6 y5.Counter, .i6 y5.AfterReplica, .i6 y5.AfterCounter, .string y5.Line]) ts33 rfl (box_ptr (cells := [.bool y5.Delete, .i6 y5.Replica, .i6 y5.Counter, .i6 y5.AfterReplica, .i6 y5.AfterCounter, .string y5.Line]) 1 rfl 0 rfl (lb rfl))) F rfl rfl ?_; clear F a; intro a F
             obtain ⟨y10, hy10, hm⟩ := bind_some hm
             refine wq_call (wg F rfl rfl rfl rfl hc8) rfl (xs := [.tmp 12]) (vs := [.agg #[.bool y5.Delete, .i6 y5.Replica, .i6 y5.Counter, .i6 y5.AfterReplica, .i6 y5.AfterCounter, .string y5.Line]]) (cap := []) F rfl rfl tc23 (v := .agg #[.i6 y10.counter, .i6 y10.replica]) (fun w S => (sequence_own_ok (g := g9) (fr := (fl [[bx b5 #[.bool y8.Delete, .i6 y8.Replica, .i6 y8.Counter, .i6 y8.AfterReplica, .i6 y8.AfterCounter, .string y8.Line] 33], [bx b4 #[.bool y5.Delete, .i6 y5.Replica, .i6 y5.Counter, .i6 y5.AfterReplica, .i6 y5.AfterCounter, .string y5.Line] 33], c4, [bx b1 #[.i6 0, .i6 0] 25]] fr)) (w := w) y5 S hy10).mono (by rintro en w' ⟨_, rfl, g2, l2, S2, rfl⟩; exact ⟨rfl, S2.weak l2⟩)) rfl rfl ?_; clear F a; intro a F
             refine wq_ev (wg F rfl rfl rfl rfl hc8) (ev_eqS tu48 tqa48 tqb48 tqc48 (xs := [.i6 y9.counter, .i6 y9.replica]) (ys := [.i6 y10.counter, .i6 y10.replica]) rfl rfl ⟨_, _, rfl, by decide, ⟨_, _, rfl, rfl, leaf_int tu3⟩, ⟨_, _, rfl, by decide, ⟨_, _, rfl, rfl, leaf_int tu3⟩, rfl⟩⟩) F rfl rfl ?_; clear F a; intro a F
             refine wq_ev (wn rfl) (ev_pickT rfl hc8 rfl) F rfl rfl ?_; clear F a; intro a F
             obtain rfl := sinj hm
             refine wq_nil ?_; exact F.sub ⟨rfl, rfl, trivial⟩
            ·refine wq_skip rfl rfl rfl rfl (ne_tf hc8) F rfl rfl ?_; clear F a; intro a F
             refine wq_skip rfl rfl rfl rfl (ne_tf hc8) F rfl rfl ?_; clear F a; intro a F
             refine wq_skip rfl rfl rfl rfl (ne_tf hc8) F rfl rfl ?_; clear F a; intro a F
             refine wq_skip rfl rfl rfl rfl (ne_tf hc8) F rfl rfl ?_; clear F a; intro a F
             refine wq_skip rfl rfl rfl rfl (ne_tf hc8) F rfl rfl ?_; clear F a; intro a F
             refine wq_ev (wn rfl) (ev_pickF rfl hc8 rfl) F rfl rfl ?_; clear F a; intro a F
             obtain rfl := sinj hm
             refine wq_nil ?_; exact F.sub ⟨rfl, rfl, trivial⟩
           clear F; intro a F
           refine wq_ev (wn rfl) (ev_assign rfl) F rfl rfl ?_; clear F a; intro a F
           refine wq_nil ?_; clear S; intro w S
           refine then_n ?_
           refine wp_ret ?_
           refine post_r _ F rfl (ar_cons (resT rfl) ar_nil) ?_
           refine ⟨_, rfl, ?_⟩; clear F a; intro a F
           replace F : Fr 19 a [(16, .bool x9), (5, .i6 x7), (8, .i6 x7), (7, .i6 (a_.length : Int)), (0, va_1), (1, .func (.func 32) #[] #[bp b4 0])] := F
           refine wpList_nil ?_
           refine then_n ?_
           obtain ⟨hc9, hm⟩ | ⟨hc9, hm⟩ := ite_or hm
           ·refine wp_condT F rfl hc9 ?_
            refine wp_seq ?_
            refine wp_region_lit ?_
            refine wE (ev_move rfl) F S rfl fun a F=>?_
            refine wE (ev_assign rfl) F S rfl fun a F=>?_
            refine wpList_nil ?_
            refine then_n ?_
            refine wp_ret ?_
            refine inb_r ?_
            refine then_r ?_
            refine then_r ?_
            refine inb_r ?_
            refine then_r ?_
            obtain rfl := sinj hm
            obtain rfl := hfin2 _ rfl
            clear hm
            have hm : (sequence_Merge.j3 a_ x2 x3 y5 x7 : Option (Step (Int × (List SeqOp)) (((List SeqOp) × Fault) ⊕ (List SeqOp)))) = some _ := hmo2
            refine post_r _ F rfl (ar_cons (resT rfl) ar_nil) ?_
            replace S : St g9 [[bx b4 #[.bool y5.Delete, .i6 y5.Replica, .i6 y5.Counter, .i6 y5.AfterReplica, .i6 y5.AfterCounter, .string y5.Line] 33], c4, [bx b1 #[.i6 0, .i6 0] 25]] fr w := St.tail [[bx b4 #[.bool y5.Delete, .i6 y5.Replica, .i6 y5.Counter, .i6 y5.AfterReplica, .i6 y5.AfterCounter, .string y5.Line] 33], c4, [bx b1 #[.i6 0, .i6 0] 25]] _ (((S.frontC 3 rfl).frontC 3 rfl).frontC 3 rfl)
            exact ⟨_, rfl, ⟨x7, g9, rfl, l9, S, hm⟩⟩
           ·refine wp_condF F rfl hc9 ?_
            refine wp_skip ?_
            refine inb_n ?_
            refine then_n ?_
            refine wp_region_lit ?_
            obtain ⟨z2, hz2, hm⟩ := bind_some hm
            refine wE (ev_int rfl rfl (bo_add hz2)) F S rfl fun a F=>?_
            refine wE (ev_move rfl) F S rfl fun a F=>?_
            refine wpList_nil ?_
            refine then_n ?_
            obtain rfl := sinj hm
            refine ⟨_, rfl, ?_⟩
            replace S : St g9 [[bx b4 #[.bool y5.Delete, .i6 y5.Replica, .i6 y5.Counter, .i6 y5.AfterReplica, .i6 y5.AfterCounter, .string y5.Line] 33], c4, [bx b1 #[.i6 0, .i6 0] 25]] fr w := St.tail [[bx b4 #[.bool y5.Delete, .i6 y5.Replica, .i6 y5.Counter, .i6 y5.AfterReplica, .i6 y5.AfterCounter, .string y5.Line] 33], c4, [bx b1 #[.i6 0, .i6 0] 25]] _ (((S.frontC 3 rfl).frontC 3 rfl).frontC 3 rfl)
            exact ⟨g9, F.sub ⟨rfl, rfl, rfl, rfl, trivial⟩, l9, S⟩
          ·refine wp_condF F rfl hc7 ?_
           refine wp_exit ?_
           refine then_e ?_
           refine then_e ?_
           refine inb_x ?_
           refine then_n ?_
           obtain rfl := sinj hm
           obtain rfl := hfin2 _ rfl
           clear hm
           have hm : (sequence_Merge.j4 a_ x2 x3 y5 : Option (Step (Int × (List SeqOp)) (((List SeqOp) × Fault) ⊕ (List SeqOp)))) = some _ := hmo2
           exact ⟨g9, F.sub trivial, l9, S, hm⟩
        ·clear F S hm; rintro a w ⟨g8, F, l8, S, hm⟩
         refine wp_seq ?_
         refine wp_region_lit ?_
         refine wE (ev_assign rfl) F S rfl fun a F=>?_
         refine wpList_nil ?_
         refine then_n ?_
         refine wp_ret ?_
         refine post_r _ F rfl (ar_cons (resT rfl) ar_nil) ?_
         exact ⟨_, rfl, ⟨(-1), g8, rfl, l8, S, hm⟩⟩
       ·clear F S hm; rintro _ a w ⟨x6, g7, rfl, l7, S, hm⟩ F
        replace F := F.sub (e' := [(37, .i6 x6), (9, .i6 x2), (10, bp b4 0), (30, .i6 x2), (29, .i6 (b_.length : Int)), (28, vb_1), (8, v3), (5, bp b1 0), (0, va_1)]) ⟨rfl, rfl, rfl, rfl, rfl, rfl, rfl, rfl, rfl, trivial⟩
        refine wE (ev_assign rfl) F S rfl fun a F=>?_
        refine wpList_nil ?_
        refine then_n ?_
        refine wp_seq ?_
        refine wp_region_lit ?_
        refine wE (ev_move rfl) F S rfl fun a F=>?_
        refine wE (ev_int rfl rfl (bo_lss _ _ _ _)) F S rfl fun a F=>?_
        refine wpList_nil ?_
        refine then_n ?_
        obtain ⟨hc5, hm⟩ | ⟨hc5, hm⟩ := ite_or hm
        ·refine wp_condT F rfl hc5 ?_
         refine wp_region_lit ?_
         refine wE (ev_move rfl) F S rfl fun a F=>?_
         refine wE (ev_loadA tu33 rfl (cs := [.bool y5.Delete, .i6 y5.Replica, .i6 y5.Counter, .i6 y5.AfterReplica, .i6 y5.AfterCounter, .string y5.Line]) ts33 rfl (box_ptr (cells := [.bool y5.Delete, .i6 y5.Replica, .i6 y5.Counter, .i6 y5.AfterReplica, .i6 y5.AfterCounter, .string y5.Line]) 0 rfl 0 rfl (lb rfl))) F S rfl fun a F=>?_
         refine wl_lit (l := ([y5] : List SeqOp)) (vs := [.agg #[.bool y5.Delete, .i6 y5.Replica, .i6 y5.Counter, .i6 y5.AfterReplica, .i6 y5.AfterCounter, .string y5.Line]]) (parts := [(0, .tmp 41)]) (wn rfl) rfl rfl rfl tu22 te33 (sz_cons rfl sz_nil) rfl (Cat.cons (rep_SeqOp_mk (x := y5) ) (Cat.nil _)) (coa_cons rfl coa_nil) rfl F S rfl rfl ?_; clear F a S
         rintro v5 c6 a w h6 F S
         obtain ⟨cs2, hk1, hr3⟩ := OwnS.reads h6
         obtain ⟨y6, hy6, hm⟩ := bind_some hm
         refine wl_append (wn rfl) rfl tu22 tu22 te33 (by decide) (by decide) F S rfl rfl (k := 2) rfl (h4.mono l7) hk1 rfl (hr3 _ _ _ 0 rfl S) hy6 rfl rfl ?_; clear F a S
         rintro v6 c7 a w h7 S F; replace S : St g7 [c6, [bx b4 #[.bool y5.Delete, .i6 y5.Replica, .i6 y5.Counter, .i6 y5.AfterReplica, .i6 y5.AfterCounter, .string y5.Line] 33], c7, [bx b1 #[.i6 0, .i6 0] 25]] fr w := S
         refine wE (ev_assign rfl) F S rfl fun a F=>?_
         refine wpList_nil ?_
         refine inb_n ?_
         refine then_n ?_
         replace S : St g7 [c7, [bx b1 #[.i6 0, .i6 0] 25]] fr w := St.tail [c7, [bx b1 #[.i6 0, .i6 0] 25]] _ ((S.frontC 3 rfl).frontC 3 rfl)
         exact ⟨y6, v6, c7, g7, F.sub ⟨rfl, rfl, rfl, rfl, rfl, rfl, trivial⟩, l7, S, h7, hm⟩
        ·refine wp_condF F rfl hc5 ?_
         refine wp_seq ?_
         refine wp_quiet mo (by kernel_rfl) S ?_
         refine wq_ev (wn rfl) (ev_move rfl) F rfl rfl ?_; clear F a; intro a F
         refine wq_ev (wn rfl) (ev_move rfl) F rfl rfl ?_; clear F a; intro a F
         obtain ⟨y7, hy7, hm⟩ := bind_some hm
         obtain ⟨cs3, hr4, hp2⟩ := elemS (ha_1.mono ((((l1.trans l2).trans l3).trans l5).trans l7)) hy7
         obtain rfl := rep_SeqOp hr4
         refine wq_ev (wn rfl) (ev_idxS (ha_1.mono ((((l1.trans l2).trans l3).trans l5).trans l7)) hy7 tu22 ts33 rfl rfl) F rfl rfl ?_; clear F a; intro a F
         refine wq_ev (wn rfl) (ev_loadA tu33 rfl (cs := [.bool y7.Delete, .i6 y7.Replica, .i6 y7.Counter, .i6 y7.AfterReplica, .i6 y7.AfterCounter, .string y7.Line]) ts33 rfl (ptr_mono (cks := [[bx b4 #[.bool y5.Delete, .i6 y5.Replica, .i6 y5.Counter, .i6 y5.AfterReplica, .i6 y5.AfterCounter, .string y5.Line] 33], c4, [bx b1 #[.i6 0, .i6 0] 25]]) (fr := fr) hp2 (Le.refl _))) F rfl rfl ?_; clear F a; intro a F
         refine wq_ev (wn rfl) (ev_loadA tu33 rfl (cs := [.bool y5.Delete, .i6 y5.Replica, .i6 y5.Counter, .i6 y5.AfterReplica, .i6 y5.AfterCounter, .string y5.Line]) ts33 rfl (box_ptr (cells := [.bool y5.Delete, .i6 y5.Replica, .i6 y5.Counter, .i6 y5.AfterReplica, .i6 y5.AfterCounter, .string y5.Line]) 0 rfl 0 rfl (lb rfl))) F rfl rfl ?_; clear F a; intro a F
         refine wq_ev (wn rfl) (ev_neS tu33 tqa33 tqb33 tqc33 (xs := [.bool y7.Delete, .i6 y7.Replica, .i6 y7.Counter, .i6 y7.AfterReplica, .i6 y7.AfterCounter, .string y7.Line]) (ys := [.bool y5.Delete, .i6 y5.Replica, .i6 y5.Counter, .i6 y5.AfterReplica, .i6 y5.AfterCounter, .string y5.Line]) rfl rfl ⟨_, _, rfl, by decide, ⟨_, _, rfl, rfl, leaf_bool tu4⟩, ⟨_, _, rfl, by decide, ⟨_, _, rfl, rfl, leaf_int tu3⟩, ⟨_, _, rfl, by decide, ⟨_, _, rfl, rfl, leaf_int tu3⟩, ⟨_, _, rfl, by decide, ⟨_, _, rfl, rfl, leaf_int tu3⟩, ⟨_, _, rfl, by decide, ⟨_, _, rfl, rfl, leaf_int tu3⟩, ⟨_, _, rfl, by decide, ⟨_, _, rfl, rfl, leaf_str tu9⟩, rfl⟩⟩⟩⟩⟩⟩) F rfl rfl ?_; clear F a; intro a F
         refine wq_nil ?_; clear S; intro w S
         refine then_n ?_
         obtain ⟨hc6, hm⟩ | ⟨hc6, hm⟩ := ite_or hm
         ·refine wp_condT F rfl hc6 ?_
          refine wp_seq ?_
          refine wp_region_lit ?_
          refine wE (ev_move rfl) F S rfl fun a F=>?_
          refine wE (ev_build (parts := [(0, .const (.i6 19)), (1, .tmp 50)]) (vs := [(0, .i6 19), (1, .i6 x2)]) rfl (fun w => tb25_0_1 19 x2 w)) F S rfl fun a F=>?_
          refine wE (ev_assign rfl) F S rfl fun a F=>?_
          refine wl_storeC (wn rfl) rfl F S rfl rfl (vs := [.i6 19, .i6 x2]) rfl ts25 (one_cons rfl (one_cons rfl one_nil)) (k := 2) rfl (lb rfl) (c' := #[.i6 19, .i6 x2]) rfl rfl ?_; clear S; intro w S
          refine wpList_nil ?_
          refine then_n ?_
          refine wp_ret ?_
          refine inb_r ?_
          refine then_r ?_
          refine then_r ?_
          refine inb_r ?_
          refine then_r ?_
          obtain rfl := sinj hm
          obtain rfl := hfin1 _ rfl
          clear hm
          have hm : (some ([], ({ Code := 19, Index := x2 } : Fault)) : Option ((List SeqOp) × Fault)) = some _ := hmo1
          obtain rfl := sinj hm
          replace S : St g7 [[], [bx b4 #[.bool y5.Delete, .i6 y5.Replica, .i6 y5.Counter, .i6 y5.AfterReplica, .i6 y5.AfterCounter, .string y5.Line] 33], c4, [bx b1 #[.i6 19, .i6 x2] 25]] fr w := S
          refine post_r _ F rfl (ar_cons (resT rfl) (ar_cons (resA rfl tu25 rfl (box_ptr (cells := [.i6 19, .i6 x2]) 3 rfl 0 rfl (lb rfl) w S) ts25) ar_nil)) ?_
          replace S : St g7 [[]] fr w := St.tail [[]] _ (S.frontC 0 rfl)
          exact ⟨_, rfl, g7, (nilS), [], ((((l1.trans l2).trans l3).trans l5).trans l7), S, (OwnS.nil _), rfl⟩
         ·refine wp_condF F rfl hc6 ?_
          refine wp_skip ?_
          refine inb_n ?_
          refine then_n ?_
          replace S : St g7 [c4, [bx b1 #[.i6 0, .i6 0] 25]] fr w := St.tail [c4, [bx b1 #[.i6 0, .i6 0] 25]] _ ((S.frontC 2 rfl).frontC 2 rfl)
          exact ⟨x3, v3, c4, g7, F.sub ⟨rfl, rfl, rfl, rfl, rfl, rfl, trivial⟩, l7, S, (h4.mono l7), hm⟩
      ·clear F S hm; rintro a w ⟨x5, v4, c5, g6, F, l6, S, h5, hm⟩
       refine wp_region_lit ?_
       obtain ⟨z1, hz1, hm⟩ := bind_some hm
       refine wE (ev_int rfl rfl (bo_add hz1)) F S rfl fun a F=>?_
       refine wE (ev_move rfl) F S rfl fun a F=>?_
       refine wpList_nil ?_
       refine then_n ?_
       obtain rfl := sinj hm
       refine ⟨_, rfl, ?_⟩
       dsimp only
       exact ⟨v4, c5, g6, F.sub ⟨rfl, rfl, rfl, rfl, rfl, rfl, trivial⟩, (l5.trans l6), S, h5⟩
     ·refine wp_condF F rfl hc4 ?_
      refine wp_exit ?_
      refine then_e ?_
      refine then_e ?_
      refine inb_x ?_
      refine then_n ?_
      obtain rfl := sinj hm
      obtain rfl := hfin1 _ rfl
      clear hm
      have hm : (sequence_Merge.j1 x3 : Option ((List SeqOp) × Fault)) = some _ := hmo1
      exact ⟨x3, v3, c4, g5, F.sub ⟨rfl, rfl, trivial⟩, l5, S, h4, hm⟩
   ·clear F S hm; rintro a w ⟨x1, v2, c2, g4, F, l4, S, h2, hm⟩
    refine wp_seq ?_
    refine wp_seq ?_
    refine wp_region_lit ?_
    refine wE (ev_move rfl) F S rfl fun a F=>?_
    refine wE (ev_lenOw h2 rfl tu22) F S rfl fun a F=>?_
    refine wE (ev_int rfl rfl (bo_gtr _ _ _ _)) F S rfl fun a F=>?_
    refine wpList_nil ?_
    refine then_n ?_
    obtain ⟨hc3, hm⟩ | ⟨hc3, hm⟩ := ite_or hm
    ·refine wp_condT F rfl hc3 ?_
     refine wp_seq ?_
     refine wp_region_lit ?_
     refine wE (ev_build (parts := [(0, .const (.i6 10)), (1, .const (.i6 (-1)))]) (vs := [(0, .i6 10), (1, .i6 (-1))]) rfl (fun w => tb25_0_1 10 (-1) w)) F S rfl fun a F=>?_
     refine wE (ev_assign rfl) F S rfl fun a F=>?_
     refine wl_storeC (wn rfl) rfl F S rfl rfl (vs := [.i6 10, .i6 (-1)]) rfl ts25 (one_cons rfl (one_cons rfl one_nil)) (k := 1) rfl (lb rfl) (c' := #[.i6 10, .i6 (-1)]) rfl rfl ?_; clear S; intro w S
     refine wpList_nil ?_
     refine then_n ?_
     refine wp_ret ?_
     refine then_r ?_
     obtain rfl := sinj hm
     replace S : St g4 [[], c2, [bx b1 #[.i6 10, .i6 (-1)] 25]] fr w := S
     refine post_r _ F rfl (ar_cons (resT rfl) (ar_cons (resA rfl tu25 rfl (box_ptr (cells := [.i6 10, .i6 (-1)]) 2 rfl 0 rfl (lb rfl) w S) ts25) ar_nil)) ?_
     replace S : St g4 [[]] fr w := St.tail [[]] _ (S.frontC 0 rfl)
     exact ⟨_, rfl, g4, (nilS), [], (((l1.trans l2).trans l3).trans l4), S, (OwnS.nil _), rfl⟩
    ·refine wp_condF F rfl hc3 ?_
     refine wp_skip ?_
     refine then_n ?_
     refine wp_seq ?_
     refine wp_region_lit ?_
     refine wE (ev_move rfl) F S rfl fun a F=>?_
     obtain ⟨y4, hy4, hm⟩ := bind_some hm
     refine wl_call0 (wn rfl) rfl F rfl (sort_ok (δ := SeqOp) Try.lay26 sA33 sZ33 tc33 (fun g w x y cx cy r hx hy S hm => by obtain rfl := rep_SeqOp hx; obtain rfl := rep_SeqOp hy; exact sequence_Merge_s2_ok x y S hm) S h2 hy4) rfl tc26 rfl rfl ?_; clear F a S
     rintro _ a w ⟨c3, S, h3, rfl⟩ F; replace S : St g4 [c3, [bx b1 #[.i6 0, .i6 0] 25]] fr w := S
     refine wpList_nil ?_
     refine then_n ?_
     refine wp_seq ?_
     refine wp_region_lit ?_
     refine wE (ev_move rfl) F S rfl fun a F=>?_
     refine wE (ev_build (parts := []) (vs := []) rfl (fun w => tb25_  w)) F S rfl fun a F=>?_
     refine wE (ev_assign rfl) F S rfl fun a F=>?_
     refine wl_storeC (wn rfl) rfl F S rfl rfl (vs := [.i6 0, .i6 0]) rfl ts25 (one_cons rfl (one_cons rfl one_nil)) (k := 1) rfl (lb rfl) (c' := #[.i6 0, .i6 0]) rfl rfl ?_; clear S; intro w S
     refine wpList_nil ?_
     refine then_n ?_
     refine wp_ret ?_
     obtain rfl := sinj hm
     refine post_r _ F rfl (ar_cons (resT rfl) (ar_cons (resA rfl tu25 rfl (box_ptr (cells := [.i6 0, .i6 0]) 1 rfl 0 rfl (lb rfl) w S) ts25) ar_nil)) ?_
     replace S : St g4 [c3] fr w := St.tail [c3] _ (S.frontC 0 rfl)
     exact ⟨_, rfl, g4, v2, c3, (((l1.trans l2).trans l3).trans l4), S, h3, rfl⟩

theorem changeforgeequal_Ops_ok {g : Gh} {fr : Hl} {w : World} {r : Bool} (a_ : (List SeqOp)) (va_1 : Value) (ha_1 : RepSl g a_ va_1) (b_ : (List SeqOp)) (vb_1 : Value) (hb_1 : RepSl g b_ vb_1) (S : St g [] fr w) (hm : changeforgeequal_Ops a_ b_ = some r) :
  Calls Try.prog 21 [va_1, vb_1].toArray w (fun en w' => ∃ v, en = .returned v ∧ ∃ (g' : Gh), Le g g' ∧ St g' [] fr w' ∧ .bool r = v) := by
 unfold changeforgeequal_Ops at hm
 refine calls_enter (fn := Try.f21) Try.func21 rfl Try.ntmps21 (lb rfl) ?_
 intro a F
 replace F : Fr 26 a [(0, va_1), (1, vb_1)] := F
 refine wp_seq ?_
 refine wp_region_lit ?_
 refine wE (ev_assign rfl) F S rfl fun a F=>?_
 refine wpList_nil ?_
 refine then_n ?_
 refine wp_seq ?_
 refine wp_seq ?_
 refine wp_region_lit ?_
 refine wE (ev_move rfl) F S rfl fun a F=>?_
 refine wE (ev_lenSh ha_1 rfl tu22) F S rfl fun a F=>?_
 refine wE (ev_move rfl) F S rfl fun a F=>?_
 refine wE (ev_lenSh hb_1 rfl tu22) F S rfl fun a F=>?_
 refine wE (ev_int rfl rfl (bo_neq _ _ _ _)) F S rfl fun a F=>?_
 refine wpList_nil ?_
 refine then_n ?_
 obtain ⟨hc1, hm⟩ | ⟨hc1, hm⟩ := ite_or hm
 ·refine wp_condT F rfl hc1 ?_
  refine wp_seq ?_
  refine wp_region_lit ?_
  refine wE (ev_assign rfl) F S rfl fun a F=>?_
  refine wpList_nil ?_
  refine then_n ?_
  refine wp_ret ?_
  refine then_r ?_
  obtain rfl := sinj hm
  refine post_r _ F rfl (ar_cons (resT rfl) ar_nil) ?_
  exact ⟨_, rfl, g, (Le.refl _), S, rfl⟩
 ·refine wp_condF F rfl hc1 ?_
  refine wp_skip ?_
  refine then_n ?_
  refine wp_cut (fun a w => ∃ (g1 : Gh), Fr 26 a [] ∧ Le g g1 ∧ St g1 [] fr w ∧ changeforgeequal_Ops.j1 = some r) ?_ ?_
  ·refine wp_seq ?_
   refine wp_region_lit ?_
   refine wE (ev_assign rfl) F S rfl fun a F=>?_
   refine wpList_nil ?_
   refine then_n ?_
   refine wp_block ?_
   obtain ⟨r1, hr1, hm⟩ := bind_some hm
   have hmo1 := hm; clear hm
   refine wp_iter (σ := Int) (ρ := Bool ⊕ Unit) (m := fun s => changeforgeequal_Ops.l1 a_ b_ s) (I := fun x1 a w => ∃ (g2 : Gh), Fr 26 a [(5, .i6 x1), (0, va_1), (1, vb_1)] ∧ Le g g2 ∧ St g2 [] fr w) hr1 ?_ ?_
   ·exact ⟨g, F.sub ⟨rfl, rfl, rfl, trivial⟩, (Le.refl _), S⟩
   ·clear F S; rintro x1 a w x2 ⟨g2, F, l2, S⟩ hx1 hfin1
    have hm : changeforgeequal_Ops.l1 a_ b_ x1 = some x2 := hx1; clear hx1
    unfold changeforgeequal_Ops.l1 at hm
    refine wp_seq ?_
    refine wp_seq ?_
    refine wp_region_lit ?_
    refine wE (ev_move rfl) F S rfl fun a F=>?_
    refine wE (ev_move rfl) F S rfl fun a F=>?_
    refine wE (ev_lenSh ha_1 rfl tu22) F S rfl fun a F=>?_
    refine wE (ev_int rfl rfl (bo_lss _ _ _ _)) F S rfl fun a F=>?_
    refine wpList_nil ?_
    refine then_n ?_
    obtain ⟨hc2, hm⟩ | ⟨hc2, hm⟩ := ite_or hm
    ·refine wp_condT F rfl hc2 ?_
     refine wp_skip ?_
     refine then_n ?_
     refine wp_seq ?_
     refine wp_block ?_
     refine wp_seq ?_
     refine wp_quiet mo (by kernel_rfl) S ?_
     refine wq_ev (wn rfl) (ev_move rfl) F rfl rfl ?_; clear F a; intro a F
     refine wq_ev (wn rfl) (ev_move rfl) F rfl rfl ?_; clear F a; intro a F
     obtain ⟨y1, hy1, hm⟩ := bind_some hm
     obtain ⟨cs1, hr2, hp1⟩ := elemS (ha_1.mono l2) hy1
     obtain rfl := rep_SeqOp hr2
     refine wq_ev (wn rfl) (ev_idxS (ha_1.mono l2) hy1 tu22 ts33 rfl rfl) F rfl rfl ?_; clear F a; intro a F
     refine wq_ev (wn rfl) (ev_loadA tu33 rfl (cs := [.bool y1.Delete, .i6 y1.Replica, .i6 y1.Counter, .i6 y1.AfterReplica, .i6 y1.AfterCounter, .string y1.Line]) ts33 rfl (ptr_mono (cks := []) (fr := fr) hp1 (Le.refl _))) F rfl rfl ?_; clear F a; intro a F
     refine wq_ev (wn rfl) (ev_move rfl) F rfl rfl ?_; clear F a; intro a F
     refine wq_ev (wn rfl) (ev_move rfl) F rfl rfl ?_; clear F a; intro a F
     obtain ⟨y2, hy2, hm⟩ := bind_some hm
     obtain ⟨cs2, hr3, hp2⟩ := elemS (hb_1.mono l2) hy2
     obtain rfl := rep_SeqOp hr3
     refine wq_ev (wn rfl) (ev_idxS (hb_1.mono l2) hy2 tu22 ts33 rfl rfl) F rfl rfl ?_; clear F a; intro a F
     refine wq_ev (wn rfl) (ev_loadA tu33 rfl (cs := [.bool y2.Delete, .i6 y2.Replica, .i6 y2.Counter, .i6 y2.AfterReplica, .i6 y2.AfterCounter, .string y2.Line]) ts33 rfl (ptr_mono (cks := []) (fr := fr) hp2 (Le.refl _))) F rfl rfl ?_; clear F a; intro a F
     refine wq_ev (wn rfl) (ev_neS tu33 tqa33 tqb33 tqc33 (xs := [.bool y1.Delete, .i6 y1.Replica, .i6 y1.Counter, .i6 y1.AfterReplica, .i6 y1.AfterCounter, .string y1.Line]) (ys := [.bool y2.Delete, .i6 y2.Replica, .i6 y2.Counter, .i6 y2.AfterReplica, .i6 y2.AfterCounter, .string y2.Line]) rfl rfl ⟨_, _, rfl, by decide, ⟨_, _, rfl, rfl, leaf_bool tu4⟩, ⟨_, _, rfl, by decide, ⟨_, _, rfl, rfl, leaf_int tu3⟩, ⟨_, _, rfl, by decide, ⟨_, _, rfl, rfl, leaf_int tu3⟩, ⟨_, _, rfl, by decide, ⟨_, _, rfl, rfl, leaf_int tu3⟩, ⟨_, _, rfl, by decide, ⟨_, _, rfl, rfl, leaf_int tu3⟩, ⟨_, _, rfl, by decide, ⟨_, _, rfl, rfl, leaf_str tu9⟩, rfl⟩⟩⟩⟩⟩⟩) F rfl rfl ?_; clear F a; intro a F
     refine wq_nil ?_; clear S; intro w S
     refine then_n ?_
     obtain ⟨hc3, hm⟩ | ⟨hc3, hm⟩ := ite_or hm
     ·refine wp_condT F rfl hc3 ?_
      refine wp_seq ?_
      refine wp_region_lit ?_
      refine wE (ev_assign rfl) F S rfl fun a F=>?_
      refine wpList_nil ?_
      refine then_n ?_
      refine wp_ret ?_
      refine inb_r ?_
      refine then_r ?_
      refine then_r ?_
      refine inb_r ?_
      refine then_r ?_
      obtain rfl := sinj hm
      obtain rfl := hfin1 _ rfl
      clear hm
      have hm : (some false : Option Bool) = some _ := hmo1
      obtain rfl := sinj hm
      refine post_r _ F rfl (ar_cons (resT rfl) ar_nil) ?_
      exact ⟨_, rfl, g2, l2, S, rfl⟩
     ·refine wp_condF F rfl hc3 ?_
      refine wp_skip ?_
      refine inb_n ?_
      refine then_n ?_
      refine wp_region_lit ?_
      refine wE (ev_move rfl) F S rfl fun a F=>?_
      obtain ⟨z1, hz1, hm⟩ := bind_some hm
      refine wE (ev_int rfl rfl (bo_add hz1)) F S rfl fun a F=>?_
      refine wE (ev_assign rfl) F S rfl fun a F=>?_
      refine wpList_nil ?_
      refine then_n ?_
      obtain rfl := sinj hm
      refine ⟨_, rfl, ?_⟩
      exact ⟨g2, F.sub ⟨rfl, rfl, rfl, trivial⟩, l2, S⟩
    ·refine wp_condF F rfl hc2 ?_
     refine wp_exit ?_
     refine then_e ?_
     refine then_e ?_
     refine inb_x ?_
     refine then_n ?_
     obtain rfl := sinj hm
     obtain rfl := hfin1 _ rfl
     clear hm
     have hm : (changeforgeequal_Ops.j1 : Option Bool) = some _ := hmo1
     exact ⟨g2, F.sub trivial, l2, S, hm⟩
  ·clear F S hm; rintro a w ⟨g1, F, l1, S, hm⟩
   refine wp_seq ?_
   refine wp_region_lit ?_
   refine wE (ev_assign rfl) F S rfl fun a F=>?_
   refine wpList_nil ?_
   refine then_n ?_
   refine wp_ret ?_
   obtain rfl := sinj hm
   refine post_r _ F rfl (ar_cons (resT rfl) ar_nil) ?_
   exact ⟨_, rfl, g1, l1, S, rfl⟩
end Go.Dc
