/- Walks: each function comes to what its model says. -/
import Derived.Test.YtibigfejalemjaaDoorDcTab
import Derived.Test.YtibigfejalemjaaDoorDcM
import Derived.Test.YtibigfejalemjaaDoorDcW5
namespace Go.Dc
open Go Go.Proofs
set_option maxRecDepth 100000
set_option maxHeartbeats 4000000
set_option linter.unusedVariables false
theorem sequence_Validate_ok {g : Gh} {fr : Hl} {w : World} {r : Fault} (ops : (List SeqOp)) (vops1 : Value) (hops1 : RepSl g ops vops1) (S : St g [] fr w) (hm : sequence_Validate ops = some r) :
  Calls Tryd.prog 14 [vops1].toArray w (fun en w' => ∃ v, en = .returned v ∧ ∃ (g' : Gh), Le g g' ∧ St g' [] fr w' ∧ .agg #[.i6 r.Code, .i6 r.Index] = v) := by
 unfold sequence_Validate at hm
 refine calls_enter (fn := Tryd.f14) Tryd.func14 rfl Tryd.ntmps14 (lb rfl) ?_
 intro a F
 replace F : Fr 73 a [(0, vops1)] := F
 refine wp_seq ?_
 refine wp_region_lit ?_
 refine wl_alloc (wn rfl) rfl tz25 (cs := [.i6 0, .i6 0]) rfl F S rfl rfl ?_; clear F a S; rintro b1 a w F S
 refine wpList_nil ?_
 refine then_n ?_
 refine wp_seq ?_
 refine wp_seq ?_
 refine wp_region_lit ?_
 refine wE (ev_move rfl) F S rfl fun a F=>?_
 refine wE (ev_lenSh hops1 rfl tu28) F S rfl fun a F=>?_
 refine wE (ev_int rfl rfl (bo_gtr _ _ _ _)) F S rfl fun a F=>?_
 refine wpList_nil ?_
 refine then_n ?_
 obtain ⟨hc1, hm⟩ | ⟨hc1, hm⟩ := ite_or hm
 ·refine wp_condT F rfl hc1 ?_
  refine wp_seq ?_
  refine wp_region_lit ?_
  refine wE (ev_build (parts := [(0, .const (.i6 2)), (1, .const (.i6 (-1)))]) (vs := [(0, .i6 2), (1, .i6 (-1))]) rfl (fun w => tb25_0_1 2 (-1) w)) F S rfl fun a F=>?_
  refine wl_storeC (wn rfl) rfl F S rfl rfl (vs := [.i6 2, .i6 (-1)]) rfl ts25 (one_cons rfl (one_cons rfl one_nil)) (k := 0) rfl (lb rfl) (c' := #[.i6 2, .i6 (-1)]) rfl rfl ?_; clear S; intro w S
  refine wpList_nil ?_
  refine then_n ?_
  refine wp_ret ?_
  refine then_r ?_
  obtain rfl := sinj hm
  refine post_r _ F rfl (ar_cons (resA rfl tu25 rfl (box_ptr (cells := [.i6 2, .i6 (-1)]) 0 rfl 0 rfl (lb rfl) w S) ts25) ar_nil) ?_
  replace S : St g [] fr w := St.tail [] _ S
  exact ⟨_, rfl, g, (Le.refl _), S, rfl⟩
 ·refine wp_condF F rfl hc1 ?_
  refine wp_skip ?_
  refine then_n ?_
  refine wp_seq ?_
  refine wp_region_lit ?_
  refine wl_makeB (wn rfl) rfl F S rfl rfl ?_; clear F a S; rintro v1 c1 a w h1 F S
  refine wl_makeB (wn rfl) rfl F S rfl rfl ?_; clear F a S; rintro v2 c2 a w h2 F S
  refine wE (ev_assign rfl) F S rfl fun a F=>?_
  refine wE (ev_assign rfl) F S rfl fun a F=>?_
  refine wpList_nil ?_
  refine then_n ?_
  refine wp_cut (fun a w => ∃ (x1 : List (K2 × Bool)) (c3 : Hl) (g1 : Gh), Fr 73 a [(3, v1), (2, bp b1 0), (0, vops1)] ∧ Le g g1 ∧ St g1 [c3, [bx b1 #[.i6 0, .i6 0] 25]] fr w ∧ OwnB g1 x1 v1 c3 ∧ sequence_Validate.j1 ops x1 = some r) ?_ ?_
  ·refine wp_seq ?_
   refine wp_region_lit ?_
   refine wE (ev_move rfl) F S rfl fun a F=>?_
   refine wE (ev_lenSh hops1 rfl tu28) F S rfl fun a F=>?_
   refine wE (ev_move rfl) F S rfl fun a F=>?_
   refine wpList_nil ?_
   refine then_n ?_
   refine wp_block ?_
   obtain ⟨r2, hr3, hm⟩ := bind_some hm
   have hmo2 := hm; clear hm
   refine wp_iter (σ := Int × (List (K2 × Bool)) × (List (K2 × Bool))) (ρ := Fault ⊕ (List (K2 × Bool))) (m := fun s => sequence_Validate.l2 ops s.1 s.2.1 s.2.2) (I := fun s a w => match s with | (x7, x8, x9) => ∃ (c4 c5 : Hl) (g7 : Gh), Fr 73 a [(20, .i6 x7), (19, .i6 (ops.length : Int)), (18, vops1), (4, v2), (3, v1), (2, bp b1 0), (0, vops1)] ∧ Le g g7 ∧ St g7 [c4, c5, [bx b1 #[.i6 0, .i6 0] 25]] fr w ∧ OwnB g7 x8 v2 c4 ∧ OwnB g7 x9 v1 c5) hr3 ?_ ?_
   ·dsimp only
    exact ⟨c2, c1, g, F.sub ⟨rfl, rfl, rfl, rfl, rfl, rfl, rfl, trivial⟩, (Le.refl _), S, h2, h1⟩
   ·clear F S; rintro ⟨x7, x8, x9⟩ a w x10 ⟨c4, c5, g7, F, l7, S, h4, h5⟩ hx3 hfin2
    have hm : sequence_Validate.l2 ops x7 x8 x9 = some x10 := hx3; clear hx3
    unfold sequence_Validate.l2 at hm
    refine wp_seq ?_
    refine wp_region_lit ?_
    refine wE (ev_int rfl rfl (bo_lss _ _ _ _)) F S rfl fun a F=>?_
    refine wpList_nil ?_
    refine then_n ?_
    refine wp_seq ?_
    obtain ⟨hc6, hm⟩ | ⟨hc6, hm⟩ := ite_or hm
    ·refine wp_condT F rfl hc6 ?_
     refine wp_skip ?_
     refine then_n ?_
     refine wp_seq ?_
     refine wp_block ?_
     refine wp_seq ?_
     refine wp_region_lit ?_
     refine wE (ev_move rfl) F S rfl fun a F=>?_
     obtain ⟨y4, hy4, hm⟩ := bind_some hm
     obtain ⟨cs2, hr4, hp2⟩ := elemS (hops1.mono l7) hy4
     obtain rfl := rep_SeqOp hr4
     refine wE (ev_idxS (hops1.mono l7) hy4 tu28 ts30 rfl rfl) F S rfl fun a F=>?_
     refine wE (ev_loadA tu30 rfl (cs := [.bool y4.Delete, .i6 y4.Replica, .i6 y4.Counter, .i6 y4.AfterReplica, .i6 y4.AfterCounter, .string y4.Line]) ts30 rfl (ptr_mono (cks := [c4, c5, [bx b1 #[.i6 0, .i6 0] 25]]) (fr := fr) hp2 (Le.refl _))) F S rfl fun a F=>?_
     refine wl_alloc (wn rfl) rfl tz30 (cs := [.bool false, .i6 0, .i6 0, .i6 0, .i6 0, .string ByteArray.empty]) rfl F S rfl rfl ?_; clear F a S; rintro b4 a w F S
     refine wE (ev_assign rfl) F S rfl fun a F=>?_
     refine wl_storeC (wn rfl) rfl F S rfl rfl (vs := [.bool y4.Delete, .i6 y4.Replica, .i6 y4.Counter, .i6 y4.AfterReplica, .i6 y4.AfterCounter, .string y4.Line]) rfl ts30 (one_cons rfl (one_cons rfl (one_cons rfl (one_cons rfl (one_cons rfl (one_cons rfl one_nil)))))) (k := 0) rfl (lb rfl) (c' := #[.bool y4.Delete, .i6 y4.Replica, .i6 y4.Counter, .i6 y4.AfterReplica, .i6 y4.AfterCounter, .string y4.Line]) rfl rfl ?_; clear S; intro w S
     refine wpList_nil ?_
     refine then_n ?_
     refine wp_seq ?_
     refine wp_seq ?_
     refine wp_region_lit ?_
     refine wE (ev_loadA tu30 rfl (cs := [.bool y4.Delete, .i6 y4.Replica, .i6 y4.Counter, .i6 y4.AfterReplica, .i6 y4.AfterCounter, .string y4.Line]) ts30 rfl (box_ptr (cells := [.bool y4.Delete, .i6 y4.Replica, .i6 y4.Counter, .i6 y4.AfterReplica, .i6 y4.AfterCounter, .string y4.Line]) 0 rfl 0 rfl (lb rfl))) F S rfl fun a F=>?_
     obtain ⟨y5, hy5, hm⟩ := bind_some hm
     refine wl_call0 (wn rfl) rfl F rfl (sequence_check_ok (fr := (fl [[bx b4 #[.bool y4.Delete, .i6 y4.Replica, .i6 y4.Counter, .i6 y4.AfterReplica, .i6 y4.AfterCounter, .string y4.Line] 30], c4, c5, [bx b1 #[.i6 0, .i6 0] 25]] fr)) y4 S hy5) rfl tc32 rfl rfl ?_; clear F a S
     rintro _ a w ⟨g8, l8, S, rfl⟩ F; replace S : St g8 [[bx b4 #[.bool y4.Delete, .i6 y4.Replica, .i6 y4.Counter, .i6 y4.AfterReplica, .i6 y4.AfterCounter, .string y4.Line] 30], c4, c5, [bx b1 #[.i6 0, .i6 0] 25]] fr w := S
     refine wE (ev_assign rfl) F S rfl fun a F=>?_
     refine wpList_nil ?_
     refine then_n ?_
     refine wp_seq ?_
     refine wp_region_lit ?_
     refine wE (ev_move rfl) F S rfl fun a F=>?_
     refine wE (ev_int rfl rfl (bo_neq _ _ _ _)) F S rfl fun a F=>?_
     refine wpList_nil ?_
     refine then_n ?_
     obtain ⟨hc7, hm⟩ | ⟨hc7, hm⟩ := ite_or hm
     ·refine wp_condT F rfl hc7 ?_
      refine wp_seq ?_
      refine wp_region_lit ?_
      refine wE (ev_move rfl) F S rfl fun a F=>?_
      refine wE (ev_move rfl) F S rfl fun a F=>?_
      refine wE (ev_build (parts := [(0, .tmp 29), (1, .tmp 30)]) (vs := [(0, .i6 y5), (1, .i6 x7)]) rfl (fun w => tb25_0_1 y5 x7 w)) F S rfl fun a F=>?_
      refine wl_storeC (wn rfl) rfl F S rfl rfl (vs := [.i6 y5, .i6 x7]) rfl ts25 (one_cons rfl (one_cons rfl one_nil)) (k := 3) rfl (lb rfl) (c' := #[.i6 y5, .i6 x7]) rfl rfl ?_; clear S; intro w S
      refine wpList_nil ?_
      refine then_n ?_
      refine wp_ret ?_
      refine then_r ?_
      refine inb_r ?_
      refine then_r ?_
      refine then_r ?_
      refine inb_r ?_
      refine then_r ?_
      obtain rfl := sinj hm
      obtain rfl := hfin2 _ rfl
      clear hm
      have hm : (some ({ Code := y5, Index := x7 } : Fault) : Option Fault) = some _ := hmo2
      obtain rfl := sinj hm
      refine post_r _ F rfl (ar_cons (resA rfl tu25 rfl (box_ptr (cells := [.i6 y5, .i6 x7]) 3 rfl 0 rfl (lb rfl) w S) ts25) ar_nil) ?_
      replace S : St g8 [] fr w := St.tail [] _ S
      exact ⟨_, rfl, g8, (l7.trans l8), S, rfl⟩
     ·refine wp_condF F rfl hc7 ?_
      refine wp_skip ?_
      refine then_n ?_
      refine wp_seq ?_
      refine wp_region_lit ?_
      refine wE (ev_move rfl) F S rfl fun a F=>?_
      refine wE (ev_assign rfl) F S rfl fun a F=>?_
      refine wpList_nil ?_
      refine then_n ?_
      refine wp_seq ?_
      refine wp_seq ?_
      refine wp_region_lit ?_
      refine wE (ev_fieldAddr' tu30 tf30_0 (z := 0) ts4 rfl ⟨_, rfl⟩ rfl) F S rfl fun a F=>?_
      refine wE (ev_load1 tu4 rfl rfl (box_ptr (cells := [.bool y4.Delete]) 0 rfl 0 rfl (lb rfl))) F S rfl fun a F=>?_
      refine wpList_nil ?_
      refine then_n ?_
      obtain ⟨hc8, hm⟩ | ⟨hc8, hm⟩ := ite_or hm
      ·refine wp_condT F rfl hc8 ?_
       refine wp_region_lit ?_
       refine wE (ev_move rfl) F S rfl fun a F=>?_
       refine wE (ev_assign rfl) F S rfl fun a F=>?_
       refine wpList_nil ?_
       refine then_n ?_
       refine wp_seq ?_
       refine wp_seq ?_
       refine wp_region_lit ?_
       refine wE (ev_move rfl) F S rfl fun a F=>?_
       refine wE (ev_loadA tu30 rfl (cs := [.bool y4.Delete, .i6 y4.Replica, .i6 y4.Counter, .i6 y4.AfterReplica, .i6 y4.AfterCounter, .string y4.Line]) ts30 rfl (box_ptr (cells := [.bool y4.Delete, .i6 y4.Replica, .i6 y4.Counter, .i6 y4.AfterReplica, .i6 y4.AfterCounter, .string y4.Line]) 0 rfl 0 rfl (lb rfl))) F S rfl fun a F=>?_
       obtain ⟨y6, hy6, hm⟩ := bind_some hm
       refine wl_call0 (wn rfl) rfl F rfl (sequence_own_ok (fr := (fl [[bx b4 #[.bool y4.Delete, .i6 y4.Replica, .i6 y4.Counter, .i6 y4.AfterReplica, .i6 y4.AfterCounter, .string y4.Line] 30], c4, c5, [bx b1 #[.i6 0, .i6 0] 25]] fr)) y4 S hy6) rfl tc15 rfl rfl ?_; clear F a S
       rintro _ a w ⟨g9, l9, S, rfl⟩ F; replace S : St g9 [[bx b4 #[.bool y4.Delete, .i6 y4.Replica, .i6 y4.Counter, .i6 y4.AfterReplica, .i6 y4.AfterCounter, .string y4.Line] 30], c4, c5, [bx b1 #[.i6 0, .i6 0] 25]] fr w := S
       refine wE (ev_lookB (h4.mono (l8.trans l9)) tk60 tu57 tz4 rfl (k := (y6.counter, y6.replica)) rfl 1 rfl) F S rfl fun a F=>?_
       refine wpList_nil ?_
       refine then_n ?_
       obtain ⟨hc9, hm⟩ | ⟨hc9, hm⟩ := ite_or hm
       ·refine wp_condT F rfl hc9 ?_
        refine wp_seq ?_
        refine wp_region_lit ?_
        refine wE (ev_move rfl) F S rfl fun a F=>?_
        refine wE (ev_build (parts := [(0, .const (.i6 7)), (1, .tmp 40)]) (vs := [(0, .i6 7), (1, .i6 x7)]) rfl (fun w => tb25_0_1 7 x7 w)) F S rfl fun a F=>?_
        refine wl_storeC (wn rfl) rfl F S rfl rfl (vs := [.i6 7, .i6 x7]) rfl ts25 (one_cons rfl (one_cons rfl one_nil)) (k := 3) rfl (lb rfl) (c' := #[.i6 7, .i6 x7]) rfl rfl ?_; clear S; intro w S
        refine wpList_nil ?_
        refine then_n ?_
        refine wp_ret ?_
        refine then_r ?_
        refine inb_r ?_
        refine then_r ?_
        refine then_r ?_
        refine inb_r ?_
        refine then_r ?_
        obtain rfl := sinj hm
        obtain rfl := hfin2 _ rfl
        clear hm
        have hm : (some ({ Code := 7, Index := x7 } : Fault) : Option Fault) = some _ := hmo2
        obtain rfl := sinj hm
        refine post_r _ F rfl (ar_cons (resA rfl tu25 rfl (box_ptr (cells := [.i6 7, .i6 x7]) 3 rfl 0 rfl (lb rfl) w S) ts25) ar_nil) ?_
        replace S : St g9 [] fr w := St.tail [] _ S
        exact ⟨_, rfl, g9, ((l7.trans l8).trans l9), S, rfl⟩
       ·refine wp_condF F rfl hc9 ?_
        refine wp_skip ?_
        refine then_n ?_
        refine wp_region_lit ?_
        refine wE (ev_move rfl) F S rfl fun a F=>?_
        refine wE (ev_loadA tu30 rfl (cs := [.bool y4.Delete, .i6 y4.Replica, .i6 y4.Counter, .i6 y4.AfterReplica, .i6 y4.AfterCounter, .string y4.Line]) ts30 rfl (box_ptr (cells := [.bool y4.Delete, .i6 y4.Replica, .i6 y4.Counter, .i6 y4.AfterReplica, .i6 y4.AfterCounter, .string y4.Line]) 0 rfl 0 rfl (lb rfl))) F S rfl fun a F=>?_
        obtain ⟨y7, hy7, hm⟩ := bind_some hm
        refine wl_call0 (wn rfl) rfl F rfl (sequence_own_ok (fr := (fl [[bx b4 #[.bool y4.Delete, .i6 y4.Replica, .i6 y4.Counter, .i6 y4.AfterReplica, .i6 y4.AfterCounter, .string y4.Line] 30], c4, c5, [bx b1 #[.i6 0, .i6 0] 25]] fr)) y4 S hy7) rfl tc15 rfl rfl ?_; clear F a S
        rintro _ a w ⟨g10, l10, S, rfl⟩ F; replace S : St g10 [[bx b4 #[.bool y4.Delete, .i6 y4.Replica, .i6 y4.Counter, .i6 y4.AfterReplica, .i6 y4.AfterCounter, .string y4.Line] 30], c4, c5, [bx b1 #[.i6 0, .i6 0] 25]] fr w := S
        refine wl_updB (h4.mono ((l8.trans l9).trans l10)) tk60 tu57 (wn rfl) rfl F S rfl (k := (y7.counter, y7.replica)) rfl rfl 1 rfl rfl ?_; clear S
        rintro c6 w h6 S; replace S : St g10 [[bx b4 #[.bool y4.Delete, .i6 y4.Replica, .i6 y4.Counter, .i6 y4.AfterReplica, .i6 y4.AfterCounter, .string y4.Line] 30], c6, c5, [bx b1 #[.i6 0, .i6 0] 25]] fr w := S
        obtain ⟨y8, hy8, hm⟩ := bind_some hm
        replace h6 : OwnB g10 y8 v2 c6 := sinj hy8 ▸ h6
        refine wpList_nil ?_
        refine inb_n ?_
        refine then_n ?_
        refine wp_region_lit ?_
        obtain ⟨z2, hz2, hm⟩ := bind_some hm
        refine wE (ev_int rfl rfl (bo_add hz2)) F S rfl fun a F=>?_
        refine wE (ev_move rfl) F S rfl fun a F=>?_
        refine wpList_nil ?_
        refine then_n ?_
        obtain rfl := sinj hm
        refine ⟨_, rfl, ?_⟩
        dsimp only
        replace S : St g10 [c6, c5, [bx b1 #[.i6 0, .i6 0] 25]] fr w := St.tail [c6, c5, [bx b1 #[.i6 0, .i6 0] 25]] _ (((S.frontC 3 rfl).frontC 3 rfl).frontC 3 rfl)
        exact ⟨c6, c5, g10, F.sub ⟨rfl, rfl, rfl, rfl, rfl, rfl, rfl, trivial⟩, (((l7.trans l8).trans l9).trans l10), S, h6, (h5.mono ((l8.trans l9).trans l10))⟩
      ·refine wp_condF F rfl hc8 ?_
       refine wp_skip ?_
       refine then_n ?_
       refine wp_seq ?_
       refine wp_seq ?_
       refine wp_region_lit ?_
       refine wE (ev_move rfl) F S rfl fun a F=>?_
       refine wE (ev_loadA tu30 rfl (cs := [.bool y4.Delete, .i6 y4.Replica, .i6 y4.Counter, .i6 y4.AfterReplica, .i6 y4.AfterCounter, .string y4.Line]) ts30 rfl (box_ptr (cells := [.bool y4.Delete, .i6 y4.Replica, .i6 y4.Counter, .i6 y4.AfterReplica, .i6 y4.AfterCounter, .string y4.Line]) 0 rfl 0 rfl (lb rfl))) F S rfl fun a F=>?_
       obtain ⟨y9, hy9, hm⟩ := bind_some hm
       refine wl_call0 (wn rfl) rfl F rfl (sequence_own_ok (fr := (fl [[bx b4 #[.bool y4.Delete, .i6 y4.Replica, .i6 y4.Counter, .i6 y4.AfterReplica, .i6 y4.AfterCounter, .string y4.Line] 30], c4, c5, [bx b1 #[.i6 0, .i6 0] 25]] fr)) y4 S hy9) rfl tc15 rfl rfl ?_; clear F a S
       rintro _ a w ⟨g11, l11, S, rfl⟩ F; replace S : St g11 [[bx b4 #[.bool y4.Delete, .i6 y4.Replica, .i6 y4.Counter, .i6 y4.AfterReplica, .i6 y4.AfterCounter, .string y4.Line] 30], c4, c5, [bx b1 #[.i6 0, .i6 0] 25]] fr w := S
       refine wE (ev_lookB (h5.mono (l8.trans l11)) tk60 tu57 tz4 rfl (k := (y9.counter, y9.replica)) rfl 2 rfl) F S rfl fun a F=>?_
       refine wpList_nil ?_
       refine then_n ?_
       obtain ⟨hc10, hm⟩ | ⟨hc10, hm⟩ := ite_or hm
       ·refine wp_condT F rfl hc10 ?_
        refine wp_seq ?_
        refine wp_region_lit ?_
        refine wE (ev_move rfl) F S rfl fun a F=>?_
        refine wE (ev_build (parts := [(0, .const (.i6 7)), (1, .tmp 40)]) (vs := [(0, .i6 7), (1, .i6 x7)]) rfl (fun w => tb25_0_1 7 x7 w)) F S rfl fun a F=>?_
        refine wl_storeC (wn rfl) rfl F S rfl rfl (vs := [.i6 7, .i6 x7]) rfl ts25 (one_cons rfl (one_cons rfl one_nil)) (k := 3) rfl (lb rfl) (c' := #[.i6 7, .i6 x7]) rfl rfl ?_; clear S; intro w S
        refine wpList_nil ?_
        refine then_n ?_
        refine wp_ret ?_
        refine then_r ?_
        refine inb_r ?_
        refine then_r ?_
        refine then_r ?_
        refine inb_r ?_
        refine then_r ?_
        obtain rfl := sinj hm
        obtain rfl := hfin2 _ rfl
        clear hm
        have hm : (some ({ Code := 7, Index := x7 } : Fault) : Option Fault) = some _ := hmo2
        obtain rfl := sinj hm
        refine post_r _ F rfl (ar_cons (resA rfl tu25 rfl (box_ptr (cells := [.i6 7, .i6 x7]) 3 rfl 0 rfl (lb rfl) w S) ts25) ar_nil) ?_
        replace S : St g11 [] fr w := St.tail [] _ S
        exact ⟨_, rfl, g11, ((l7.trans l8).trans l11), S, rfl⟩
       ·refine wp_condF F rfl hc10 ?_
        refine wp_skip ?_
        refine then_n ?_
        refine wp_region_lit ?_
        refine wE (ev_move rfl) F S rfl fun a F=>?_
        refine wE (ev_loadA tu30 rfl (cs := [.bool y4.Delete, .i6 y4.Replica, .i6 y4.Counter, .i6 y4.AfterReplica, .i6 y4.AfterCounter, .string y4.Line]) ts30 rfl (box_ptr (cells := [.bool y4.Delete, .i6 y4.Replica, .i6 y4.Counter, .i6 y4.AfterReplica, .i6 y4.AfterCounter, .string y4.Line]) 0 rfl 0 rfl (lb rfl))) F S rfl fun a F=>?_
        obtain ⟨y10, hy10, hm⟩ := bind_some hm
        refine wl_call0 (wn rfl) rfl F rfl (sequence_own_ok (fr := (fl [[bx b4 #[.bool y4.Delete, .i6 y4.Replica, .i6 y4.Counter, .i6 y4.AfterReplica, .i6 y4.AfterCounter, .string y4.Line] 30], c4, c5, [bx b1 #[.i6 0, .i6 0] 25]] fr)) y4 S hy10) rfl tc15 rfl rfl ?_; clear F a S
        rintro _ a w ⟨g12, l12, S, rfl⟩ F; replace S : St g12 [[bx b4 #[.bool y4.Delete, .i6 y4.Replica, .i6 y4.Counter, .i6 y4.AfterReplica, .i6 y4.AfterCounter, .string y4.Line] 30], c4, c5, [bx b1 #[.i6 0, .i6 0] 25]] fr w := S
        refine wl_updB (h5.mono ((l8.trans l11).trans l12)) tk60 tu57 (wn rfl) rfl F S rfl (k := (y10.counter, y10.replica)) rfl rfl 2 rfl rfl ?_; clear S
        rintro c7 w h7 S; replace S : St g12 [[bx b4 #[.bool y4.Delete, .i6 y4.Replica, .i6 y4.Counter, .i6 y4.AfterReplica, .i6 y4.AfterCounter, .string y4.Line] 30], c4, c7, [bx b1 #[.i6 0, .i6 0] 25]] fr w := S
        obtain ⟨y11, hy11, hm⟩ := bind_some hm
        replace h7 : OwnB g12 y11 v1 c7 := sinj hy11 ▸ h7
        refine wpList_nil ?_
        refine inb_n ?_
        refine then_n ?_
        refine wp_region_lit ?_
        obtain ⟨z3, hz3, hm⟩ := bind_some hm
        refine wE (ev_int rfl rfl (bo_add hz3)) F S rfl fun a F=>?_
        refine wE (ev_move rfl) F S rfl fun a F=>?_
        refine wpList_nil ?_
        refine then_n ?_
        obtain rfl := sinj hm
        refine ⟨_, rfl, ?_⟩
        dsimp only
        replace S : St g12 [c4, c7, [bx b1 #[.i6 0, .i6 0] 25]] fr w := St.tail [c4, c7, [bx b1 #[.i6 0, .i6 0] 25]] _ (((S.frontC 3 rfl).frontC 3 rfl).frontC 3 rfl)
        exact ⟨c4, c7, g12, F.sub ⟨rfl, rfl, rfl, rfl, rfl, rfl, rfl, trivial⟩, (((l7.trans l8).trans l11).trans l12), S, (h4.mono ((l8.trans l11).trans l12)), h7⟩
    ·refine wp_condF F rfl hc6 ?_
     refine wp_exit ?_
     refine then_e ?_
     refine then_e ?_
     refine inb_x ?_
     refine then_n ?_
     obtain rfl := sinj hm
     obtain rfl := hfin2 _ rfl
     clear hm
     have hm : (sequence_Validate.j1 ops x9 : Option Fault) = some _ := hmo2
     replace S : St g7 [c5, [bx b1 #[.i6 0, .i6 0] 25]] fr w := St.tail [c5, [bx b1 #[.i6 0, .i6 0] 25]] _ ((S.frontC 2 rfl).frontC 2 rfl)
     exact ⟨x9, c5, g7, F.sub ⟨rfl, rfl, rfl, trivial⟩, l7, S, h5, hm⟩
  ·clear F S hm; rintro a w ⟨x1, c3, g1, F, l1, S, h3, hm⟩
   refine wp_cut (fun a w => ∃ (g2 : Gh), Fr 73 a [(2, bp b1 0)] ∧ Le g1 g2 ∧ St g2 [[bx b1 #[.i6 0, .i6 0] 25]] fr w ∧ sequence_Validate.j2 = some r) ?_ ?_
   ·refine wp_seq ?_
    refine wp_region_lit ?_
    refine wE (ev_move rfl) F S rfl fun a F=>?_
    refine wE (ev_lenSh hops1 rfl tu28) F S rfl fun a F=>?_
    refine wE (ev_move rfl) F S rfl fun a F=>?_
    refine wpList_nil ?_
    refine then_n ?_
    refine wp_block ?_
    obtain ⟨r1, hr1, hm⟩ := bind_some hm
    have hmo1 := hm; clear hm
    refine wp_iter (σ := Int) (ρ := Fault ⊕ Unit) (m := fun s => sequence_Validate.l1 ops x1 s) (I := fun x2 a w => ∃ (g3 : Gh), Fr 73 a [(48, .i6 x2), (47, .i6 (ops.length : Int)), (46, vops1), (3, v1), (2, bp b1 0)] ∧ Le g1 g3 ∧ St g3 [c3, [bx b1 #[.i6 0, .i6 0] 25]] fr w) hr1 ?_ ?_
    ·exact ⟨g1, F.sub ⟨rfl, rfl, rfl, rfl, rfl, trivial⟩, (Le.refl _), S⟩
    ·clear F S; rintro x2 a w x3 ⟨g3, F, l3, S⟩ hx1 hfin1
     have hm : sequence_Validate.l1 ops x1 x2 = some x3 := hx1; clear hx1
     unfold sequence_Validate.l1 at hm
     refine wp_seq ?_
     refine wp_region_lit ?_
     refine wE (ev_int rfl rfl (bo_lss _ _ _ _)) F S rfl fun a F=>?_
     refine wpList_nil ?_
     refine then_n ?_
     refine wp_seq ?_
     obtain ⟨hc2, hm⟩ | ⟨hc2, hm⟩ := ite_or hm
     ·refine wp_condT F rfl hc2 ?_
      refine wp_skip ?_
      refine then_n ?_
      refine wp_seq ?_
      refine wp_block ?_
      refine wp_seq ?_
      refine wp_region_lit ?_
      refine wE (ev_move rfl) F S rfl fun a F=>?_
      obtain ⟨y1, hy1, hm⟩ := bind_some hm
      obtain ⟨cs1, hr2, hp1⟩ := elemS (hops1.mono (l1.trans l3)) hy1
      obtain rfl := rep_SeqOp hr2
      refine wE (ev_idxS (hops1.mono (l1.trans l3)) hy1 tu28 ts30 rfl rfl) F S rfl fun a F=>?_
      refine wE (ev_loadA tu30 rfl (cs := [.bool y1.Delete, .i6 y1.Replica, .i6 y1.Counter, .i6 y1.AfterReplica, .i6 y1.AfterCounter, .string y1.Line]) ts30 rfl (ptr_mono (cks := [c3, [bx b1 #[.i6 0, .i6 0] 25]]) (fr := fr) hp1 (Le.refl _))) F S rfl fun a F=>?_
      refine wl_alloc (wn rfl) rfl tz30 (cs := [.bool false, .i6 0, .i6 0, .i6 0, .i6 0, .string ByteArray.empty]) rfl F S rfl rfl ?_; clear F a S; rintro b2 a w F S
      refine wE (ev_assign rfl) F S rfl fun a F=>?_
      refine wl_storeC (wn rfl) rfl F S rfl rfl (vs := [.bool y1.Delete, .i6 y1.Replica, .i6 y1.Counter, .i6 y1.AfterReplica, .i6 y1.AfterCounter, .string y1.Line]) rfl ts30 (one_cons rfl (one_cons rfl (one_cons rfl (one_cons rfl (one_cons rfl (one_cons rfl one_nil)))))) (k := 0) rfl (lb rfl) (c' := #[.bool y1.Delete, .i6 y1.Replica, .i6 y1.Counter, .i6 y1.AfterReplica, .i6 y1.AfterCounter, .string y1.Line]) rfl rfl ?_; clear S; intro w S
      refine wpList_nil ?_
      refine then_n ?_
      refine wp_seq ?_
      refine wp_region_lit ?_
      refine wE (ev_loadA tu30 rfl (cs := [.bool y1.Delete, .i6 y1.Replica, .i6 y1.Counter, .i6 y1.AfterReplica, .i6 y1.AfterCounter, .string y1.Line]) ts30 rfl (box_ptr (cells := [.bool y1.Delete, .i6 y1.Replica, .i6 y1.Counter, .i6 y1.AfterReplica, .i6 y1.AfterCounter, .string y1.Line]) 0 rfl 0 rfl (lb rfl))) F S rfl fun a F=>?_
      obtain ⟨y2, hy2, hm⟩ := bind_some hm
      refine wl_call0 (wn rfl) rfl F rfl (sequence_own_ok (fr := (fl [[bx b2 #[.bool y1.Delete, .i6 y1.Replica, .i6 y1.Counter, .i6 y1.AfterReplica, .i6 y1.AfterCounter, .string y1.Line] 30], c3, [bx b1 #[.i6 0, .i6 0] 25]] fr)) y1 S hy2) rfl tc15 rfl rfl ?_; clear F a S
      rintro _ a w ⟨g4, l4, S, rfl⟩ F; replace S : St g4 [[bx b2 #[.bool y1.Delete, .i6 y1.Replica, .i6 y1.Counter, .i6 y1.AfterReplica, .i6 y1.AfterCounter, .string y1.Line] 30], c3, [bx b1 #[.i6 0, .i6 0] 25]] fr w := S
      refine wl_alloc (wn rfl) rfl tz60 (cs := [.i6 0, .i6 0]) rfl F S rfl rfl ?_; clear F a S; rintro b3 a w F S
      refine wl_storeC (wn rfl) rfl F S rfl rfl (vs := [.i6 y2.counter, .i6 y2.replica]) rfl ts60 (one_cons rfl (one_cons rfl one_nil)) (k := 0) rfl (lb rfl) (c' := #[.i6 y2.counter, .i6 y2.replica]) rfl rfl ?_; clear S; intro w S
      refine wpList_nil ?_
      refine then_n ?_
      refine wp_cut (fun a w => ∃ (x4 : Int) (x5 : Int) (g5 : Gh), Fr 73 a [(11, bp b3 0), (9, .i6 x2), (48, .i6 x2), (47, .i6 (ops.length : Int)), (46, vops1), (3, v1), (2, bp b1 0)] ∧ Le g4 g5 ∧ St g5 [[bx b3 #[.i6 x4, .i6 x5] 60], c3, [bx b1 #[.i6 0, .i6 0] 25]] fr w ∧ sequence_Validate.j3 x1 x2 x4 x5 = some x3) ?_ ?_
      ·refine wp_seq ?_
       refine wp_region_lit ?_
       refine wE (ev_fieldAddr' tu30 tf30_0 (z := 0) ts4 rfl ⟨_, rfl⟩ rfl) F S rfl fun a F=>?_
       refine wE (ev_load1 tu4 rfl rfl (box_ptr (cells := [.bool y1.Delete]) 1 rfl 0 rfl (lb rfl))) F S rfl fun a F=>?_
       refine wE (ev_not rfl) F S rfl fun a F=>?_
       refine wpList_nil ?_
       refine then_n ?_
       obtain ⟨hc5, hm⟩ | ⟨hc5, hm⟩ := ite_or hm
       ·refine wp_condT F rfl hc5 ?_
        refine wp_region_lit ?_
        refine wE (ev_loadA tu30 rfl (cs := [.bool y1.Delete, .i6 y1.Replica, .i6 y1.Counter, .i6 y1.AfterReplica, .i6 y1.AfterCounter, .string y1.Line]) ts30 rfl (box_ptr (cells := [.bool y1.Delete, .i6 y1.Replica, .i6 y1.Counter, .i6 y1.AfterReplica, .i6 y1.AfterCounter, .string y1.Line]) 1 rfl 0 rfl (lb rfl))) F S rfl fun a F=>?_
        obtain ⟨y3, hy3, hm⟩ := bind_some hm
        refine wl_call0 (wn rfl) rfl F rfl (sequence_after_ok (fr := (fl [[bx b3 #[.i6 y2.counter, .i6 y2.replica] 60], [bx b2 #[.bool y1.Delete, .i6 y1.Replica, .i6 y1.Counter, .i6 y1.AfterReplica, .i6 y1.AfterCounter, .string y1.Line] 30], c3, [bx b1 #[.i6 0, .i6 0] 25]] fr)) y1 S hy3) rfl tc16 rfl rfl ?_; clear F a S
        rintro _ a w ⟨g6, l6, S, rfl⟩ F; replace S : St g6 [[bx b3 #[.i6 y2.counter, .i6 y2.replica] 60], [bx b2 #[.bool y1.Delete, .i6 y1.Replica, .i6 y1.Counter, .i6 y1.AfterReplica, .i6 y1.AfterCounter, .string y1.Line] 30], c3, [bx b1 #[.i6 0, .i6 0] 25]] fr w := S
        refine wl_storeC (wn rfl) rfl F S rfl rfl (vs := [.i6 y3.counter, .i6 y3.replica]) rfl ts60 (one_cons rfl (one_cons rfl one_nil)) (k := 0) rfl (lb rfl) (c' := #[.i6 y3.counter, .i6 y3.replica]) rfl rfl ?_; clear S; intro w S
        refine wpList_nil ?_
        refine then_n ?_
        replace S : St g6 [[bx b3 #[.i6 y3.counter, .i6 y3.replica] 60], c3, [bx b1 #[.i6 0, .i6 0] 25]] fr w := St.tail [[bx b3 #[.i6 y3.counter, .i6 y3.replica] 60], c3, [bx b1 #[.i6 0, .i6 0] 25]] _ (((S.frontC 3 rfl).frontC 3 rfl).frontC 2 rfl)
        exact ⟨y3.counter, y3.replica, g6, F.sub ⟨rfl, rfl, rfl, rfl, rfl, rfl, rfl, trivial⟩, l6, S, hm⟩
       ·refine wp_condF F rfl hc5 ?_
        refine wp_skip ?_
        refine then_n ?_
        replace S : St g4 [[bx b3 #[.i6 y2.counter, .i6 y2.replica] 60], c3, [bx b1 #[.i6 0, .i6 0] 25]] fr w := St.tail [[bx b3 #[.i6 y2.counter, .i6 y2.replica] 60], c3, [bx b1 #[.i6 0, .i6 0] 25]] _ (((S.frontC 3 rfl).frontC 3 rfl).frontC 2 rfl)
        exact ⟨y2.counter, y2.replica, g4, F.sub ⟨rfl, rfl, rfl, rfl, rfl, rfl, rfl, trivial⟩, (Le.refl _), S, hm⟩
      ·clear F S hm; rintro a w ⟨x4, x5, g5, F, l5, S, hm⟩
       refine wp_seq ?_
       refine wp_region_lit ?_
       refine wE (ev_loadA tu60 rfl (cs := [.i6 x4, .i6 x5]) ts60 rfl (box_ptr (cells := [.i6 x4, .i6 x5]) 0 rfl 0 rfl (lb rfl))) F S rfl fun a F=>?_
       refine wE (ev_build (parts := []) (vs := []) rfl (fun w => tb60_  w)) F S rfl fun a F=>?_
       refine wE (ev_neS tu60 tqa60 tqb60 tqc60 (xs := [.i6 x4, .i6 x5]) (ys := [.i6 0, .i6 0]) rfl rfl ⟨_, _, rfl, by decide, ⟨_, _, rfl, rfl, leaf_int tu3⟩, ⟨_, _, rfl, by decide, ⟨_, _, rfl, rfl, leaf_int tu3⟩, rfl⟩⟩) F S rfl fun a F=>?_
       refine wE (ev_move rfl) F S rfl fun a F=>?_
       obtain ⟨x6, hx2, hm⟩ := bind_some hm
       refine wl_cut 5 (fun a w' => w = w' ∧ Fr 73 a [(68, .bool x6), (9, .i6 x2), (48, .i6 x2), (47, .i6 (ops.length : Int)), (46, vops1), (3, v1), (2, bp b1 0)]) ?_ ?_
       ·clear hm; obtain ⟨hc3, hm⟩ | ⟨hc3, hm⟩ := ite_or hx2
        ·refine wl_ev (wg F rfl rfl rfl rfl hc3) (ev_move rfl) F S rfl rfl ?_; clear F a; intro a F
         refine wl_ev (wg F rfl rfl rfl rfl hc3) (ev_loadA tu60 rfl (cs := [.i6 x4, .i6 x5]) ts60 rfl (box_ptr (cells := [.i6 x4, .i6 x5]) 0 rfl 0 rfl (lb rfl))) F S rfl rfl ?_; clear F a; intro a F
         refine wl_ev (wg F rfl rfl rfl rfl hc3) (ev_lookB (h3.mono ((l3.trans l4).trans l5)) tk60 tu57 tz4 rfl (k := (x4, x5)) rfl 1 rfl) F S rfl rfl ?_; clear F a; intro a F
         refine wl_ev (wg F rfl rfl rfl rfl hc3) (ev_not rfl) F S rfl rfl ?_; clear F a; intro a F
         refine wE (ev_pickT rfl hc3 rfl) F S rfl fun a F=>?_
         obtain rfl := sinj hm
         refine wpList_nil (then_n ?_); exact ⟨rfl, F.sub ⟨rfl, rfl, rfl, rfl, rfl, rfl, rfl, trivial⟩⟩
        ·refine wl_skip rfl rfl rfl rfl (ne_tf hc3) F rfl rfl ?_; clear F a; intro a F
         refine wl_skip rfl rfl rfl rfl (ne_tf hc3) F rfl rfl ?_; clear F a; intro a F
         refine wl_skip rfl rfl rfl rfl (ne_tf hc3) F rfl rfl ?_; clear F a; intro a F
         refine wl_skip rfl rfl rfl rfl (ne_tf hc3) F rfl rfl ?_; clear F a; intro a F
         refine wE (ev_pickF rfl hc3 rfl) F S rfl fun a F=>?_
         obtain rfl := sinj hm
         refine wpList_nil (then_n ?_); exact ⟨rfl, F.sub ⟨rfl, rfl, rfl, rfl, rfl, rfl, rfl, trivial⟩⟩
       clear F; rintro a w' ⟨rfl, F⟩
       refine wpList_nil ?_
       refine then_n ?_
       obtain ⟨hc4, hm⟩ | ⟨hc4, hm⟩ := ite_or hm
       ·refine wp_condT F rfl hc4 ?_
        refine wp_seq ?_
        refine wp_region_lit ?_
        refine wE (ev_move rfl) F S rfl fun a F=>?_
        refine wE (ev_build (parts := [(0, .const (.i6 6)), (1, .tmp 69)]) (vs := [(0, .i6 6), (1, .i6 x2)]) rfl (fun w => tb25_0_1 6 x2 w)) F S rfl fun a F=>?_
        refine wl_storeC (wn rfl) rfl F S rfl rfl (vs := [.i6 6, .i6 x2]) rfl ts25 (one_cons rfl (one_cons rfl one_nil)) (k := 2) rfl (lb rfl) (c' := #[.i6 6, .i6 x2]) rfl rfl ?_; clear S; intro w S
        refine wpList_nil ?_
        refine then_n ?_
        refine wp_ret ?_
        refine inb_r ?_
        refine then_r ?_
        refine then_r ?_
        refine inb_r ?_
        refine then_r ?_
        obtain rfl := sinj hm
        obtain rfl := hfin1 _ rfl
        clear hm
        have hm : (some ({ Code := 6, Index := x2 } : Fault) : Option Fault) = some _ := hmo1
        obtain rfl := sinj hm
        refine post_r _ F rfl (ar_cons (resA rfl tu25 rfl (box_ptr (cells := [.i6 6, .i6 x2]) 2 rfl 0 rfl (lb rfl) w S) ts25) ar_nil) ?_
        replace S : St g5 [] fr w := St.tail [] _ S
        exact ⟨_, rfl, g5, (((l1.trans l3).trans l4).trans l5), S, rfl⟩
       ·refine wp_condF F rfl hc4 ?_
        refine wp_skip ?_
        refine inb_n ?_
        refine then_n ?_
        refine wp_region_lit ?_
        obtain ⟨z1, hz1, hm⟩ := bind_some hm
        refine wE (ev_int rfl rfl (bo_add hz1)) F S rfl fun a F=>?_
        refine wE (ev_move rfl) F S rfl fun a F=>?_
        refine wpList_nil ?_
        refine then_n ?_
        obtain rfl := sinj hm
        refine ⟨_, rfl, ?_⟩
        replace S : St g5 [c3, [bx b1 #[.i6 0, .i6 0] 25]] fr w := St.tail [c3, [bx b1 #[.i6 0, .i6 0] 25]] _ ((S.frontC 2 rfl).frontC 2 rfl)
        exact ⟨g5, F.sub ⟨rfl, rfl, rfl, rfl, rfl, trivial⟩, ((l3.trans l4).trans l5), S⟩
     ·refine wp_condF F rfl hc2 ?_
      refine wp_exit ?_
      refine then_e ?_
      refine then_e ?_
      refine inb_x ?_
      refine then_n ?_
      obtain rfl := sinj hm
      obtain rfl := hfin1 _ rfl
      clear hm
      have hm : (sequence_Validate.j2 : Option Fault) = some _ := hmo1
      replace S : St g3 [[bx b1 #[.i6 0, .i6 0] 25]] fr w := St.tail [[bx b1 #[.i6 0, .i6 0] 25]] _ (S.frontC 1 rfl)
      exact ⟨g3, F.sub ⟨rfl, trivial⟩, l3, S, hm⟩
   ·clear F S hm; rintro a w ⟨g2, F, l2, S, hm⟩
    refine wp_seq ?_
    refine wp_region_lit ?_
    refine wE (ev_build (parts := []) (vs := []) rfl (fun w => tb25_  w)) F S rfl fun a F=>?_
    refine wl_storeC (wn rfl) rfl F S rfl rfl (vs := [.i6 0, .i6 0]) rfl ts25 (one_cons rfl (one_cons rfl one_nil)) (k := 0) rfl (lb rfl) (c' := #[.i6 0, .i6 0]) rfl rfl ?_; clear S; intro w S
    refine wpList_nil ?_
    refine then_n ?_
    refine wp_ret ?_
    obtain rfl := sinj hm
    refine post_r _ F rfl (ar_cons (resA rfl tu25 rfl (box_ptr (cells := [.i6 0, .i6 0]) 0 rfl 0 rfl (lb rfl) w S) ts25) ar_nil) ?_
    replace S : St g2 [] fr w := St.tail [] _ S
    exact ⟨_, rfl, g2, (l1.trans l2), S, rfl⟩

theorem sequence_Visible_s1_s1_ok {g : Gh} {fr : Hl} {w : World} {r : Int} (a_ : SeqOp) (b_ : SeqOp) (S : St g [] fr w) (hm : sequence_Visible_s1_s1 a_ b_ = some r) :
  Calls Tryd.prog 19 [.agg #[.bool a_.Delete, .i6 a_.Replica, .i6 a_.Counter, .i6 a_.AfterReplica, .i6 a_.AfterCounter, .string a_.Line], .agg #[.bool b_.Delete, .i6 b_.Replica, .i6 b_.Counter, .i6 b_.AfterReplica, .i6 b_.AfterCounter, .string b_.Line]].toArray w (fun en w' => ∃ v, en = .returned v ∧ ∃ (g' : Gh), Le g g' ∧ St g' [] fr w' ∧ .i6 r = v) := by
 unfold sequence_Visible_s1_s1 at hm
 refine calls_enter (fn := Tryd.f19) Tryd.func19 rfl Tryd.ntmps19 (lb rfl) ?_
 intro a F
 replace F : Fr 10 a [(0, .agg #[.bool a_.Delete, .i6 a_.Replica, .i6 a_.Counter, .i6 a_.AfterReplica, .i6 a_.AfterCounter, .string a_.Line]), (1, .agg #[.bool b_.Delete, .i6 b_.Replica, .i6 b_.Counter, .i6 b_.AfterReplica, .i6 b_.AfterCounter, .string b_.Line])] := F
 refine wp_seq ?_
 refine wp_region_lit ?_
 refine wl_boxC (wn rfl) rfl rfl rfl F S rfl rfl ?_; clear F a S; rintro b1 a w F S
 refine wl_boxC (wn rfl) rfl rfl rfl F S rfl rfl ?_; clear F a S; rintro b2 a w F S
 refine wE (ev_assign rfl) F S rfl fun a F=>?_
 refine wpList_nil ?_
 refine then_n ?_
 refine wp_seq ?_
 refine wp_quiet mo (by kernel_rfl) S ?_
 refine wq_ev (wn rfl) (ev_loadA tu30 rfl (cs := [.bool b_.Delete, .i6 b_.Replica, .i6 b_.Counter, .i6 b_.AfterReplica, .i6 b_.AfterCounter, .string b_.Line]) ts30 rfl (box_ptr (cells := [.bool b_.Delete, .i6 b_.Replica, .i6 b_.Counter, .i6 b_.AfterReplica, .i6 b_.AfterCounter, .string b_.Line]) 0 rfl 0 rfl (lb rfl))) F rfl rfl ?_; clear F a; intro a F
 obtain ⟨y1, hy1, hm⟩ := bind_some hm
 refine wq_call (wn rfl) rfl (xs := [.tmp 5]) (vs := [.agg #[.bool b_.Delete, .i6 b_.Replica, .i6 b_.Counter, .i6 b_.AfterReplica, .i6 b_.AfterCounter, .string b_.Line]]) (cap := []) F rfl rfl tc15 (v := .agg #[.i6 y1.counter, .i6 y1.replica]) (fun w S => (sequence_own_ok (g := g) (fr := (fl [[bx b2 #[.bool b_.Delete, .i6 b_.Replica, .i6 b_.Counter, .i6 b_.AfterReplica, .i6 b_.AfterCounter, .string b_.Line] 30], [bx b1 #[.bool a_.Delete, .i6 a_.Replica, .i6 a_.Counter, .i6 a_.AfterReplica, .i6 a_.AfterCounter, .string a_.Line] 30]] fr)) (w := w) b_ S hy1).mono (by rintro en w' ⟨_, rfl, g2, l2, S2, rfl⟩; exact ⟨rfl, S2.weak l2⟩)) rfl rfl ?_; clear F a; intro a F
 refine wq_ev (wn rfl) (ev_loadA tu30 rfl (cs := [.bool a_.Delete, .i6 a_.Replica, .i6 a_.Counter, .i6 a_.AfterReplica, .i6 a_.AfterCounter, .string a_.Line]) ts30 rfl (box_ptr (cells := [.bool a_.Delete, .i6 a_.Replica, .i6 a_.Counter, .i6 a_.AfterReplica, .i6 a_.AfterCounter, .string a_.Line]) 1 rfl 0 rfl (lb rfl))) F rfl rfl ?_; clear F a; intro a F
 obtain ⟨y2, hy2, hm⟩ := bind_some hm
 refine wq_call (wn rfl) rfl (xs := [.tmp 7]) (vs := [.agg #[.bool a_.Delete, .i6 a_.Replica, .i6 a_.Counter, .i6 a_.AfterReplica, .i6 a_.AfterCounter, .string a_.Line]]) (cap := []) F rfl rfl tc15 (v := .agg #[.i6 y2.counter, .i6 y2.replica]) (fun w S => (sequence_own_ok (g := g) (fr := (fl [[bx b2 #[.bool b_.Delete, .i6 b_.Replica, .i6 b_.Counter, .i6 b_.AfterReplica, .i6 b_.AfterCounter, .string b_.Line] 30], [bx b1 #[.bool a_.Delete, .i6 a_.Replica, .i6 a_.Counter, .i6 a_.AfterReplica, .i6 a_.AfterCounter, .string a_.Line] 30]] fr)) (w := w) a_ S hy2).mono (by rintro en w' ⟨_, rfl, g2, l2, S2, rfl⟩; exact ⟨rfl, S2.weak l2⟩)) rfl rfl ?_; clear F a; intro a F
 obtain ⟨y3, hy3, hm⟩ := bind_some hm
 refine wq_call (wn rfl) rfl (xs := [.tmp 6, .tmp 8]) (vs := [.agg #[.i6 y1.counter, .i6 y1.replica], .agg #[.i6 y2.counter, .i6 y2.replica]]) (cap := []) F rfl rfl tc20 (v := .i6 y3) (fun w S => (sequence_compare_ok (g := g) (fr := (fl [[bx b2 #[.bool b_.Delete, .i6 b_.Replica, .i6 b_.Counter, .i6 b_.AfterReplica, .i6 b_.AfterCounter, .string b_.Line] 30], [bx b1 #[.bool a_.Delete, .i6 a_.Replica, .i6 a_.Counter, .i6 a_.AfterReplica, .i6 a_.AfterCounter, .string a_.Line] 30]] fr)) (w := w) y1 y2 S hy3).mono (by rintro en w' ⟨_, rfl, g2, l2, S2, rfl⟩; exact ⟨rfl, S2.weak l2⟩)) rfl rfl ?_; clear F a; intro a F
 refine wq_ev (wn rfl) (ev_assign rfl) F rfl rfl ?_; clear F a; intro a F
 refine wq_nil ?_; clear S; intro w S
 refine then_n ?_
 refine wp_ret ?_
 obtain rfl := sinj hm
 refine post_r _ F rfl (ar_cons (resT rfl) ar_nil) ?_
 replace S : St g [] fr w := St.tail [] _ S
 exact ⟨_, rfl, g, (Le.refl _), S, rfl⟩

theorem sequence_Visible_s1.body_ok {rec_ : Element_sequence → (List (K2 × Option (List SeqOp))) → (List (K2 × Bool)) → (List ByteArray) → Option ((List (K2 × Option (List SeqOp))) × (List ByteArray))} (hrec : ∀ {g : Gh} {fr : Hl} {w : World} {r : (List (K2 × Option (List SeqOp))) × (List ByteArray)} (e_ : Element_sequence) (bu1 : Nat) (u1 : (List (K2 × Option (List SeqOp)))) (vu11 : Value) (cu11 : Hl) (hu11 : OwnR g u1 vu11 cu11) (bu2 : Nat) (u2 : (List (K2 × Bool))) (vu21 : Value) (cu21 : Hl) (hu21 : OwnB g u2 vu21 cu21) (bu3 : Nat) (u3 : (List ByteArray)) (vu31 : Value) (cu31 : Hl) (hu31 : OwnS g u3 vu31 cu31) (bu4 : Nat) (S : St g [[bx bu1 #[vu11] 58], cu11, [bx bu2 #[vu21] 57], cu21, [bx bu3 #[vu31] 22], cu31, [(bu4, .cells #[.func (.func 17) #[] #[bp bu1 0, bp bu2 0, bp bu3 0, bp bu4 0]] 62 (0, 0))]] fr w) (hm : rec_ e_ u1 u2 u3 = some r), Calls Tryd.prog 17 [.agg #[.i6 e_.counter, .i6 e_.replica], bp bu1 0, bp bu2 0, bp bu3 0, bp bu4 0].toArray w (fun en w' => ∃ v, en = .returned v ∧ ∃ (g' : Gh) (v1 : Value) (c1 c2 : Hl), Le g g' ∧ St g' [[bx bu1 #[vu11] 58], c1, [bx bu2 #[vu21] 57], cu21, [bx bu3 #[v1] 22], c2, [(bu4, .cells #[.func (.func 17) #[] #[bp bu1 0, bp bu2 0, bp bu3 0, bp bu4 0]] 62 (0, 0))]] fr w' ∧ OwnR g' r.1 vu11 c1 ∧ OwnS g' r.2 v1 c2 ∧ .tuple #[] = v)) {g : Gh} {fr : Hl} {w : World} {r : (List (K2 × Option (List SeqOp))) × (List ByteArray)} (e_ : Element_sequence) (bu1 : Nat) (u1 : (List (K2 × Option (List SeqOp)))) (vu11 : Value) (cu11 : Hl) (hu11 : OwnR g u1 vu11 cu11) (bu2 : Nat) (u2 : (List (K2 × Bool))) (vu21 : Value) (cu21 : Hl) (hu21 : OwnB g u2 vu21 cu21) (bu3 : Nat) (u3 : (List ByteArray)) (vu31 : Value) (cu31 : Hl) (hu31 : OwnS g u3 vu31 cu31) (bu4 : Nat) (S : St g [[bx bu1 #[vu11] 58], cu11, [bx bu2 #[vu21] 57], cu21, [bx bu3 #[vu31] 22], cu31, [(bu4, .cells #[.func (.func 17) #[] #[bp bu1 0, bp bu2 0, bp bu3 0, bp bu4 0]] 62 (0, 0))]] fr w) (hm : sequence_Visible_s1.body rec_ e_ u1 u2 u3 = some r) :
  Calls Tryd.prog 17 [.agg #[.i6 e_.counter, .i6 e_.replica], bp bu1 0, bp bu2 0, bp bu3 0, bp bu4 0].toArray w (fun en w' => ∃ v, en = .returned v ∧ ∃ (g' : Gh) (v1 : Value) (c1 c2 : Hl), Le g g' ∧ St g' [[bx bu1 #[vu11] 58], c1, [bx bu2 #[vu21] 57], cu21, [bx bu3 #[v1] 22], c2, [(bu4, .cells #[.func (.func 17) #[] #[bp bu1 0, bp bu2 0, bp bu3 0, bp bu4 0]] 62 (0, 0))]] fr w' ∧ OwnR g' r.1 vu11 c1 ∧ OwnS g' r.2 v1 c2 ∧ .tuple #[] = v) := by
 unfold sequence_Visible_s1.body at hm
 refine calls_enter (fn := Tryd.f17) Tryd.func17 rfl Tryd.ntmps17 (lb rfl) ?_
 intro a F
 replace F : Fr 35 a [(0, .agg #[.i6 e_.counter, .i6 e_.replica]), (1, bp bu1 0), (2, bp bu2 0), (3, bp bu3 0), (4, bp bu4 0)] := F
 refine wp_seq ?_
 refine wp_region_lit ?_
 refine wl_boxC (wn rfl) rfl rfl rfl F S rfl rfl ?_; clear F a S; rintro b1 a w F S
 refine wpList_nil ?_
 refine then_n ?_
 refine wp_seq ?_
 refine wp_region_lit ?_
 refine wE (ev_load1 tu58 rfl rfl (box_ptr (cells := [vu11]) 1 rfl 0 rfl (lb rfl))) F S rfl fun a F=>?_
 refine wE (ev_loadA tu60 rfl (cs := [.i6 e_.counter, .i6 e_.replica]) ts60 rfl (box_ptr (cells := [.i6 e_.counter, .i6 e_.replica]) 0 rfl 0 rfl (lb rfl))) F S rfl fun a F=>?_
 obtain ⟨y1, hy1, hm⟩ := bind_some hm
 replace S : St g [cu11, [bx b1 #[.i6 e_.counter, .i6 e_.replica] 60], [bx bu1 #[vu11] 58], [bx bu2 #[vu21] 57], cu21, [bx bu3 #[vu31] 22], cu31, [(bu4, .cells #[.func (.func 17) #[] #[bp bu1 0, bp bu2 0, bp bu3 0, bp bu4 0]] 62 (0, 0))]] fr w := ((((((((S.frontC 7 rfl).frontC 7 rfl).frontC 7 rfl).frontC 7 rfl).frontC 7 rfl).frontC 6 rfl).frontC 6 rfl).frontC 9 rfl)
 obtain ⟨v1, c1, c2, h1, h2, hL1, hP1⟩ := OwnR.look hu11 hy1
 replace S : St g [c1, c2, [bx b1 #[.i6 e_.counter, .i6 e_.replica] 60], [bx bu1 #[vu11] 58], [bx bu2 #[vu21] 57], cu21, [bx bu3 #[vu31] 22], cu31, [(bu4, .cells #[.func (.func 17) #[] #[bp bu1 0, bp bu2 0, bp bu3 0, bp bu4 0]] 62 (0, 0))]] fr w := St.splitM hP1 S
 refine wE (ev_lookR hL1 tk60 tu58 tz28 rfl (k := (e_.counter, e_.replica)) rfl 1 rfl) F S rfl fun a F=>?_
 refine wE (ev_assign rfl) F S rfl fun a F=>?_
 refine wpList_nil ?_
 refine then_n ?_
 refine wp_seq ?_
 refine wp_region_lit ?_
 refine wE (ev_move rfl) F S rfl fun a F=>?_
 obtain ⟨y2, hy2, hm⟩ := bind_some hm
 refine wl_call0 (wn rfl) rfl F rfl (sort_ok (δ := SeqOp) Tryd.lay18 sA30 sZ30 tc19 (fun g w x y cx cy r hx hy S hm => by obtain rfl := rep_SeqOp hx; obtain rfl := rep_SeqOp hy; exact sequence_Visible_s1_s1_ok x y S hm) S h1 hy2) rfl tc18 rfl rfl ?_; clear F a S
 rintro _ a w ⟨c3, S, h3, rfl⟩ F; replace S : St g [c3, c2, [bx b1 #[.i6 e_.counter, .i6 e_.replica] 60], [bx bu1 #[vu11] 58], [bx bu2 #[vu21] 57], cu21, [bx bu3 #[vu31] 22], cu31, [(bu4, .cells #[.func (.func 17) #[] #[bp bu1 0, bp bu2 0, bp bu3 0, bp bu4 0]] 62 (0, 0))]] fr w := S
 refine wpList_nil ?_
 refine then_n ?_
 refine wp_seq ?_
 refine wp_region_lit ?_
 refine wE (ev_move rfl) F S rfl fun a F=>?_
 refine wE (ev_lenOw h3 rfl tu28) F S rfl fun a F=>?_
 refine wE (ev_move rfl) F S rfl fun a F=>?_
 refine wpList_nil ?_
 refine then_n ?_
 refine wp_cut1 (fun a w => ∃ (x1 : List (K2 × Option (List SeqOp))) (x2 : List ByteArray) (v3 : Value) (c4 c5 : Hl) (g1 : Gh), Fr 35 a [(1, bp bu1 0), (2, bp bu2 0), (3, bp bu3 0), (4, bp bu4 0)] ∧ Le g g1 ∧ St g1 [[bx bu1 #[vu11] 58], [bx bu2 #[vu21] 57], [bx bu3 #[v3] 22], [(bu4, .cells #[.func (.func 17) #[] #[bp bu1 0, bp bu2 0, bp bu3 0, bp bu4 0]] 62 (0, 0))], c4, cu21, c5] fr w ∧ OwnR g1 x1 vu11 c4 ∧ OwnS g1 x2 v3 c5 ∧ sequence_Visible_s1.j1 x1 x2 = some r) ?_ ?_
 ·refine wp_block ?_
  obtain ⟨r1, hr1, hm⟩ := bind_some hm
  have hmo1 := hm; clear hm
  refine wp_iter (σ := Int × (List (K2 × Option (List SeqOp))) × (List ByteArray)) (ρ := (List (K2 × Option (List SeqOp))) × (List ByteArray)) (m := fun s => sequence_Visible_s1.l1 u2 rec_ y2 s.1 s.2.1 s.2.2) (I := fun s a w => match s with | (x3, x4, x5) => ∃ (v5 : Value) (c6 c7 : Hl) (g2 : Gh), Fr 35 a [(16, .i6 x3), (15, .i6 (y2.length : Int)), (14, v1), (1, bp bu1 0), (2, bp bu2 0), (3, bp bu3 0), (4, bp bu4 0)] ∧ Le g g2 ∧ St g2 [c3, [bx bu1 #[vu11] 58], [bx bu2 #[vu21] 57], [bx bu3 #[v5] 22], [(bu4, .cells #[.func (.func 17) #[] #[bp bu1 0, bp bu2 0, bp bu3 0, bp bu4 0]] 62 (0, 0))], c6, cu21, c7] fr w ∧ OwnR g2 x4 vu11 c6 ∧ OwnS g2 x5 v5 c7) hr1 ?_ ?_
  ·dsimp only
   replace S : St g [c3, [bx bu1 #[vu11] 58], [bx bu2 #[vu21] 57], [bx bu3 #[vu31] 22], [(bu4, .cells #[.func (.func 17) #[] #[bp bu1 0, bp bu2 0, bp bu3 0, bp bu4 0]] 62 (0, 0))], c2, cu21, cu31] fr w := St.tail [c3, [bx bu1 #[vu11] 58], [bx bu2 #[vu21] 57], [bx bu3 #[vu31] 22], [(bu4, .cells #[.func (.func 17) #[] #[bp bu1 0, bp bu2 0, bp bu3 0, bp bu4 0]] 62 (0, 0))], c2, cu21, cu31] _ ((((((((S.frontC 7 rfl).frontC 6 rfl).frontC 3 rfl).frontC 11 rfl).frontC 10 rfl).frontC 9 rfl).frontC 9 rfl).frontC 7 rfl)
   exact ⟨vu31, c2, cu31, g, F.sub ⟨rfl, rfl, rfl, rfl, rfl, rfl, rfl, trivial⟩, (Le.refl _), S, h2, hu31⟩
  ·clear F S; rintro ⟨x3, x4, x5⟩ a w x6 ⟨v5, c6, c7, g2, F, l2, S, h6, h7⟩ hx1 hfin1
   have hm : sequence_Visible_s1.l1 u2 rec_ y2 x3 x4 x5 = some x6 := hx1; clear hx1
   unfold sequence_Visible_s1.l1 at hm
   refine wp_seq ?_
   refine wp_region_lit ?_
   refine wE (ev_int rfl rfl (bo_lss _ _ _ _)) F S rfl fun a F=>?_
   refine wpList_nil ?_
   refine then_n ?_
   refine wp_seq ?_
   obtain ⟨hc1, hm⟩ | ⟨hc1, hm⟩ := ite_or hm
   ·refine wp_condT F rfl hc1 ?_
    refine wp_skip ?_
    refine then_n ?_
    refine wp_seq ?_
    refine wp_block ?_
    refine wp_seq ?_
    refine wp_region_lit ?_
    obtain ⟨y3, hy3, hm⟩ := bind_some hm
    refine wE (ev_idxO (h3.mono l2) hy3 tu28 ts30 rfl rfl) F S rfl fun a F=>?_
    obtain ⟨cs1, hr2, hq1⟩ := elemO (h3.mono l2) hy3
    obtain rfl := rep_SeqOp hr2
    refine wE (ev_loadA tu30 rfl (cs := [.bool y3.Delete, .i6 y3.Replica, .i6 y3.Counter, .i6 y3.AfterReplica, .i6 y3.AfterCounter, .string y3.Line]) ts30 rfl (hq1 _ _ 0 rfl)) F S rfl fun a F=>?_
    refine wl_alloc (wn rfl) rfl tz30 (cs := [.bool false, .i6 0, .i6 0, .i6 0, .i6 0, .string ByteArray.empty]) rfl F S rfl rfl ?_; clear F a S; rintro b2 a w F S
    refine wl_storeC (wn rfl) rfl F S rfl rfl (vs := [.bool y3.Delete, .i6 y3.Replica, .i6 y3.Counter, .i6 y3.AfterReplica, .i6 y3.AfterCounter, .string y3.Line]) rfl ts30 (one_cons rfl (one_cons rfl (one_cons rfl (one_cons rfl (one_cons rfl (one_cons rfl one_nil)))))) (k := 0) rfl (lb rfl) (c' := #[.bool y3.Delete, .i6 y3.Replica, .i6 y3.Counter, .i6 y3.AfterReplica, .i6 y3.AfterCounter, .string y3.Line]) rfl rfl ?_; clear S; intro w S
    refine wpList_nil ?_
    refine then_n ?_
    refine wp_cut (fun a w => ∃ (x7 : List ByteArray) (v6 : Value) (c8 : Hl) (g3 : Gh), Fr 35 a [(8, bp b2 0), (16, .i6 x3), (15, .i6 (y2.length : Int)), (14, v1), (1, bp bu1 0), (2, bp bu2 0), (3, bp bu3 0), (4, bp bu4 0)] ∧ Le g2 g3 ∧ St g3 [[bx b2 #[.bool y3.Delete, .i6 y3.Replica, .i6 y3.Counter, .i6 y3.AfterReplica, .i6 y3.AfterCounter, .string y3.Line] 30], c3, [bx bu1 #[vu11] 58], [bx bu2 #[vu21] 57], [bx bu3 #[v6] 22], [(bu4, .cells #[.func (.func 17) #[] #[bp bu1 0, bp bu2 0, bp bu3 0, bp bu4 0]] 62 (0, 0))], c6, cu21, c8] fr w ∧ OwnS g3 x7 v6 c8 ∧ sequence_Visible_s1.j2 u2 rec_ x3 x4 y3 x7 = some x6) ?_ ?_
    ·refine wp_seq ?_
     refine wp_quiet mo (by kernel_rfl) S ?_
     refine wq_ev (wn rfl) (ev_load1 tu57 rfl rfl (box_ptr (cells := [vu21]) 3 rfl 0 rfl (lb rfl))) F rfl rfl ?_; clear F a; intro a F
     refine wq_ev (wn rfl) (ev_loadA tu30 rfl (cs := [.bool y3.Delete, .i6 y3.Replica, .i6 y3.Counter, .i6 y3.AfterReplica, .i6 y3.AfterCounter, .string y3.Line]) ts30 rfl (box_ptr (cells := [.bool y3.Delete, .i6 y3.Replica, .i6 y3.Counter, .i6 y3.AfterReplica, .i6 y3.AfterCounter, .string y3.Line]) 0 rfl 0 rfl (lb rfl))) F rfl rfl ?_; clear F a; intro a F
     obtain ⟨y6, hy6, hm⟩ := bind_some hm
     refine wq_call (wn rfl) rfl (xs := [.tmp 21]) (vs := [.agg #[.bool y3.Delete, .i6 y3.Replica, .i6 y3.Counter, .i6 y3.AfterReplica, .i6 y3.AfterCounter, .string y3.Line]]) (cap := []) F rfl rfl tc15 (v := .agg #[.i6 y6.counter, .i6 y6.replica]) (fun w S => (sequence_own_ok (g := g2) (fr := (fl [[bx b2 #[.bool y3.Delete, .i6 y3.Replica, .i6 y3.Counter, .i6 y3.AfterReplica, .i6 y3.AfterCounter, .string y3.Line] 30], c3, [bx bu1 #[vu11] 58], [bx bu2 #[vu21] 57], [bx bu3 #[v5] 22], [(bu4, .cells #[.func (.func 17) #[] #[bp bu1 0, bp bu2 0, bp bu3 0, bp bu4 0]] 62 (0, 0))], c6, cu21, c7] fr)) (w := w) y3 S hy6).mono (by rintro en w' ⟨_, rfl, g2, l2, S2, rfl⟩; exact ⟨rfl, S2.weak l2⟩)) rfl rfl ?_; clear F a; intro a F
     refine wq_ev (wn rfl) (ev_lookB (hu21.mono l2) tk60 tu57 tz4 rfl (k := (y6.counter, y6.replica)) rfl 7 rfl) F rfl rfl ?_; clear F a; intro a F
     refine wq_ev (wn rfl) (ev_not rfl) F rfl rfl ?_; clear F a; intro a F
     refine wq_nil ?_; clear S; intro w S
     refine then_n ?_
     obtain ⟨hc2, hm⟩ | ⟨hc2, hm⟩ := ite_or hm
     ·refine wp_condT F rfl hc2 ?_
      refine wp_region_lit ?_
      refine wE (ev_load1 tu22 rfl rfl (box_ptr (cells := [v5]) 4 rfl 0 rfl (lb rfl))) F S rfl fun a F=>?_
      refine wE (ev_fieldAddr' tu30 tf30_5 (z := 0) ts9 rfl ⟨_, rfl⟩ rfl) F S rfl fun a F=>?_
      refine wE (ev_load1 tu9 rfl rfl (box_ptr (cells := [.string y3.Line]) 0 rfl 5 rfl (lb rfl))) F S rfl fun a F=>?_
      refine wl_lit (l := ([y3.Line] : List ByteArray)) (vs := [.string y3.Line]) (parts := [(0, .tmp 27)]) (wn rfl) rfl rfl rfl tu22 te9 (sz_cons rfl sz_nil) rfl (Cat.cons (show Rep.rep _ y3.Line _ from rfl) (Cat.nil _)) (coa_cons rfl coa_nil) rfl F S rfl rfl ?_; clear F a S
      rintro v8 c11 a w h11 F S
      obtain ⟨cs2, hk1, hr3⟩ := OwnS.reads h11
      obtain ⟨y7, hy7, hm⟩ := bind_some hm
      refine wl_append (wn rfl) rfl tu22 tu22 te9 (by decide) (by decide) F S rfl rfl (k := 9) rfl h7 hk1 rfl (hr3 _ _ _ 0 rfl S) hy7 rfl rfl ?_; clear F a S
      rintro v9 c12 a w h12 S F; replace S : St g2 [c11, [bx b2 #[.bool y3.Delete, .i6 y3.Replica, .i6 y3.Counter, .i6 y3.AfterReplica, .i6 y3.AfterCounter, .string y3.Line] 30], c3, [bx bu1 #[vu11] 58], [bx bu2 #[vu21] 57], [bx bu3 #[v5] 22], [(bu4, .cells #[.func (.func 17) #[] #[bp bu1 0, bp bu2 0, bp bu3 0, bp bu4 0]] 62 (0, 0))], c6, cu21, c12] fr w := S
      refine wl_storeC (wn rfl) rfl F S rfl rfl (vs := [v9]) (OwnS.cl h12) ts22 (one_cons (OwnS.one h12) one_nil) (k := 5) rfl (lb rfl) (c' := #[v9]) rfl rfl ?_; clear S; intro w S
      refine wpList_nil ?_
      refine then_n ?_
      replace S : St g2 [[bx b2 #[.bool y3.Delete, .i6 y3.Replica, .i6 y3.Counter, .i6 y3.AfterReplica, .i6 y3.AfterCounter, .string y3.Line] 30], c3, [bx bu1 #[vu11] 58], [bx bu2 #[vu21] 57], [bx bu3 #[v9] 22], [(bu4, .cells #[.func (.func 17) #[] #[bp bu1 0, bp bu2 0, bp bu3 0, bp bu4 0]] 62 (0, 0))], c6, cu21, c12] fr w := St.tail [[bx b2 #[.bool y3.Delete, .i6 y3.Replica, .i6 y3.Counter, .i6 y3.AfterReplica, .i6 y3.AfterCounter, .string y3.Line] 30], c3, [bx bu1 #[vu11] 58], [bx bu2 #[vu21] 57], [bx bu3 #[v9] 22], [(bu4, .cells #[.func (.func 17) #[] #[bp bu1 0, bp bu2 0, bp bu3 0, bp bu4 0]] 62 (0, 0))], c6, cu21, c12] _ (((((((((S.frontC 9 rfl).frontC 9 rfl).frontC 9 rfl).frontC 9 rfl).frontC 9 rfl).frontC 9 rfl).frontC 9 rfl).frontC 9 rfl).frontC 9 rfl)
      exact ⟨y7, v9, c12, g2, F.sub ⟨rfl, rfl, rfl, rfl, rfl, rfl, rfl, rfl, trivial⟩, (Le.refl _), S, h12, hm⟩
     ·refine wp_condF F rfl hc2 ?_
      refine wp_skip ?_
      refine then_n ?_
      exact ⟨x5, v5, c7, g2, F.sub ⟨rfl, rfl, rfl, rfl, rfl, rfl, rfl, rfl, trivial⟩, (Le.refl _), S, h7, hm⟩
    ·clear F S hm; rintro a w ⟨x7, v6, c8, g3, F, l3, S, h8, hm⟩
     refine wp_dv [] mo S ?_; clear S; intro ok1 w S
     refine dv_ev ok1 0 rfl (ev_load1 tu62 rfl rfl (box_ptr (cells := [.func (.func 17) #[] #[bp bu1 0, bp bu2 0, bp bu3 0, bp bu4 0]]) 5 rfl 0 rfl (lb rfl))) F S rfl fun a F=>?_
     refine dv_ev ok1 1 rfl (ev_loadA tu30 rfl (cs := [.bool y3.Delete, .i6 y3.Replica, .i6 y3.Counter, .i6 y3.AfterReplica, .i6 y3.AfterCounter, .string y3.Line]) ts30 rfl (box_ptr (cells := [.bool y3.Delete, .i6 y3.Replica, .i6 y3.Counter, .i6 y3.AfterReplica, .i6 y3.AfterCounter, .string y3.Line]) 0 rfl 0 rfl (lb rfl))) F S rfl fun a F=>?_
     refine dv_op ok1 2 rfl [(0, .func (.func 17) #[] #[bp bu1 0, bp bu2 0, bp bu3 0, bp bu4 0])] ?_
     obtain ⟨y4, hy4, hm⟩ := bind_some hm
     refine wl_call0 (wn rfl) rfl F rfl (sequence_own_ok (fr := (fl [[bx b2 #[.bool y3.Delete, .i6 y3.Replica, .i6 y3.Counter, .i6 y3.AfterReplica, .i6 y3.AfterCounter, .string y3.Line] 30], c3, [bx bu1 #[vu11] 58], [bx bu2 #[vu21] 57], [bx bu3 #[v6] 22], [(bu4, .cells #[.func (.func 17) #[] #[bp bu1 0, bp bu2 0, bp bu3 0, bp bu4 0]] 62 (0, 0))], c6, cu21, c8] fr)) y3 S hy4) rfl tc15 rfl rfl ?_; clear F a S
     rintro _ a w ⟨g4, l4, S, rfl⟩ F; replace S : St g4 [[bx b2 #[.bool y3.Delete, .i6 y3.Replica, .i6 y3.Counter, .i6 y3.AfterReplica, .i6 y3.AfterCounter, .string y3.Line] 30], c3, [bx bu1 #[vu11] 58], [bx bu2 #[vu21] 57], [bx bu3 #[v6] 22], [(bu4, .cells #[.func (.func 17) #[] #[bp bu1 0, bp bu2 0, bp bu3 0, bp bu4 0]] 62 (0, 0))], c6, cu21, c8] fr w := S
     refine dv_nx ⟨yl_ev rfl rfl (ev_load1 tu62 rfl rfl (box_ptr (cells := [.func (.func 17) #[] #[bp bu1 0, bp bu2 0, bp bu3 0, bp bu4 0]]) 5 rfl 0 rfl (lb rfl))) F S, trivial⟩ ?_
     refine dv_op ok1 3 rfl [] ?_
     replace S : St g4 [[bx bu1 #[vu11] 58], c6, [bx bu2 #[vu21] 57], cu21, [bx bu3 #[v6] 22], c8, [(bu4, .cells #[.func (.func 17) #[] #[bp bu1 0, bp bu2 0, bp bu3 0, bp bu4 0]] 62 (0, 0))], [bx b2 #[.bool y3.Delete, .i6 y3.Replica, .i6 y3.Counter, .i6 y3.AfterReplica, .i6 y3.AfterCounter, .string y3.Line] 30], c3] fr w := (((((((((S.frontC 1 rfl).frontC 1 rfl).frontC 7 rfl).frontC 11 rfl).frontC 8 rfl).frontC 12 rfl).frontC 9 rfl).frontC 13 rfl).frontC 10 rfl)
     obtain ⟨y5, hy5, hm⟩ := bind_some hm
     refine wl_call (wn rfl) rfl (xs := [.tmp 32]) (vs := [.agg #[.i6 y4.counter, .i6 y4.replica]]) (cap := [bp bu1 0, bp bu2 0, bp bu3 0, bp bu4 0]) F rfl rfl tc17 (hrec (g := g4) (fr := (fl [[bx b2 #[.bool y3.Delete, .i6 y3.Replica, .i6 y3.Counter, .i6 y3.AfterReplica, .i6 y3.AfterCounter, .string y3.Line] 30], c3] fr)) (w := w) y4 bu1 x4 vu11 c6 (h6.mono (l3.trans l4)) bu2 u2 vu21 cu21 (hu21.mono ((l2.trans l3).trans l4)) bu3 x7 v6 c8 (h8.mono l4) bu4 S hy5) rfl rfl ?_; clear F a S
     rintro _ a w ⟨g5, v7, c9, c10, l5, S, h9, h10, rfl⟩ F; replace S : St g5 [[bx bu1 #[vu11] 58], c9, [bx bu2 #[vu21] 57], cu21, [bx bu3 #[v7] 22], c10, [(bu4, .cells #[.func (.func 17) #[] #[bp bu1 0, bp bu2 0, bp bu3 0, bp bu4 0]] 62 (0, 0))], [bx b2 #[.bool y3.Delete, .i6 y3.Replica, .i6 y3.Counter, .i6 y3.AfterReplica, .i6 y3.AfterCounter, .string y3.Line] 30], c3] fr w := S
     refine dv_nx trivial ?_
     refine dv_fin ok1 ?_
     refine inb_n ?_
     refine then_n ?_
     refine wp_region_lit ?_
     obtain ⟨z1, hz1, hm⟩ := bind_some hm
     refine wE (ev_int rfl rfl (bo_add hz1)) F S rfl fun a F=>?_
     refine wE (ev_move rfl) F S rfl fun a F=>?_
     refine wpList_nil ?_
     refine then_n ?_
     obtain rfl := sinj hm
     refine ⟨_, rfl, ?_⟩
     dsimp only
     replace S : St g5 [c3, [bx bu1 #[vu11] 58], [bx bu2 #[vu21] 57], [bx bu3 #[v7] 22], [(bu4, .cells #[.func (.func 17) #[] #[bp bu1 0, bp bu2 0, bp bu3 0, bp bu4 0]] 62 (0, 0))], c9, cu21, c10] fr w := St.tail [c3, [bx bu1 #[vu11] 58], [bx bu2 #[vu21] 57], [bx bu3 #[v7] 22], [(bu4, .cells #[.func (.func 17) #[] #[bp bu1 0, bp bu2 0, bp bu3 0, bp bu4 0]] 62 (0, 0))], c9, cu21, c10] _ ((((((((S.frontC 5 rfl).frontC 4 rfl).frontC 3 rfl).frontC 9 rfl).frontC 8 rfl).frontC 7 rfl).frontC 6 rfl).frontC 15 rfl)
     exact ⟨v7, c9, c10, g5, F.sub ⟨rfl, rfl, rfl, rfl, rfl, rfl, rfl, trivial⟩, (((l2.trans l3).trans l4).trans l5), S, h9, h10⟩
   ·refine wp_condF F rfl hc1 ?_
    refine wp_exit ?_
    refine then_e ?_
    refine then_e ?_
    refine inb_x ?_
    refine then_n ?_
    obtain rfl := sinj hm
    obtain rfl := hfin1 _ rfl
    clear hm
    have hm : (sequence_Visible_s1.j1 x4 x5 : Option ((List (K2 × Option (List SeqOp))) × (List ByteArray))) = some _ := hmo1
    replace S : St g2 [[bx bu1 #[vu11] 58], [bx bu2 #[vu21] 57], [bx bu3 #[v5] 22], [(bu4, .cells #[.func (.func 17) #[] #[bp bu1 0, bp bu2 0, bp bu3 0, bp bu4 0]] 62 (0, 0))], c6, cu21, c7] fr w := St.tail [[bx bu1 #[vu11] 58], [bx bu2 #[vu21] 57], [bx bu3 #[v5] 22], [(bu4, .cells #[.func (.func 17) #[] #[bp bu1 0, bp bu2 0, bp bu3 0, bp bu4 0]] 62 (0, 0))], c6, cu21, c7] _ (((((((S.frontC 7 rfl).frontC 7 rfl).frontC 7 rfl).frontC 7 rfl).frontC 7 rfl).frontC 7 rfl).frontC 7 rfl)
    exact ⟨x4, x5, v5, c6, c7, g2, F.sub ⟨rfl, rfl, rfl, rfl, trivial⟩, l2, S, h6, h7, hm⟩
 ·clear F S hm; rintro a w ⟨x1, x2, v3, c4, c5, g1, F, l1, S, h4, h5, hm⟩
  obtain rfl := sinj hm
  refine post_n _ F rfl ar_nil ?_
  replace S : St g1 [[bx bu1 #[vu11] 58], c4, [bx bu2 #[vu21] 57], cu21, [bx bu3 #[v3] 22], c5, [(bu4, .cells #[.func (.func 17) #[] #[bp bu1 0, bp bu2 0, bp bu3 0, bp bu4 0]] 62 (0, 0))]] fr w := St.tail [[bx bu1 #[vu11] 58], c4, [bx bu2 #[vu21] 57], cu21, [bx bu3 #[v3] 22], c5, [(bu4, .cells #[.func (.func 17) #[] #[bp bu1 0, bp bu2 0, bp bu3 0, bp bu4 0]] 62 (0, 0))]] _ (((((((S.frontC 3 rfl).frontC 7 rfl).frontC 4 rfl).frontC 8 rfl).frontC 5 rfl).frontC 9 rfl).frontC 6 rfl)
  exact ⟨_, rfl, g1, v3, c4, c5, l1, S, h4, h5, rfl⟩

theorem sequence_Visible_s1.m_ok : ∀ (fu_ : Nat) {g : Gh} {fr : Hl} {w : World} {r : (List (K2 × Option (List SeqOp))) × (List ByteArray)} (e_ : Element_sequence) (bu1 : Nat) (u1 : (List (K2 × Option (List SeqOp)))) (vu11 : Value) (cu11 : Hl) (hu11 : OwnR g u1 vu11 cu11) (bu2 : Nat) (u2 : (List (K2 × Bool))) (vu21 : Value) (cu21 : Hl) (hu21 : OwnB g u2 vu21 cu21) (bu3 : Nat) (u3 : (List ByteArray)) (vu31 : Value) (cu31 : Hl) (hu31 : OwnS g u3 vu31 cu31) (bu4 : Nat) (S : St g [[bx bu1 #[vu11] 58], cu11, [bx bu2 #[vu21] 57], cu21, [bx bu3 #[vu31] 22], cu31, [(bu4, .cells #[.func (.func 17) #[] #[bp bu1 0, bp bu2 0, bp bu3 0, bp bu4 0]] 62 (0, 0))]] fr w) (hm : sequence_Visible_s1.m fu_ e_ u1 u2 u3 = some r), Calls Tryd.prog 17 [.agg #[.i6 e_.counter, .i6 e_.replica], bp bu1 0, bp bu2 0, bp bu3 0, bp bu4 0].toArray w (fun en w' => ∃ v, en = .returned v ∧ ∃ (g' : Gh) (v1 : Value) (c1 c2 : Hl), Le g g' ∧ St g' [[bx bu1 #[vu11] 58], c1, [bx bu2 #[vu21] 57], cu21, [bx bu3 #[v1] 22], c2, [(bu4, .cells #[.func (.func 17) #[] #[bp bu1 0, bp bu2 0, bp bu3 0, bp bu4 0]] 62 (0, 0))]] fr w' ∧ OwnR g' r.1 vu11 c1 ∧ OwnS g' r.2 v1 c2 ∧ .tuple #[] = v)
 | 0 => by intros; rename_i hm; cases hm
 | fu_ + 1 => sequence_Visible_s1.body_ok (sequence_Visible_s1.m_ok fu_)

theorem sequence_Visible_s1_ok {g : Gh} {fr : Hl} {w : World} {r : (List (K2 × Option (List SeqOp))) × (List ByteArray)} (e_ : Element_sequence) (bu1 : Nat) (u1 : (List (K2 × Option (List SeqOp)))) (vu11 : Value) (cu11 : Hl) (hu11 : OwnR g u1 vu11 cu11) (bu2 : Nat) (u2 : (List (K2 × Bool))) (vu21 : Value) (cu21 : Hl) (hu21 : OwnB g u2 vu21 cu21) (bu3 : Nat) (u3 : (List ByteArray)) (vu31 : Value) (cu31 : Hl) (hu31 : OwnS g u3 vu31 cu31) (bu4 : Nat) (S : St g [[bx bu1 #[vu11] 58], cu11, [bx bu2 #[vu21] 57], cu21, [bx bu3 #[vu31] 22], cu31, [(bu4, .cells #[.func (.func 17) #[] #[bp bu1 0, bp bu2 0, bp bu3 0, bp bu4 0]] 62 (0, 0))]] fr w) (hm : sequence_Visible_s1 e_ u1 u2 u3 = some r) :
  Calls Tryd.prog 17 [.agg #[.i6 e_.counter, .i6 e_.replica], bp bu1 0, bp bu2 0, bp bu3 0, bp bu4 0].toArray w (fun en w' => ∃ v, en = .returned v ∧ ∃ (g' : Gh) (v1 : Value) (c1 c2 : Hl), Le g g' ∧ St g' [[bx bu1 #[vu11] 58], c1, [bx bu2 #[vu21] 57], cu21, [bx bu3 #[v1] 22], c2, [(bu4, .cells #[.func (.func 17) #[] #[bp bu1 0, bp bu2 0, bp bu3 0, bp bu4 0]] 62 (0, 0))]] fr w' ∧ OwnR g' r.1 vu11 c1 ∧ OwnS g' r.2 v1 c2 ∧ .tuple #[] = v) := sequence_Visible_s1.m_ok _ e_ bu1 u1 vu11 cu11 hu11 bu2 u2 vu21 cu21 hu21 bu3 u3 vu31 cu31 hu31 bu4 S hm

theorem sequence_Visible_ok {g : Gh} {fr : Hl} {w : World} {r : (List ByteArray) × Fault} (ops : (List SeqOp)) (vops1 : Value) (hops1 : RepSl g ops vops1) (S : St g [] fr w) (hm : sequence_Visible ops = some r) :
  Calls Tryd.prog 6 [vops1].toArray w (fun en w' => ∃ v, en = .returned v ∧ ∃ (g' : Gh) (v1 : Value) (c1 : Hl), Le g g' ∧ St g' [c1] fr w' ∧ OwnS g' r.1 v1 c1 ∧ .tuple #[v1, .agg #[.i6 r.2.Code, .i6 r.2.Index]] = v) := by
 unfold sequence_Visible at hm
 refine calls_enter (fn := Tryd.f6) Tryd.func6 rfl Tryd.ntmps6 (lb rfl) ?_
 intro a F
 replace F : Fr 47 a [(0, vops1)] := F
 refine wp_seq ?_
 refine wp_region_lit ?_
 refine wE (ev_assign rfl) F S rfl fun a F=>?_
 refine wl_alloc (wn rfl) rfl tz25 (cs := [.i6 0, .i6 0]) rfl F S rfl rfl ?_; clear F a S; rintro b1 a w F S
 refine wpList_nil ?_
 refine then_n ?_
 refine wp_seq ?_
 refine wp_seq ?_
 refine wp_region_lit ?_
 refine wE (ev_move rfl) F S rfl fun a F=>?_
 obtain ⟨y1, hy1, hm⟩ := bind_some hm
 refine wl_call0 (wn rfl) rfl F rfl (sequence_Validate_ok (fr := (fl [[bx b1 #[.i6 0, .i6 0] 25]] fr)) ops vops1 hops1 S hy1) rfl tc14 rfl rfl ?_; clear F a S
 rintro _ a w ⟨g1, l1, S, rfl⟩ F; replace S : St g1 [[bx b1 #[.i6 0, .i6 0] 25]] fr w := S
 refine wl_alloc (wn rfl) rfl tz25 (cs := [.i6 0, .i6 0]) rfl F S rfl rfl ?_; clear F a S; rintro b2 a w F S
 refine wl_storeC (wn rfl) rfl F S rfl rfl (vs := [.i6 y1.Code, .i6 y1.Index]) rfl ts25 (one_cons rfl (one_cons rfl one_nil)) (k := 0) rfl (lb rfl) (c' := #[.i6 y1.Code, .i6 y1.Index]) rfl rfl ?_; clear S; intro w S
 refine wpList_nil ?_
 refine then_n ?_
 refine wp_seq ?_
 refine wp_region_lit ?_
 refine wE (ev_loadA tu25 rfl (cs := [.i6 y1.Code, .i6 y1.Index]) ts25 rfl (box_ptr (cells := [.i6 y1.Code, .i6 y1.Index]) 0 rfl 0 rfl (lb rfl))) F S rfl fun a F=>?_
 refine wE (ev_build (parts := []) (vs := []) rfl (fun w => tb25_  w)) F S rfl fun a F=>?_
 refine wE (ev_neS tu25 tqa25 tqb25 tqc25 (xs := [.i6 y1.Code, .i6 y1.Index]) (ys := [.i6 0, .i6 0]) rfl rfl ⟨_, _, rfl, by decide, ⟨_, _, rfl, rfl, leaf_int tu3⟩, ⟨_, _, rfl, by decide, ⟨_, _, rfl, rfl, leaf_int tu3⟩, rfl⟩⟩) F S rfl fun a F=>?_
 refine wpList_nil ?_
 refine then_n ?_
 obtain ⟨hc1, hm⟩ | ⟨hc1, hm⟩ := ite_or hm
 ·refine wp_condT F rfl hc1 ?_
  refine wp_seq ?_
  refine wp_dv [] mo S ?_; clear S; intro ok1 w S
  refine dv_ev ok1 0 rfl (ev_loadA tu25 rfl (cs := [.i6 y1.Code, .i6 y1.Index]) ts25 rfl (box_ptr (cells := [.i6 y1.Code, .i6 y1.Index]) 0 rfl 0 rfl (lb rfl))) F S rfl fun a F=>?_
  refine dv_et ok1 1 rfl (ev_assign rfl) F rfl fun a F=>?_
  refine dv_op ok1 2 rfl [] ?_
  refine wl_storeC (wn rfl) rfl F S rfl rfl (vs := [.i6 y1.Code, .i6 y1.Index]) rfl ts25 (one_cons rfl (one_cons rfl one_nil)) (k := 1) rfl (lb rfl) (c' := #[.i6 y1.Code, .i6 y1.Index]) rfl rfl ?_; clear S; intro w S
  refine dv_nx trivial ?_
  refine dv_fin ok1 ?_
  refine then_n ?_
  refine wp_ret ?_
  refine then_r ?_
  obtain rfl := sinj hm
  replace S : St g1 [[], [bx b2 #[.i6 y1.Code, .i6 y1.Index] 25], [bx b1 #[.i6 y1.Code, .i6 y1.Index] 25]] fr w := S
  refine post_r _ F rfl (ar_cons (resT rfl) (ar_cons (resA rfl tu25 rfl (box_ptr (cells := [.i6 y1.Code, .i6 y1.Index]) 2 rfl 0 rfl (lb rfl) w S) ts25) ar_nil)) ?_
  replace S : St g1 [[]] fr w := St.tail [[]] _ (S.frontC 0 rfl)
  exact ⟨_, rfl, g1, (nilS), [], l1, S, (OwnS.nil _), rfl⟩
 ·refine wp_condF F rfl hc1 ?_
  refine wp_skip ?_
  refine then_n ?_
  refine wp_seq ?_
  refine wp_region_lit ?_
  refine wl_makeB (wn rfl) rfl F S rfl rfl ?_; clear F a S; rintro v1 c1 a w h1 F S
  refine wl_alloc (wn rfl) rfl tz57 (cs := [.map Option.none]) rfl F S rfl rfl ?_; clear F a S; rintro b3 a w F S
  refine wl_storeC (wn rfl) rfl F S rfl rfl (vs := [v1]) (OwnB.cl h1) ts57 (one_cons (OwnB.one h1) one_nil) (k := 0) rfl (lb rfl) (c' := #[v1]) rfl rfl ?_; clear S; intro w S
  refine wpList_nil ?_
  refine then_n ?_
  refine wp_seq ?_
  refine wp_region_lit ?_
  refine wl_makeR (α := SeqOp) (wn rfl) rfl F S rfl rfl ?_; clear F a S; rintro v2 c2 a w h2 F S
  refine wl_alloc (wn rfl) rfl tz58 (cs := [.map Option.none]) rfl F S rfl rfl ?_; clear F a S; rintro b4 a w F S
  refine wl_storeC (wn rfl) rfl F S rfl rfl (vs := [v2]) (OwnR.cl h2) ts58 (one_cons (OwnR.one h2) one_nil) (k := 0) rfl (lb rfl) (c' := #[v2]) rfl rfl ?_; clear S; intro w S
  refine wpList_nil ?_
  refine then_n ?_
  refine wp_cut (fun a w => ∃ (x1 : List (K2 × Option (List SeqOp))) (x2 : List (K2 × Bool)) (c3 c4 : Hl) (g2 : Gh), Fr 47 a [(6, bp b4 0), (5, bp b3 0), (3, bp b1 0)] ∧ Le g1 g2 ∧ St g2 [[bx b4 #[v2] 58], [bx b3 #[v1] 57], [bx b1 #[.i6 0, .i6 0] 25], c3, c4] fr w ∧ OwnR g2 x1 v2 c3 ∧ OwnB g2 x2 v1 c4 ∧ sequence_Visible.j1 x1 x2 = some r) ?_ ?_
  ·refine wp_seq ?_
   refine wp_region_lit ?_
   refine wE (ev_move rfl) F S rfl fun a F=>?_
   refine wE (ev_lenSh hops1 rfl tu28) F S rfl fun a F=>?_
   refine wE (ev_move rfl) F S rfl fun a F=>?_
   refine wpList_nil ?_
   refine then_n ?_
   refine wp_block ?_
   obtain ⟨r1, hr1, hm⟩ := bind_some hm
   have hmo1 := hm; clear hm
   refine wp_iter (σ := Int × (List (K2 × Option (List SeqOp))) × (List (K2 × Bool))) (ρ := (List (K2 × Option (List SeqOp))) × (List (K2 × Bool))) (m := fun s => sequence_Visible.l1 ops s.1 s.2.1 s.2.2) (I := fun s a w => match s with | (x3, x4, x5) => ∃ (c7 c8 : Hl) (g4 : Gh), Fr 47 a [(21, .i6 x3), (20, .i6 (ops.length : Int)), (19, vops1), (6, bp b4 0), (5, bp b3 0), (3, bp b1 0)] ∧ Le g1 g4 ∧ St g4 [[bx b4 #[v2] 58], [bx b3 #[v1] 57], [bx b1 #[.i6 0, .i6 0] 25], c7, c8] fr w ∧ OwnR g4 x4 v2 c7 ∧ OwnB g4 x5 v1 c8) hr1 ?_ ?_
   ·dsimp only
    replace S : St g1 [[bx b4 #[v2] 58], [bx b3 #[v1] 57], [bx b1 #[.i6 0, .i6 0] 25], c2, c1] fr w := St.tail [[bx b4 #[v2] 58], [bx b3 #[v1] 57], [bx b1 #[.i6 0, .i6 0] 25], c2, c1] _ (((((S.frontC 3 rfl).frontC 2 rfl).frontC 7 rfl).frontC 5 rfl).frontC 4 rfl)
    exact ⟨c2, c1, g1, F.sub ⟨rfl, rfl, rfl, rfl, rfl, rfl, trivial⟩, (Le.refl _), S, h2, h1⟩
   ·clear F S; rintro ⟨x3, x4, x5⟩ a w x6 ⟨c7, c8, g4, F, l4, S, h7, h8⟩ hx1 hfin1
    have hm : sequence_Visible.l1 ops x3 x4 x5 = some x6 := hx1; clear hx1
    unfold sequence_Visible.l1 at hm
    refine wp_seq ?_
    refine wp_region_lit ?_
    refine wE (ev_int rfl rfl (bo_lss _ _ _ _)) F S rfl fun a F=>?_
    refine wpList_nil ?_
    refine then_n ?_
    refine wp_seq ?_
    obtain ⟨hc2, hm⟩ | ⟨hc2, hm⟩ := ite_or hm
    ·refine wp_condT F rfl hc2 ?_
     refine wp_skip ?_
     refine then_n ?_
     refine wp_cut (fun a w => ∃ (x7 : List (K2 × Option (List SeqOp))) (x8 : List (K2 × Bool)) (c9 c10 : Hl) (g5 : Gh), Fr 47 a [(21, .i6 x3), (20, .i6 (ops.length : Int)), (19, vops1), (6, bp b4 0), (5, bp b3 0), (3, bp b1 0)] ∧ Le g4 g5 ∧ St g5 [[bx b4 #[v2] 58], [bx b3 #[v1] 57], [bx b1 #[.i6 0, .i6 0] 25], c9, c10] fr w ∧ OwnR g5 x7 v2 c9 ∧ OwnB g5 x8 v1 c10 ∧ sequence_Visible.j2 x3 x7 x8 = some x6) ?_ ?_
     ·refine wp_block ?_
      refine wp_seq ?_
      refine wp_region_lit ?_
      obtain ⟨y3, hy3, hm⟩ := bind_some hm
      obtain ⟨cs1, hr2, hp1⟩ := elemS (hops1.mono (l1.trans l4)) hy3
      obtain rfl := rep_SeqOp hr2
      refine wE (ev_idxS (hops1.mono (l1.trans l4)) hy3 tu28 ts30 rfl rfl) F S rfl fun a F=>?_
      refine wE (ev_loadA tu30 rfl (cs := [.bool y3.Delete, .i6 y3.Replica, .i6 y3.Counter, .i6 y3.AfterReplica, .i6 y3.AfterCounter, .string y3.Line]) ts30 rfl (ptr_mono (cks := [[bx b4 #[v2] 58], [bx b3 #[v1] 57], [bx b1 #[.i6 0, .i6 0] 25], c7, c8]) (fr := fr) hp1 (Le.refl _))) F S rfl fun a F=>?_
      refine wl_alloc (wn rfl) rfl tz30 (cs := [.bool false, .i6 0, .i6 0, .i6 0, .i6 0, .string ByteArray.empty]) rfl F S rfl rfl ?_; clear F a S; rintro b7 a w F S
      refine wl_storeC (wn rfl) rfl F S rfl rfl (vs := [.bool y3.Delete, .i6 y3.Replica, .i6 y3.Counter, .i6 y3.AfterReplica, .i6 y3.AfterCounter, .string y3.Line]) rfl ts30 (one_cons rfl (one_cons rfl (one_cons rfl (one_cons rfl (one_cons rfl (one_cons rfl one_nil)))))) (k := 0) rfl (lb rfl) (c' := #[.bool y3.Delete, .i6 y3.Replica, .i6 y3.Counter, .i6 y3.AfterReplica, .i6 y3.AfterCounter, .string y3.Line]) rfl rfl ?_; clear S; intro w S
      refine wpList_nil ?_
      refine then_n ?_
      refine wp_seq ?_
      refine wp_region_lit ?_
      refine wE (ev_fieldAddr' tu30 tf30_0 (z := 0) ts4 rfl ⟨_, rfl⟩ rfl) F S rfl fun a F=>?_
      refine wE (ev_load1 tu4 rfl rfl (box_ptr (cells := [.bool y3.Delete]) 0 rfl 0 rfl (lb rfl))) F S rfl fun a F=>?_
      refine wpList_nil ?_
      refine then_n ?_
      obtain ⟨hc3, hm⟩ | ⟨hc3, hm⟩ := ite_or hm
      ·refine wp_condT F rfl hc3 ?_
       refine wp_dv [] mo S ?_; clear S; intro ok2 w S
       refine dv_ev ok2 0 rfl (ev_load1 tu57 rfl rfl (box_ptr (cells := [v1]) 2 rfl 0 rfl (lb rfl))) F S rfl fun a F=>?_
       refine dv_ev ok2 1 rfl (ev_loadA tu30 rfl (cs := [.bool y3.Delete, .i6 y3.Replica, .i6 y3.Counter, .i6 y3.AfterReplica, .i6 y3.AfterCounter, .string y3.Line]) ts30 rfl (box_ptr (cells := [.bool y3.Delete, .i6 y3.Replica, .i6 y3.Counter, .i6 y3.AfterReplica, .i6 y3.AfterCounter, .string y3.Line]) 0 rfl 0 rfl (lb rfl))) F S rfl fun a F=>?_
       refine dv_op ok2 2 rfl [(0, v1)] ?_
       obtain ⟨y4, hy4, hm⟩ := bind_some hm
       refine wl_call0 (wn rfl) rfl F rfl (sequence_own_ok (fr := (fl [[bx b7 #[.bool y3.Delete, .i6 y3.Replica, .i6 y3.Counter, .i6 y3.AfterReplica, .i6 y3.AfterCounter, .string y3.Line] 30], [bx b4 #[v2] 58], [bx b3 #[v1] 57], [bx b1 #[.i6 0, .i6 0] 25], c7, c8] fr)) y3 S hy4) rfl tc15 rfl rfl ?_; clear F a S
       rintro _ a w ⟨g6, l6, S, rfl⟩ F; replace S : St g6 [[bx b7 #[.bool y3.Delete, .i6 y3.Replica, .i6 y3.Counter, .i6 y3.AfterReplica, .i6 y3.AfterCounter, .string y3.Line] 30], [bx b4 #[v2] 58], [bx b3 #[v1] 57], [bx b1 #[.i6 0, .i6 0] 25], c7, c8] fr w := S
       refine dv_nx ⟨yl_ev rfl rfl (ev_load1 tu57 rfl rfl (box_ptr (cells := [v1]) 2 rfl 0 rfl (lb rfl))) F S, trivial⟩ ?_
       refine dv_op ok2 3 rfl [] ?_
       refine wl_updB (h8.mono l6) tk60 tu57 (wn rfl) rfl F S rfl (k := (y4.counter, y4.replica)) rfl rfl 5 rfl rfl ?_; clear S
       rintro c11 w h11 S; replace S : St g6 [[bx b7 #[.bool y3.Delete, .i6 y3.Replica, .i6 y3.Counter, .i6 y3.AfterReplica, .i6 y3.AfterCounter, .string y3.Line] 30], [bx b4 #[v2] 58], [bx b3 #[v1] 57], [bx b1 #[.i6 0, .i6 0] 25], c7, c11] fr w := S
       obtain ⟨y5, hy5, hm⟩ := bind_some hm
       replace h11 : OwnB g6 y5 v1 c11 := sinj hy5 ▸ h11
       refine dv_nx trivial ?_
       refine dv_fin ok2 ?_
       refine inb_n ?_
       refine then_n ?_
       replace S : St g6 [[bx b4 #[v2] 58], [bx b3 #[v1] 57], [bx b1 #[.i6 0, .i6 0] 25], c7, c11] fr w := St.tail [[bx b4 #[v2] 58], [bx b3 #[v1] 57], [bx b1 #[.i6 0, .i6 0] 25], c7, c11] _ (((((S.frontC 5 rfl).frontC 5 rfl).frontC 5 rfl).frontC 5 rfl).frontC 5 rfl)
       exact ⟨x4, y5, c7, c11, g6, F.sub ⟨rfl, rfl, rfl, rfl, rfl, rfl, trivial⟩, l6, S, (h7.mono l6), h11, hm⟩
      ·refine wp_condF F rfl hc3 ?_
       refine wp_dv [] mo S ?_; clear S; intro ok3 w S
       refine dv_ev ok3 0 rfl (ev_load1 tu58 rfl rfl (box_ptr (cells := [v2]) 1 rfl 0 rfl (lb rfl))) F S rfl fun a F=>?_
       refine dv_ev ok3 1 rfl (ev_loadA tu30 rfl (cs := [.bool y3.Delete, .i6 y3.Replica, .i6 y3.Counter, .i6 y3.AfterReplica, .i6 y3.AfterCounter, .string y3.Line]) ts30 rfl (box_ptr (cells := [.bool y3.Delete, .i6 y3.Replica, .i6 y3.Counter, .i6 y3.AfterReplica, .i6 y3.AfterCounter, .string y3.Line]) 0 rfl 0 rfl (lb rfl))) F S rfl fun a F=>?_
       refine dv_ev ok3 3 rfl (ev_load1 tu58 rfl rfl (box_ptr (cells := [v2]) 1 rfl 0 rfl (lb rfl))) F S rfl fun a F=>?_
       refine dv_ev ok3 4 rfl (ev_loadA tu30 rfl (cs := [.bool y3.Delete, .i6 y3.Replica, .i6 y3.Counter, .i6 y3.AfterReplica, .i6 y3.AfterCounter, .string y3.Line]) ts30 rfl (box_ptr (cells := [.bool y3.Delete, .i6 y3.Replica, .i6 y3.Counter, .i6 y3.AfterReplica, .i6 y3.AfterCounter, .string y3.Line]) 0 rfl 0 rfl (lb rfl))) F S rfl fun a F=>?_
       refine dv_ev ok3 7 rfl (ev_loadA tu30 rfl (cs := [.bool y3.Delete, .i6 y3.Replica, .i6 y3.Counter, .i6 y3.AfterReplica, .i6 y3.AfterCounter, .string y3.Line]) ts30 rfl (box_ptr (cells := [.bool y3.Delete, .i6 y3.Replica, .i6 y3.Counter, .i6 y3.AfterReplica, .i6 y3.AfterCounter, .string y3.Line]) 0 rfl 0 rfl (lb rfl))) F S rfl fun a F=>?_
       obtain ⟨y6, hy6, hm⟩ := bind_some hm
       obtain ⟨y7, hy7, hm⟩ := bind_some hm
       obtain ⟨y8, hy8, hm⟩ := bind_some hm
       refine dv_cut [0, 1, 3, 4, 7, 2, 5, 6, 8] [(0, v2)] (fun a w => ∃ (x9 : List SeqOp) (x11 : List (K2 × Option (List SeqOp))) (v12 v13 : Value) (c15 c16 c17 : Hl) (g9 : Gh), Fr 47 a [(38, v12), (36, v13), (32, .agg #[.i6 y6.counter, .i6 y6.replica]), (30, v2), (21, .i6 x3), (20, .i6 (ops.length : Int)), (19, vops1), (6, bp b4 0), (5, bp b3 0), (3, bp b1 0)] ∧ Le g4 g9 ∧ St g9 [c15, c16, c17, [bx b4 #[v2] 58], [bx b3 #[v1] 57], [bx b1 #[.i6 0, .i6 0] 25], c8] fr w ∧ OwnS g9 x9 v12 c15 ∧ OwnS g9 y8 v13 c16 ∧ OwnR g9 x11 v2 c17 ∧ sequence_Visible.j3 x3 x5 y6 y8 x9 x11 = some x6) ?_ ?_
       ·intro HJ
        refine dv_fork ok3 2 [8] (fk 2 rfl [(7, .agg #[.bool y3.Delete, .i6 y3.Replica, .i6 y3.Counter, .i6 y3.AfterReplica, .i6 y3.AfterCounter, .string y3.Line]), (4, .agg #[.bool y3.Delete, .i6 y3.Replica, .i6 y3.Counter, .i6 y3.AfterReplica, .i6 y3.AfterCounter, .string y3.Line]), (3, v2), (0, v2)] ?_ (fk 8 rfl [(4, .agg #[.bool y3.Delete, .i6 y3.Replica, .i6 y3.Counter, .i6 y3.AfterReplica, .i6 y3.AfterCounter, .string y3.Line]), (3, v2), (1, .agg #[.bool y3.Delete, .i6 y3.Replica, .i6 y3.Counter, .i6 y3.AfterReplica, .i6 y3.AfterCounter, .string y3.Line]), (0, v2)] ?_ trivial))
        ·refine wl_call0 (wn rfl) rfl F rfl (sequence_after_ok (fr := (fl [[bx b7 #[.bool y3.Delete, .i6 y3.Replica, .i6 y3.Counter, .i6 y3.AfterReplica, .i6 y3.AfterCounter, .string y3.Line] 30], [bx b4 #[v2] 58], [bx b3 #[v1] 57], [bx b1 #[.i6 0, .i6 0] 25], c7, c8] fr)) y3 S hy6) rfl tc16 rfl rfl ?_; clear F a S
         rintro _ a w ⟨g7, l7, S, rfl⟩ F; replace S : St g7 [[bx b7 #[.bool y3.Delete, .i6 y3.Replica, .i6 y3.Counter, .i6 y3.AfterReplica, .i6 y3.AfterCounter, .string y3.Line] 30], [bx b4 #[v2] 58], [bx b3 #[v1] 57], [bx b1 #[.i6 0, .i6 0] 25], c7, c8] fr w := S
         refine dv_nx ⟨yl_ev rfl rfl (ev_loadA tu30 rfl (cs := [.bool y3.Delete, .i6 y3.Replica, .i6 y3.Counter, .i6 y3.AfterReplica, .i6 y3.AfterCounter, .string y3.Line]) ts30 rfl (box_ptr (cells := [.bool y3.Delete, .i6 y3.Replica, .i6 y3.Counter, .i6 y3.AfterReplica, .i6 y3.AfterCounter, .string y3.Line]) 0 rfl 0 rfl (lb rfl))) F S, yl_ev rfl rfl (ev_loadA tu30 rfl (cs := [.bool y3.Delete, .i6 y3.Replica, .i6 y3.Counter, .i6 y3.AfterReplica, .i6 y3.AfterCounter, .string y3.Line]) ts30 rfl (box_ptr (cells := [.bool y3.Delete, .i6 y3.Replica, .i6 y3.Counter, .i6 y3.AfterReplica, .i6 y3.AfterCounter, .string y3.Line]) 0 rfl 0 rfl (lb rfl))) F S, yl_ev rfl rfl (ev_load1 tu58 rfl rfl (box_ptr (cells := [v2]) 1 rfl 0 rfl (lb rfl))) F S, yl_ev rfl rfl (ev_load1 tu58 rfl rfl (box_ptr (cells := [v2]) 1 rfl 0 rfl (lb rfl))) F S, trivial⟩ ?_
         refine dv_fork ok3 5 [8] (fk 5 rfl [(7, .agg #[.bool y3.Delete, .i6 y3.Replica, .i6 y3.Counter, .i6 y3.AfterReplica, .i6 y3.AfterCounter, .string y3.Line]), (3, v2), (0, v2)] ?_ (fk 8 rfl [(4, .agg #[.bool y3.Delete, .i6 y3.Replica, .i6 y3.Counter, .i6 y3.AfterReplica, .i6 y3.AfterCounter, .string y3.Line]), (3, v2), (0, v2)] ?_ trivial))
         ·refine wl_call0 (wn rfl) rfl F rfl (sequence_after_ok (fr := (fl [[bx b7 #[.bool y3.Delete, .i6 y3.Replica, .i6 y3.Counter, .i6 y3.AfterReplica, .i6 y3.AfterCounter, .string y3.Line] 30], [bx b4 #[v2] 58], [bx b3 #[v1] 57], [bx b1 #[.i6 0, .i6 0] 25], c7, c8] fr)) y3 S hy7) rfl tc16 rfl rfl ?_; clear F a S
          rintro _ a w ⟨g8, l8, S, rfl⟩ F; replace S : St g8 [[bx b7 #[.bool y3.Delete, .i6 y3.Replica, .i6 y3.Counter, .i6 y3.AfterReplica, .i6 y3.AfterCounter, .string y3.Line] 30], [bx b4 #[v2] 58], [bx b3 #[v1] 57], [bx b1 #[.i6 0, .i6 0] 25], c7, c8] fr w := S
          refine dv_nx ⟨yl_ev rfl rfl (ev_loadA tu30 rfl (cs := [.bool y3.Delete, .i6 y3.Replica, .i6 y3.Counter, .i6 y3.AfterReplica, .i6 y3.AfterCounter, .string y3.Line]) ts30 rfl (box_ptr (cells := [.bool y3.Delete, .i6 y3.Replica, .i6 y3.Counter, .i6 y3.AfterReplica, .i6 y3.AfterCounter, .string y3.Line]) 0 rfl 0 rfl (lb rfl))) F S, yl_ev rfl rfl (ev_load1 tu58 rfl rfl (box_ptr (cells := [v2]) 1 rfl 0 rfl (lb rfl))) F S, yl_ev rfl rfl (ev_load1 tu58 rfl rfl (box_ptr (cells := [v2]) 1 rfl 0 rfl (lb rfl))) F S, trivial⟩ ?_
          refine dv_fork ok3 6 [8] (fk 6 rfl [(7, .agg #[.bool y3.Delete, .i6 y3.Replica, .i6 y3.Counter, .i6 y3.AfterReplica, .i6 y3.AfterCounter, .string y3.Line]), (0, v2)] ?_ (fk 8 rfl [(3, v2), (0, v2)] ?_ trivial))
          ·replace S : St g8 [c7, [bx b7 #[.bool y3.Delete, .i6 y3.Replica, .i6 y3.Counter, .i6 y3.AfterReplica, .i6 y3.AfterCounter, .string y3.Line] 30], [bx b4 #[v2] 58], [bx b3 #[v1] 57], [bx b1 #[.i6 0, .i6 0] 25], c8] fr w := ((((((S.frontC 5 rfl).frontC 4 rfl).frontC 4 rfl).frontC 4 rfl).frontC 4 rfl).frontC 9 rfl)
           obtain ⟨v10, c12, c13, h12, h13, hL1, hP1⟩ := OwnR.look (h7.mono (l7.trans l8)) hy8
           replace S : St g8 [c12, c13, [bx b7 #[.bool y3.Delete, .i6 y3.Replica, .i6 y3.Counter, .i6 y3.AfterReplica, .i6 y3.AfterCounter, .string y3.Line] 30], [bx b4 #[v2] 58], [bx b3 #[v1] 57], [bx b1 #[.i6 0, .i6 0] 25], c8] fr w := St.splitM hP1 S
           refine wE (ev_lookR hL1 tk60 tu58 tz28 rfl (k := (y7.counter, y7.replica)) rfl 1 rfl) F S rfl fun a F=>?_
           refine dv_nx ⟨yl_ev rfl rfl (ev_loadA tu30 rfl (cs := [.bool y3.Delete, .i6 y3.Replica, .i6 y3.Counter, .i6 y3.AfterReplica, .i6 y3.AfterCounter, .string y3.Line]) ts30 rfl (box_ptr (cells := [.bool y3.Delete, .i6 y3.Replica, .i6 y3.Counter, .i6 y3.AfterReplica, .i6 y3.AfterCounter, .string y3.Line]) 2 rfl 0 rfl (lb rfl))) F S, yl_ev rfl rfl (ev_load1 tu58 rfl rfl (box_ptr (cells := [v2]) 3 rfl 0 rfl (lb rfl))) F S, trivial⟩ ?_
           refine dv_op ok3 8 rfl [(0, v2)] ?_
           refine wl_lit (l := ([y3] : List SeqOp)) (vs := [.agg #[.bool y3.Delete, .i6 y3.Replica, .i6 y3.Counter, .i6 y3.AfterReplica, .i6 y3.AfterCounter, .string y3.Line]]) (parts := [(0, .tmp 37)]) (wn rfl) rfl rfl rfl tu28 te30 (sz_cons rfl sz_nil) rfl (Cat.cons (rep_SeqOp_mk (x := y3) ) (Cat.nil _)) (coa_cons rfl coa_nil) rfl F S rfl rfl ?_; clear F a S
           rintro v11 c14 a w h14 F S
           refine dv_nx ⟨yl_ev rfl rfl (ev_load1 tu58 rfl rfl (box_ptr (cells := [v2]) 4 rfl 0 rfl (lb rfl))) F S, trivial⟩ ?_
           refine dv_join (HJ _ _ ?_)
           replace S : St g8 [c14, c12, c13, [bx b4 #[v2] 58], [bx b3 #[v1] 57], [bx b1 #[.i6 0, .i6 0] 25], c8] fr w := St.tail [c14, c12, c13, [bx b4 #[v2] 58], [bx b3 #[v1] 57], [bx b1 #[.i6 0, .i6 0] 25], c8] _ (((((((S.frontC 7 rfl).frontC 7 rfl).frontC 7 rfl).frontC 7 rfl).frontC 6 rfl).frontC 6 rfl).frontC 6 rfl)
           exact ⟨([y3] : List SeqOp), (deadM x4 (y7.counter, y7.replica)), v11, v10, c14, c12, c13, g8, F.sub ⟨rfl, rfl, rfl, rfl, rfl, rfl, rfl, rfl, rfl, rfl, trivial⟩, (l7.trans l8), S, h14, h12, h13, hm⟩
          ·refine wl_lit (l := ([y3] : List SeqOp)) (vs := [.agg #[.bool y3.Delete, .i6 y3.Replica, .i6 y3.Counter, .i6 y3.AfterReplica, .i6 y3.AfterCounter, .string y3.Line]]) (parts := [(0, .tmp 37)]) (wn rfl) rfl rfl rfl tu28 te30 (sz_cons rfl sz_nil) rfl (Cat.cons (rep_SeqOp_mk (x := y3) ) (Cat.nil _)) (coa_cons rfl coa_nil) rfl F S rfl rfl ?_; clear F a S
           rintro v11 c14 a w h14 F S
           refine dv_nx ⟨yl_ev rfl rfl (ev_load1 tu58 rfl rfl (box_ptr (cells := [v2]) 2 rfl 0 rfl (lb rfl))) F S, yl_ev rfl rfl (ev_load1 tu58 rfl rfl (box_ptr (cells := [v2]) 2 rfl 0 rfl (lb rfl))) F S, trivial⟩ ?_
           refine dv_op ok3 6 rfl [(0, v2)] ?_
           replace S : St g8 [c7, c14, [bx b7 #[.bool y3.Delete, .i6 y3.Replica, .i6 y3.Counter, .i6 y3.AfterReplica, .i6 y3.AfterCounter, .string y3.Line] 30], [bx b4 #[v2] 58], [bx b3 #[v1] 57], [bx b1 #[.i6 0, .i6 0] 25], c8] fr w := (((((((S.frontC 6 rfl).frontC 5 rfl).frontC 5 rfl).frontC 5 rfl).frontC 5 rfl).frontC 5 rfl).frontC 11 rfl)
           obtain ⟨v10, c12, c13, h12, h13, hL1, hP1⟩ := OwnR.look (h7.mono (l7.trans l8)) hy8
           replace S : St g8 [c12, c13, c14, [bx b7 #[.bool y3.Delete, .i6 y3.Replica, .i6 y3.Counter, .i6 y3.AfterReplica, .i6 y3.AfterCounter, .string y3.Line] 30], [bx b4 #[v2] 58], [bx b3 #[v1] 57], [bx b1 #[.i6 0, .i6 0] 25], c8] fr w := St.splitM hP1 S
           refine wE (ev_lookR hL1 tk60 tu58 tz28 rfl (k := (y7.counter, y7.replica)) rfl 1 rfl) F S rfl fun a F=>?_
           refine dv_nx ⟨yl_ev rfl rfl (ev_load1 tu58 rfl rfl (box_ptr (cells := [v2]) 4 rfl 0 rfl (lb rfl))) F S, trivial⟩ ?_
           refine dv_join (HJ _ _ ?_)
           replace S : St g8 [c14, c12, c13, [bx b4 #[v2] 58], [bx b3 #[v1] 57], [bx b1 #[.i6 0, .i6 0] 25], c8] fr w := St.tail [c14, c12, c13, [bx b4 #[v2] 58], [bx b3 #[v1] 57], [bx b1 #[.i6 0, .i6 0] 25], c8] _ (((((((S.frontC 7 rfl).frontC 7 rfl).frontC 7 rfl).frontC 7 rfl).frontC 5 rfl).frontC 5 rfl).frontC 8 rfl)
           exact ⟨([y3] : List SeqOp), (deadM x4 (y7.counter, y7.replica)), v11, v10, c14, c12, c13, g8, F.sub ⟨rfl, rfl, rfl, rfl, rfl, rfl, rfl, rfl, rfl, rfl, trivial⟩, (l7.trans l8), S, h14, h12, h13, hm⟩
         ·refine wl_lit (l := ([y3] : List SeqOp)) (vs := [.agg #[.bool y3.Delete, .i6 y3.Replica, .i6 y3.Counter, .i6 y3.AfterReplica, .i6 y3.AfterCounter, .string y3.Line]]) (parts := [(0, .tmp 37)]) (wn rfl) rfl rfl rfl tu28 te30 (sz_cons rfl sz_nil) rfl (Cat.cons (rep_SeqOp_mk (x := y3) ) (Cat.nil _)) (coa_cons rfl coa_nil) rfl F S rfl rfl ?_; clear F a S
          rintro v11 c14 a w h14 F S
          refine dv_nx ⟨yl_ev rfl rfl (ev_loadA tu30 rfl (cs := [.bool y3.Delete, .i6 y3.Replica, .i6 y3.Counter, .i6 y3.AfterReplica, .i6 y3.AfterCounter, .string y3.Line]) ts30 rfl (box_ptr (cells := [.bool y3.Delete, .i6 y3.Replica, .i6 y3.Counter, .i6 y3.AfterReplica, .i6 y3.AfterCounter, .string y3.Line]) 1 rfl 0 rfl (lb rfl))) F S, yl_ev rfl rfl (ev_load1 tu58 rfl rfl (box_ptr (cells := [v2]) 2 rfl 0 rfl (lb rfl))) F S, yl_ev rfl rfl (ev_load1 tu58 rfl rfl (box_ptr (cells := [v2]) 2 rfl 0 rfl (lb rfl))) F S, trivial⟩ ?_
          refine dv_op ok3 5 rfl [(3, v2), (0, v2)] ?_
          refine wl_call0 (wn rfl) rfl F rfl (sequence_after_ok (fr := (fl [c14, [bx b7 #[.bool y3.Delete, .i6 y3.Replica, .i6 y3.Counter, .i6 y3.AfterReplica, .i6 y3.AfterCounter, .string y3.Line] 30], [bx b4 #[v2] 58], [bx b3 #[v1] 57], [bx b1 #[.i6 0, .i6 0] 25], c7, c8] fr)) y3 S hy7) rfl tc16 rfl rfl ?_; clear F a S
          rintro _ a w ⟨g8, l8, S, rfl⟩ F; replace S : St g8 [c14, [bx b7 #[.bool y3.Delete, .i6 y3.Replica, .i6 y3.Counter, .i6 y3.AfterReplica, .i6 y3.AfterCounter, .string y3.Line] 30], [bx b4 #[v2] 58], [bx b3 #[v1] 57], [bx b1 #[.i6 0, .i6 0] 25], c7, c8] fr w := S
          refine dv_nx ⟨yl_ev rfl rfl (ev_load1 tu58 rfl rfl (box_ptr (cells := [v2]) 2 rfl 0 rfl (lb rfl))) F S, yl_ev rfl rfl (ev_load1 tu58 rfl rfl (box_ptr (cells := [v2]) 2 rfl 0 rfl (lb rfl))) F S, trivial⟩ ?_
          refine dv_op ok3 6 rfl [(0, v2)] ?_
          replace S : St g8 [c7, c14, [bx b7 #[.bool y3.Delete, .i6 y3.Replica, .i6 y3.Counter, .i6 y3.AfterReplica, .i6 y3.AfterCounter, .string y3.Line] 30], [bx b4 #[v2] 58], [bx b3 #[v1] 57], [bx b1 #[.i6 0, .i6 0] 25], c8] fr w := (((((((S.frontC 6 rfl).frontC 5 rfl).frontC 5 rfl).frontC 5 rfl).frontC 5 rfl).frontC 5 rfl).frontC 11 rfl)
          obtain ⟨v10, c12, c13, h12, h13, hL1, hP1⟩ := OwnR.look (h7.mono (l7.trans l8)) hy8
          replace S : St g8 [c12, c13, c14, [bx b7 #[.bool y3.Delete, .i6 y3.Replica, .i6 y3.Counter, .i6 y3.AfterReplica, .i6 y3.AfterCounter, .string y3.Line] 30], [bx b4 #[v2] 58], [bx b3 #[v1] 57], [bx b1 #[.i6 0, .i6 0] 25], c8] fr w := St.splitM hP1 S
          refine wE (ev_lookR hL1 tk60 tu58 tz28 rfl (k := (y7.counter, y7.replica)) rfl 1 rfl) F S rfl fun a F=>?_
          refine dv_nx ⟨yl_ev rfl rfl (ev_load1 tu58 rfl rfl (box_ptr (cells := [v2]) 4 rfl 0 rfl (lb rfl))) F S, trivial⟩ ?_
          refine dv_join (HJ _ _ ?_)
          replace S : St g8 [c14, c12, c13, [bx b4 #[v2] 58], [bx b3 #[v1] 57], [bx b1 #[.i6 0, .i6 0] 25], c8] fr w := St.tail [c14, c12, c13, [bx b4 #[v2] 58], [bx b3 #[v1] 57], [bx b1 #[.i6 0, .i6 0] 25], c8] _ (((((((S.frontC 7 rfl).frontC 7 rfl).frontC 7 rfl).frontC 7 rfl).frontC 5 rfl).frontC 5 rfl).frontC 8 rfl)
          exact ⟨([y3] : List SeqOp), (deadM x4 (y7.counter, y7.replica)), v11, v10, c14, c12, c13, g8, F.sub ⟨rfl, rfl, rfl, rfl, rfl, rfl, rfl, rfl, rfl, rfl, trivial⟩, (l7.trans l8), S, (h14.mono l8), h12, h13, hm⟩
        ·refine wl_lit (l := ([y3] : List SeqOp)) (vs := [.agg #[.bool y3.Delete, .i6 y3.Replica, .i6 y3.Counter, .i6 y3.AfterReplica, .i6 y3.AfterCounter, .string y3.Line]]) (parts := [(0, .tmp 37)]) (wn rfl) rfl rfl rfl tu28 te30 (sz_cons rfl sz_nil) rfl (Cat.cons (rep_SeqOp_mk (x := y3) ) (Cat.nil _)) (coa_cons rfl coa_nil) rfl F S rfl rfl ?_; clear F a S
         rintro v11 c14 a w h14 F S
         refine dv_nx ⟨yl_ev rfl rfl (ev_loadA tu30 rfl (cs := [.bool y3.Delete, .i6 y3.Replica, .i6 y3.Counter, .i6 y3.AfterReplica, .i6 y3.AfterCounter, .string y3.Line]) ts30 rfl (box_ptr (cells := [.bool y3.Delete, .i6 y3.Replica, .i6 y3.Counter, .i6 y3.AfterReplica, .i6 y3.AfterCounter, .string y3.Line]) 1 rfl 0 rfl (lb rfl))) F S, yl_ev rfl rfl (ev_load1 tu58 rfl rfl (box_ptr (cells := [v2]) 2 rfl 0 rfl (lb rfl))) F S, yl_ev rfl rfl (ev_loadA tu30 rfl (cs := [.bool y3.Delete, .i6 y3.Replica, .i6 y3.Counter, .i6 y3.AfterReplica, .i6 y3.AfterCounter, .string y3.Line]) ts30 rfl (box_ptr (cells := [.bool y3.Delete, .i6 y3.Replica, .i6 y3.Counter, .i6 y3.AfterReplica, .i6 y3.AfterCounter, .string y3.Line]) 1 rfl 0 rfl (lb rfl))) F S, yl_ev rfl rfl (ev_load1 tu58 rfl rfl (box_ptr (cells := [v2]) 2 rfl 0 rfl (lb rfl))) F S, trivial⟩ ?_
         refine dv_op ok3 2 rfl [(4, .agg #[.bool y3.Delete, .i6 y3.Replica, .i6 y3.Counter, .i6 y3.AfterReplica, .i6 y3.AfterCounter, .string y3.Line]), (3, v2), (0, v2)] ?_
         refine wl_call0 (wn rfl) rfl F rfl (sequence_after_ok (fr := (fl [c14, [bx b7 #[.bool y3.Delete, .i6 y3.Replica, .i6 y3.Counter, .i6 y3.AfterReplica, .i6 y3.AfterCounter, .string y3.Line] 30], [bx b4 #[v2] 58], [bx b3 #[v1] 57], [bx b1 #[.i6 0, .i6 0] 25], c7, c8] fr)) y3 S hy6) rfl tc16 rfl rfl ?_; clear F a S
         rintro _ a w ⟨g7, l7, S, rfl⟩ F; replace S : St g7 [c14, [bx b7 #[.bool y3.Delete, .i6 y3.Replica, .i6 y3.Counter, .i6 y3.AfterReplica, .i6 y3.AfterCounter, .string y3.Line] 30], [bx b4 #[v2] 58], [bx b3 #[v1] 57], [bx b1 #[.i6 0, .i6 0] 25], c7, c8] fr w := S
         refine dv_nx ⟨yl_ev rfl rfl (ev_loadA tu30 rfl (cs := [.bool y3.Delete, .i6 y3.Replica, .i6 y3.Counter, .i6 y3.AfterReplica, .i6 y3.AfterCounter, .string y3.Line]) ts30 rfl (box_ptr (cells := [.bool y3.Delete, .i6 y3.Replica, .i6 y3.Counter, .i6 y3.AfterReplica, .i6 y3.AfterCounter, .string y3.Line]) 1 rfl 0 rfl (lb rfl))) F S, yl_ev rfl rfl (ev_load1 tu58 rfl rfl (box_ptr (cells := [v2]) 2 rfl 0 rfl (lb rfl))) F S, yl_ev rfl rfl (ev_load1 tu58 rfl rfl (box_ptr (cells := [v2]) 2 rfl 0 rfl (lb rfl))) F S, trivial⟩ ?_
         refine dv_op ok3 5 rfl [(3, v2), (0, v2)] ?_
         refine wl_call0 (wn rfl) rfl F rfl (sequence_after_ok (fr := (fl [c14, [bx b7 #[.bool y3.Delete, .i6 y3.Replica, .i6 y3.Counter, .i6 y3.AfterReplica, .i6 y3.AfterCounter, .string y3.Line] 30], [bx b4 #[v2] 58], [bx b3 #[v1] 57], [bx b1 #[.i6 0, .i6 0] 25], c7, c8] fr)) y3 S hy7) rfl tc16 rfl rfl ?_; clear F a S
         rintro _ a w ⟨g8, l8, S, rfl⟩ F; replace S : St g8 [c14, [bx b7 #[.bool y3.Delete, .i6 y3.Replica, .i6 y3.Counter, .i6 y3.AfterReplica, .i6 y3.AfterCounter, .string y3.Line] 30], [bx b4 #[v2] 58], [bx b3 #[v1] 57], [bx b1 #[.i6 0, .i6 0] 25], c7, c8] fr w := S
         refine dv_nx ⟨yl_ev rfl rfl (ev_load1 tu58 rfl rfl (box_ptr (cells := [v2]) 2 rfl 0 rfl (lb rfl))) F S, yl_ev rfl rfl (ev_load1 tu58 rfl rfl (box_ptr (cells := [v2]) 2 rfl 0 rfl (lb rfl))) F S, trivial⟩ ?_
         refine dv_op ok3 6 rfl [(0, v2)] ?_
         replace S : St g8 [c7, c14, [bx b7 #[.bool y3.Delete, .i6 y3.Replica, .i6 y3.Counter, .i6 y3.AfterReplica, .i6 y3.AfterCounter, .string y3.Line] 30], [bx b4 #[v2] 58], [bx b3 #[v1] 57], [bx b1 #[.i6 0, .i6 0] 25], c8] fr w := (((((((S.frontC 6 rfl).frontC 5 rfl).frontC 5 rfl).frontC 5 rfl).frontC 5 rfl).frontC 5 rfl).frontC 11 rfl)
         obtain ⟨v10, c12, c13, h12, h13, hL1, hP1⟩ := OwnR.look (h7.mono (l7.trans l8)) hy8
         replace S : St g8 [c12, c13, c14, [bx b7 #[.bool y3.Delete, .i6 y3.Replica, .i6 y3.Counter, .i6 y3.AfterReplica, .i6 y3.AfterCounter, .string y3.Line] 30], [bx b4 #[v2] 58], [bx b3 #[v1] 57], [bx b1 #[.i6 0, .i6 0] 25], c8] fr w := St.splitM hP1 S
         refine wE (ev_lookR hL1 tk60 tu58 tz28 rfl (k := (y7.counter, y7.replica)) rfl 1 rfl) F S rfl fun a F=>?_
         refine dv_nx ⟨yl_ev rfl rfl (ev_load1 tu58 rfl rfl (box_ptr (cells := [v2]) 4 rfl 0 rfl (lb rfl))) F S, trivial⟩ ?_
         refine dv_join (HJ _ _ ?_)
         replace S : St g8 [c14, c12, c13, [bx b4 #[v2] 58], [bx b3 #[v1] 57], [bx b1 #[.i6 0, .i6 0] 25], c8] fr w := St.tail [c14, c12, c13, [bx b4 #[v2] 58], [bx b3 #[v1] 57], [bx b1 #[.i6 0, .i6 0] 25], c8] _ (((((((S.frontC 7 rfl).frontC 7 rfl).frontC 7 rfl).frontC 7 rfl).frontC 5 rfl).frontC 5 rfl).frontC 8 rfl)
         exact ⟨([y3] : List SeqOp), (deadM x4 (y7.counter, y7.replica)), v11, v10, c14, c12, c13, g8, F.sub ⟨rfl, rfl, rfl, rfl, rfl, rfl, rfl, rfl, rfl, rfl, trivial⟩, (l7.trans l8), S, (h14.mono (l7.trans l8)), h12, h13, hm⟩
       ·clear F S hm; rintro a w ⟨x9, x11, v12, v13, c15, c16, c17, g9, F, l9, S, h15, h16, h17, hm⟩
        refine dv_op ok3 9 rfl [(0, v2)] ?_
        obtain ⟨cs2, hk1, hr3⟩ := OwnS.reads h15
        obtain ⟨y9, hy9, hm⟩ := bind_some hm
        refine wl_append (wn rfl) rfl tu28 tu28 te30 (by decide) (by decide) F S rfl rfl (k := 1) rfl h16 hk1 rfl (hr3 _ _ _ 0 rfl S) hy9 rfl rfl ?_; clear F a S
        rintro v15 c18 a w h18 S F; replace S : St g9 [c15, c18, c17, [bx b4 #[v2] 58], [bx b3 #[v1] 57], [bx b1 #[.i6 0, .i6 0] 25], c8] fr w := S
        refine dv_nx ⟨yl_ev rfl rfl (ev_load1 tu58 rfl rfl (box_ptr (cells := [v2]) 3 rfl 0 rfl (lb rfl))) F S, trivial⟩ ?_
        refine dv_op ok3 10 rfl [] ?_
        replace S : St g9 [c17, c18, c15, [bx b4 #[v2] 58], [bx b3 #[v1] 57], [bx b1 #[.i6 0, .i6 0] 25], c8] fr w := (((((((S.frontC 6 rfl).frontC 6 rfl).frontC 6 rfl).frontC 6 rfl).frontC 4 rfl).frontC 6 rfl).frontC 8 rfl)
        refine wl_updR h17 h18 tk60 tu58 (wn rfl) rfl F S rfl (k := (y6.counter, y6.replica)) rfl rfl rfl ?_; clear S
        rintro c19 w h19 S; replace S : St g9 [c19, c15, [bx b4 #[v2] 58], [bx b3 #[v1] 57], [bx b1 #[.i6 0, .i6 0] 25], c8] fr w := S
        obtain ⟨y10, hy10, hm⟩ := bind_some hm
        replace h19 : OwnR g9 y10 v2 c19 := sinj hy10 ▸ h19
        refine dv_nx trivial ?_
        refine dv_fin ok3 ?_
        refine inb_n ?_
        refine then_n ?_
        replace S : St g9 [[bx b4 #[v2] 58], [bx b3 #[v1] 57], [bx b1 #[.i6 0, .i6 0] 25], c19, c8] fr w := St.tail [[bx b4 #[v2] 58], [bx b3 #[v1] 57], [bx b1 #[.i6 0, .i6 0] 25], c19, c8] _ (((((S.frontC 5 rfl).frontC 1 rfl).frontC 6 rfl).frontC 6 rfl).frontC 6 rfl)
        exact ⟨y10, x5, c19, c8, g9, F.sub ⟨rfl, rfl, rfl, rfl, rfl, rfl, trivial⟩, l9, S, h19, (h8.mono l9), hm⟩
     ·clear F S hm; rintro a w ⟨x7, x8, c9, c10, g5, F, l5, S, h9, h10, hm⟩
      refine wp_region_lit ?_
      obtain ⟨z1, hz1, hm⟩ := bind_some hm
      refine wE (ev_int rfl rfl (bo_add hz1)) F S rfl fun a F=>?_
      refine wE (ev_move rfl) F S rfl fun a F=>?_
      refine wpList_nil ?_
      refine then_n ?_
      obtain rfl := sinj hm
      refine ⟨_, rfl, ?_⟩
      dsimp only
      exact ⟨c9, c10, g5, F.sub ⟨rfl, rfl, rfl, rfl, rfl, rfl, trivial⟩, (l4.trans l5), S, h9, h10⟩
    ·refine wp_condF F rfl hc2 ?_
     refine wp_exit ?_
     refine then_e ?_
     refine then_e ?_
     refine inb_x ?_
     refine then_n ?_
     obtain rfl := sinj hm
     obtain rfl := hfin1 _ rfl
     clear hm
     have hm : (sequence_Visible.j1 x4 x5 : Option ((List ByteArray) × Fault)) = some _ := hmo1
     exact ⟨x4, x5, c7, c8, g4, F.sub ⟨rfl, rfl, rfl, trivial⟩, l4, S, h7, h8, hm⟩
  ·clear F S hm; rintro a w ⟨x1, x2, c3, c4, g2, F, l2, S, h3, h4, hm⟩
   refine wp_seq ?_
   refine wp_region_lit ?_
   refine wl_alloc (wn rfl) rfl tz22 (cs := [nilS]) rfl F S rfl rfl ?_; clear F a S; rintro b5 a w F S
   refine wpList_nil ?_
   refine then_n ?_
   refine wp_seq ?_
   refine wp_region_lit ?_
   refine wl_alloc (wn rfl) rfl tz62 (cs := [.nilFunc]) rfl F S rfl rfl ?_; clear F a S; rintro b6 a w F S
   refine wpList_nil ?_
   refine then_n ?_
   refine wp_seq ?_
   refine wp_region_lit ?_
   refine wE (ev_makeFunc (xs := [.tmp 6, .tmp 5, .tmp 9, .tmp 10]) (vs := [bp b4 0, bp b3 0, bp b5 0, bp b6 0]) rfl) F S rfl fun a F=>?_
   refine wl_storeC (wn rfl) rfl F S rfl rfl (vs := [.func (.func 17) #[] #[bp b4 0, bp b3 0, bp b5 0, bp b6 0]]) rfl ts62 (one_cons rfl one_nil) (k := 0) rfl (lb rfl) (c' := #[.func (.func 17) #[] #[bp b4 0, bp b3 0, bp b5 0, bp b6 0]]) rfl rfl ?_; clear S; intro w S
   refine wpList_nil ?_
   refine then_n ?_
   refine wp_seq ?_
   refine wp_region_lit ?_
   refine wE (ev_load1 tu62 rfl rfl (box_ptr (cells := [.func (.func 17) #[] #[bp b4 0, bp b3 0, bp b5 0, bp b6 0]]) 0 rfl 0 rfl (lb rfl))) F S rfl fun a F=>?_
   refine wE (ev_build (parts := []) (vs := []) rfl (fun w => tb60_  w)) F S rfl fun a F=>?_
   replace S : St g2 [[], [(b6, .cells #[.func (.func 17) #[] #[bp b4 0, bp b3 0, bp b5 0, bp b6 0]] 62 (0, 0))], [bx b5 #[nilS] 22], [bx b4 #[v2] 58], [bx b3 #[v1] 57], [bx b1 #[.i6 0, .i6 0] 25], c3, c4] fr w := S
   replace S : St g2 [[bx b4 #[v2] 58], c3, [bx b3 #[v1] 57], c4, [bx b5 #[nilS] 22], [], [(b6, .cells #[.func (.func 17) #[] #[bp b4 0, bp b3 0, bp b5 0, bp b6 0]] 62 (0, 0))], [bx b1 #[.i6 0, .i6 0] 25]] fr w := ((((((((S.frontC 5 rfl).frontC 2 rfl).frontC 2 rfl).frontC 5 rfl).frontC 11 rfl).frontC 9 rfl).frontC 12 rfl).frontC 10 rfl)
   obtain ⟨y2, hy2, hm⟩ := bind_some hm
   refine wl_call (wn rfl) rfl (xs := [.tmp 43]) (vs := [.agg #[.i6 0, .i6 0]]) (cap := [bp b4 0, bp b3 0, bp b5 0, bp b6 0]) F rfl rfl tc17 (sequence_Visible_s1_ok (g := g2) (fr := (fl [[bx b1 #[.i6 0, .i6 0] 25]] fr)) (w := w) ({ counter := 0, replica := 0 } : Element_sequence) b4 x1 v2 c3 h3 b3 x2 v1 c4 h4 b5 [] (nilS) [] (OwnS.nil _) b6 S hy2) rfl rfl ?_; clear F a S
   rintro _ a w ⟨g3, v5, c5, c6, l3, S, h5, h6, rfl⟩ F; replace S : St g3 [[bx b4 #[v2] 58], c5, [bx b3 #[v1] 57], c4, [bx b5 #[v5] 22], c6, [(b6, .cells #[.func (.func 17) #[] #[bp b4 0, bp b3 0, bp b5 0, bp b6 0]] 62 (0, 0))], [bx b1 #[.i6 0, .i6 0] 25]] fr w := S
   refine wpList_nil ?_
   refine then_n ?_
   refine wp_seq ?_
   refine wp_region_lit ?_
   refine wE (ev_load1 tu22 rfl rfl (box_ptr (cells := [v5]) 4 rfl 0 rfl (lb rfl))) F S rfl fun a F=>?_
   refine wE (ev_build (parts := []) (vs := []) rfl (fun w => tb25_  w)) F S rfl fun a F=>?_
   refine wE (ev_assign rfl) F S rfl fun a F=>?_
   refine wl_storeC (wn rfl) rfl F S rfl rfl (vs := [.i6 0, .i6 0]) rfl ts25 (one_cons rfl (one_cons rfl one_nil)) (k := 7) rfl (lb rfl) (c' := #[.i6 0, .i6 0]) rfl rfl ?_; clear S; intro w S
   refine wpList_nil ?_
   refine then_n ?_
   refine wp_ret ?_
   obtain rfl := sinj hm
   refine post_r _ F rfl (ar_cons (resT rfl) (ar_cons (resA rfl tu25 rfl (box_ptr (cells := [.i6 0, .i6 0]) 7 rfl 0 rfl (lb rfl) w S) ts25) ar_nil)) ?_
   replace S : St g3 [c6] fr w := St.tail [c6] _ (S.frontC 5 rfl)
   exact ⟨_, rfl, g3, v5, c6, ((l1.trans l2).trans l3), S, h6, rfl⟩

theorem digest_mul_ok {g : Gh} {fr : Hl} {w : World} {r : Int} (a_ : Int) (b_ : Int) (S : St g [] fr w) (hm : digest_mul a_ b_ = some r) :
  Calls Tryd.prog 61 [.i6 a_, .i6 b_].toArray w (fun en w' => ∃ v, en = .returned v ∧ ∃ (g' : Gh), Le g g' ∧ St g' [] fr w' ∧ .i6 r = v) := by
 unfold digest_mul at hm
 refine calls_enter (fn := Tryd.f61) Tryd.func61 rfl Tryd.ntmps61 (lb rfl) ?_
 intro a F
 replace F : Fr 21 a [(0, .i6 a_), (1, .i6 b_)] := F
 refine wp_seq ?_
 refine wp_region_lit ?_
 refine wE (ev_assign rfl) F S rfl fun a F=>?_
 refine wpList_nil ?_
 refine then_n ?_
 refine wp_seq ?_
 refine wp_region_lit ?_
 refine wE (ev_assign rfl) F S rfl fun a F=>?_
 refine wpList_nil ?_
 refine then_n ?_
 refine wp_cut (fun a w => ∃ (x1 : Int) (g1 : Gh), Fr 21 a [(5, .i6 x1)] ∧ Le g g1 ∧ St g1 [] fr w ∧ digest_mul.j1 x1 = some r) ?_ ?_
 ·refine wp_block ?_
  obtain ⟨r1, hr1, hm⟩ := bind_some hm
  have hmo1 := hm; clear hm
  refine wp_iter (σ := Int × Int × Int) (ρ := Int) (m := fun s => digest_mul.l1 s.1 s.2.1 s.2.2) (I := fun s a w => match s with | (x2, x3, x4) => ∃ (g2 : Gh), Fr 21 a [(5, .i6 x2), (0, .i6 x3), (1, .i6 x4)] ∧ Le g g2 ∧ St g2 [] fr w) hr1 ?_ ?_
  ·dsimp only
   exact ⟨g, F.sub ⟨rfl, rfl, rfl, trivial⟩, (Le.refl _), S⟩
  ·clear F S; rintro ⟨x2, x3, x4⟩ a w x5 ⟨g2, F, l2, S⟩ hx1 hfin1
   have hm : digest_mul.l1 x2 x3 x4 = some x5 := hx1; clear hx1
   unfold digest_mul.l1 at hm
   refine wp_seq ?_
   refine wp_seq ?_
   refine wp_region_lit ?_
   refine wE (ev_move rfl) F S rfl fun a F=>?_
   refine wE (ev_int rfl rfl (bo_gtr _ _ _ _)) F S rfl fun a F=>?_
   refine wpList_nil ?_
   refine then_n ?_
   obtain ⟨hc1, hm⟩ | ⟨hc1, hm⟩ := ite_or hm
   ·refine wp_condT F rfl hc1 ?_
    refine wp_skip ?_
    refine then_n ?_
    refine wp_seq ?_
    refine wp_block ?_
    refine wp_cut (fun a w => ∃ (x6 : Int) (g3 : Gh), Fr 21 a [(5, .i6 x6), (0, .i6 x3), (1, .i6 x4)] ∧ Le g2 g3 ∧ St g3 [] fr w ∧ digest_mul.j2 x3 x4 x6 = some x5) ?_ ?_
    ·refine wp_seq ?_
     refine wp_region_lit ?_
     refine wE (ev_move rfl) F S rfl fun a F=>?_
     refine wE (ev_int rfl rfl (bo_and _ _ _ _)) F S rfl fun a F=>?_
     refine wE (ev_int rfl rfl (bo_eql _ _ _ _)) F S rfl fun a F=>?_
     refine wpList_nil ?_
     refine then_n ?_
     obtain ⟨hc2, hm⟩ | ⟨hc2, hm⟩ := ite_or hm
     ·refine wp_condT F rfl hc2 ?_
      refine wp_region_lit ?_
      refine wE (ev_move rfl) F S rfl fun a F=>?_
      refine wE (ev_move rfl) F S rfl fun a F=>?_
      obtain ⟨z4, hz4, hm⟩ := bind_some hm
      refine wE (ev_int rfl rfl (bo_add hz4)) F S rfl fun a F=>?_
      obtain ⟨z5, hz5, hm⟩ := bind_some hm
      refine wE (ev_int rfl rfl (bo_rem hz5)) F S rfl fun a F=>?_
      refine wE (ev_assign rfl) F S rfl fun a F=>?_
      refine wpList_nil ?_
      refine then_n ?_
      exact ⟨z5, g2, F.sub ⟨rfl, rfl, rfl, trivial⟩, (Le.refl _), S, hm⟩
     ·refine wp_condF F rfl hc2 ?_
      refine wp_skip ?_
      refine then_n ?_
      exact ⟨x2, g2, F.sub ⟨rfl, rfl, rfl, trivial⟩, (Le.refl _), S, hm⟩
    ·clear F S hm; rintro a w ⟨x6, g3, F, l3, S, hm⟩
     refine wp_region_lit ?_
     refine wE (ev_move rfl) F S rfl fun a F=>?_
     obtain ⟨z1, hz1, hm⟩ := bind_some hm
     refine wE (ev_int rfl rfl (bo_mul hz1)) F S rfl fun a F=>?_
     obtain ⟨z2, hz2, hm⟩ := bind_some hm
     refine wE (ev_int rfl rfl (bo_rem hz2)) F S rfl fun a F=>?_
     refine wE (ev_assign rfl) F S rfl fun a F=>?_
     refine wpList_nil ?_
     refine inb_n ?_
     refine then_n ?_
     refine wp_region_lit ?_
     refine wE (ev_move rfl) F S rfl fun a F=>?_
     obtain ⟨z3, hz3, hm⟩ := bind_some hm
     refine wE (ev_shr hz3 rfl rfl) F S rfl fun a F=>?_
     refine wE (ev_assign rfl) F S rfl fun a F=>?_
     refine wpList_nil ?_
     refine then_n ?_
     obtain rfl := sinj hm
     refine ⟨_, rfl, ?_⟩
     dsimp only
     exact ⟨g3, F.sub ⟨rfl, rfl, rfl, trivial⟩, (l2.trans l3), S⟩
   ·refine wp_condF F rfl hc1 ?_
    refine wp_exit ?_
    refine then_e ?_
    refine then_e ?_
    refine inb_x ?_
    refine then_n ?_
    obtain rfl := sinj hm
    obtain rfl := hfin1 _ rfl
    clear hm
    have hm : (digest_mul.j1 x2 : Option Int) = some _ := hmo1
    exact ⟨x2, g2, F.sub ⟨rfl, trivial⟩, l2, S, hm⟩
 ·clear F S hm; rintro a w ⟨x1, g1, F, l1, S, hm⟩
  refine wp_seq ?_
  refine wp_region_lit ?_
  refine wE (ev_move rfl) F S rfl fun a F=>?_
  refine wE (ev_assign rfl) F S rfl fun a F=>?_
  refine wpList_nil ?_
  refine then_n ?_
  refine wp_ret ?_
  obtain rfl := sinj hm
  refine post_r _ F rfl (ar_cons (resT rfl) ar_nil) ?_
  exact ⟨_, rfl, g1, l1, S, rfl⟩

theorem digest_next_ok {g : Gh} {fr : Hl} {w : World} {r : Int} (s_ : Step_digest) (factor : Int) (S : St g [] fr w) (hm : digest_next s_ factor = some r) :
  Calls Tryd.prog 37 [.agg #[.i6 s_.e0, .i6 s_.e1], .i6 factor].toArray w (fun en w' => ∃ v, en = .returned v ∧ ∃ (g' : Gh), Le g g' ∧ St g' [] fr w' ∧ .i6 r = v) := by
 unfold digest_next at hm
 refine calls_enter (fn := Tryd.f37) Tryd.func37 rfl Tryd.ntmps37 (lb rfl) ?_
 intro a F
 replace F : Fr 13 a [(0, .agg #[.i6 s_.e0, .i6 s_.e1]), (1, .i6 factor)] := F
 refine wp_seq ?_
 refine wp_region_lit ?_
 refine wl_boxC (wn rfl) rfl rfl rfl F S rfl rfl ?_; clear F a S; rintro b1 a w F S
 refine wE (ev_assign rfl) F S rfl fun a F=>?_
 refine wpList_nil ?_
 refine then_n ?_
 refine wp_seq ?_
 refine wp_quiet mo (by kernel_rfl) S ?_
 refine wq_ev (wn rfl) (ev_idxBox tu87 ts3 (by decide) (off' := 0) rfl rfl rfl) F rfl rfl ?_; clear F a; intro a F
 refine wq_ev (wn rfl) (ev_load1 tu3 rfl rfl (box_ptr (cells := [.i6 s_.e0]) 0 rfl 0 rfl (lb rfl))) F rfl rfl ?_; clear F a; intro a F
 refine wq_ev (wn rfl) (ev_move rfl) F rfl rfl ?_; clear F a; intro a F
 obtain ⟨y1, hy1, hm⟩ := bind_some hm
 refine wq_call (wn rfl) rfl (xs := [.tmp 6, .tmp 7]) (vs := [.i6 s_.e0, .i6 factor]) (cap := []) F rfl rfl tc61 (v := .i6 y1) (fun w S => (digest_mul_ok (g := g) (fr := (fl [[bx b1 #[.i6 s_.e0, .i6 s_.e1] 87]] fr)) (w := w) s_.e0 factor S hy1).mono (by rintro en w' ⟨_, rfl, g2, l2, S2, rfl⟩; exact ⟨rfl, S2.weak l2⟩)) rfl rfl ?_; clear F a; intro a F
 refine wq_ev (wn rfl) (ev_idxBox tu87 ts3 (by decide) (off' := 1) rfl rfl rfl) F rfl rfl ?_; clear F a; intro a F
 refine wq_ev (wn rfl) (ev_load1 tu3 rfl rfl (box_ptr (cells := [.i6 s_.e1]) 0 rfl 1 rfl (lb rfl))) F rfl rfl ?_; clear F a; intro a F
 obtain ⟨z1, hz1, hm⟩ := bind_some hm
 refine wq_ev (wn rfl) (ev_int rfl rfl (bo_add hz1)) F rfl rfl ?_; clear F a; intro a F
 obtain ⟨z2, hz2, hm⟩ := bind_some hm
 refine wq_ev (wn rfl) (ev_int rfl rfl (bo_rem hz2)) F rfl rfl ?_; clear F a; intro a F
 refine wq_ev (wn rfl) (ev_assign rfl) F rfl rfl ?_; clear F a; intro a F
 refine wq_nil ?_; clear S; intro w S
 refine then_n ?_
 refine wp_ret ?_
 obtain rfl := sinj hm
 refine post_r _ F rfl (ar_cons (resT rfl) ar_nil) ?_
 replace S : St g [] fr w := St.tail [] _ S
 exact ⟨_, rfl, g, (Le.refl _), S, rfl⟩

theorem digest_Of_ok {g : Gh} {fr : Hl} {w : World} {r : Int × Fault} (data : (List UInt8)) (vdata1 : Value) (hdata1 : RepSl g data vdata1) (S : St g [] fr w) (hm : digest_Of data = some r) :
  Calls Tryd.prog 21 [vdata1].toArray w (fun en w' => ∃ v, en = .returned v ∧ ∃ (g' : Gh), Le g g' ∧ St g' [] fr w' ∧ .tuple #[.i6 r.1, .agg #[.i6 r.2.Code, .i6 r.2.Index]] = v) := by
 unfold digest_Of at hm
 refine calls_enter (fn := Tryd.f21) Tryd.func21 rfl Tryd.ntmps21 (lb rfl) ?_
 intro a F
 replace F : Fr 26 a [(0, vdata1)] := F
 refine wp_seq ?_
 refine wp_region_lit ?_
 refine wE (ev_assign rfl) F S rfl fun a F=>?_
 refine wl_alloc (wn rfl) rfl tz25 (cs := [.i6 0, .i6 0]) rfl F S rfl rfl ?_; clear F a S; rintro b1 a w F S
 refine wpList_nil ?_
 refine then_n ?_
 refine wp_seq ?_
 refine wp_seq ?_
 refine wp_region_lit ?_
 refine wE (ev_move rfl) F S rfl fun a F=>?_
 refine wE (ev_lenSh hdata1 rfl tu67) F S rfl fun a F=>?_
 refine wE (ev_int rfl rfl (bo_gtr _ _ _ _)) F S rfl fun a F=>?_
 refine wpList_nil ?_
 refine then_n ?_
 obtain ⟨hc1, hm⟩ | ⟨hc1, hm⟩ := ite_or hm
 ·refine wp_condT F rfl hc1 ?_
  refine wp_seq ?_
  refine wp_region_lit ?_
  refine wE (ev_build (parts := [(0, .const (.i6 2))]) (vs := [(0, .i6 2)]) rfl (fun w => tb25_0 2 w)) F S rfl fun a F=>?_
  refine wE (ev_assign rfl) F S rfl fun a F=>?_
  refine wl_storeC (wn rfl) rfl F S rfl rfl (vs := [.i6 2, .i6 0]) rfl ts25 (one_cons rfl (one_cons rfl one_nil)) (k := 0) rfl (lb rfl) (c' := #[.i6 2, .i6 0]) rfl rfl ?_; clear S; intro w S
  refine wpList_nil ?_
  refine then_n ?_
  refine wp_ret ?_
  refine then_r ?_
  obtain rfl := sinj hm
  refine post_r _ F rfl (ar_cons (resT rfl) (ar_cons (resA rfl tu25 rfl (box_ptr (cells := [.i6 2, .i6 0]) 0 rfl 0 rfl (lb rfl) w S) ts25) ar_nil)) ?_
  replace S : St g [] fr w := St.tail [] _ S
  exact ⟨_, rfl, g, (Le.refl _), S, rfl⟩
 ·refine wp_condF F rfl hc1 ?_
  refine wp_skip ?_
  refine then_n ?_
  refine wp_seq ?_
  refine wp_region_lit ?_
  refine wE (ev_assign rfl) F S rfl fun a F=>?_
  refine wpList_nil ?_
  refine then_n ?_
  refine wp_cut (fun a w => ∃ (x1 : Int) (g1 : Gh), Fr 26 a [(4, .i6 x1), (3, bp b1 0)] ∧ Le g g1 ∧ St g1 [[bx b1 #[.i6 0, .i6 0] 25]] fr w ∧ digest_Of.j1 x1 = some r) ?_ ?_
  ·refine wp_seq ?_
   refine wp_region_lit ?_
   refine wE (ev_move rfl) F S rfl fun a F=>?_
   refine wE (ev_lenSh hdata1 rfl tu67) F S rfl fun a F=>?_
   refine wE (ev_move rfl) F S rfl fun a F=>?_
   refine wpList_nil ?_
   refine then_n ?_
   refine wp_block ?_
   obtain ⟨r1, hr1, hm⟩ := bind_some hm
   have hmo1 := hm; clear hm
   refine wp_iter (σ := Int × Int) (ρ := Int) (m := fun s => digest_Of.l1 data s.1 s.2) (I := fun s a w => match s with | (x2, x3) => ∃ (g2 : Gh), Fr 26 a [(13, .i6 x2), (12, .i6 (data.length : Int)), (11, vdata1), (4, .i6 x3), (3, bp b1 0)] ∧ Le g g2 ∧ St g2 [[bx b1 #[.i6 0, .i6 0] 25]] fr w) hr1 ?_ ?_
   ·dsimp only
    exact ⟨g, F.sub ⟨rfl, rfl, rfl, rfl, rfl, trivial⟩, (Le.refl _), S⟩
   ·clear F S; rintro ⟨x2, x3⟩ a w x4 ⟨g2, F, l2, S⟩ hx1 hfin1
    have hm : digest_Of.l1 data x2 x3 = some x4 := hx1; clear hx1
    unfold digest_Of.l1 at hm
    refine wp_seq ?_
    refine wp_region_lit ?_
    refine wE (ev_int rfl rfl (bo_lss _ _ _ _)) F S rfl fun a F=>?_
    refine wpList_nil ?_
    refine then_n ?_
    refine wp_seq ?_
    obtain ⟨hc2, hm⟩ | ⟨hc2, hm⟩ := ite_or hm
    ·refine wp_condT F rfl hc2 ?_
     refine wp_skip ?_
     refine then_n ?_
     refine wp_seq ?_
     refine wp_block ?_
     refine wp_seq ?_
     refine wp_region_lit ?_
     obtain ⟨y1, hy1, hm⟩ := bind_some hm
     obtain ⟨cs1, hr2, hp1⟩ := elemS (hdata1.mono l2) hy1
     obtain rfl := rep_u8 hr2
     refine wE (ev_idxS (hdata1.mono l2) hy1 tu67 ts5 rfl rfl) F S rfl fun a F=>?_
     refine wE (ev_load1 tu5 rfl rfl (ptr_mono (cks := [[bx b1 #[.i6 0, .i6 0] 25]]) (fr := fr) hp1 (Le.refl _))) F S rfl fun a F=>?_
     refine wE (ev_assign rfl) F S rfl fun a F=>?_
     refine wpList_nil ?_
     refine then_n ?_
     refine wp_region_lit ?_
     refine wE (ev_move rfl) F S rfl fun a F=>?_
     refine wE (ev_move rfl) F S rfl fun a F=>?_
     obtain ⟨z1, hz1, hm⟩ := bind_some hm
     refine wE (ev_conv hz1 tu5 tu3 rfl) F S rfl fun a F=>?_
     obtain ⟨z2, hz2, hm⟩ := bind_some hm
     refine wE (ev_int rfl rfl (bo_add hz2)) F S rfl fun a F=>?_
     refine wE (ev_build (parts := [(0, .tmp 17), (1, .tmp 20)]) (vs := [(0, .i6 x3), (1, .i6 z2)]) rfl (fun w => tb87_0_1 x3 z2 w)) F S rfl fun a F=>?_
     obtain ⟨y2, hy2, hm⟩ := bind_some hm
     refine wl_call0 (wn rfl) rfl F rfl (digest_next_ok (fr := (fl [[bx b1 #[.i6 0, .i6 0] 25]] fr)) ({ e0 := x3, e1 := z2 } : Step_digest) 257 S hy2) rfl tc37 rfl rfl ?_; clear F a S
     rintro _ a w ⟨g3, l3, S, rfl⟩ F; replace S : St g3 [[bx b1 #[.i6 0, .i6 0] 25]] fr w := S
     refine wE (ev_assign rfl) F S rfl fun a F=>?_
     refine wpList_nil ?_
     refine inb_n ?_
     refine then_n ?_
     refine wp_region_lit ?_
     obtain ⟨z3, hz3, hm⟩ := bind_some hm
     refine wE (ev_int rfl rfl (bo_add hz3)) F S rfl fun a F=>?_
     refine wE (ev_move rfl) F S rfl fun a F=>?_
     refine wpList_nil ?_
     refine then_n ?_
     obtain rfl := sinj hm
     refine ⟨_, rfl, ?_⟩
     dsimp only
     exact ⟨g3, F.sub ⟨rfl, rfl, rfl, rfl, rfl, trivial⟩, (l2.trans l3), S⟩
    ·refine wp_condF F rfl hc2 ?_
     refine wp_exit ?_
     refine then_e ?_
     refine then_e ?_
     refine inb_x ?_
     refine then_n ?_
     obtain rfl := sinj hm
     obtain rfl := hfin1 _ rfl
     clear hm
     have hm : (digest_Of.j1 x3 : Option (Int × Fault)) = some _ := hmo1
     exact ⟨x3, g2, F.sub ⟨rfl, rfl, trivial⟩, l2, S, hm⟩
  ·clear F S hm; rintro a w ⟨x1, g1, F, l1, S, hm⟩
   refine wp_seq ?_
   refine wp_region_lit ?_
   refine wE (ev_move rfl) F S rfl fun a F=>?_
   refine wE (ev_build (parts := []) (vs := []) rfl (fun w => tb25_  w)) F S rfl fun a F=>?_
   refine wE (ev_assign rfl) F S rfl fun a F=>?_
   refine wl_storeC (wn rfl) rfl F S rfl rfl (vs := [.i6 0, .i6 0]) rfl ts25 (one_cons rfl (one_cons rfl one_nil)) (k := 0) rfl (lb rfl) (c' := #[.i6 0, .i6 0]) rfl rfl ?_; clear S; intro w S
   refine wpList_nil ?_
   refine then_n ?_
   refine wp_ret ?_
   obtain rfl := sinj hm
   refine post_r _ F rfl (ar_cons (resT rfl) (ar_cons (resA rfl tu25 rfl (box_ptr (cells := [.i6 0, .i6 0]) 0 rfl 0 rfl (lb rfl) w S) ts25) ar_nil)) ?_
   replace S : St g1 [] fr w := St.tail [] _ S
   exact ⟨_, rfl, g1, l1, S, rfl⟩

theorem digest_pair_ok {g : Gh} {fr : Hl} {w : World} {r : Int} (a_ : Int) (b_ : Int) (S : St g [] fr w) (hm : digest_pair a_ b_ = some r) :
  Calls Tryd.prog 22 [.i6 a_, .i6 b_].toArray w (fun en w' => ∃ v, en = .returned v ∧ ∃ (g' : Gh), Le g g' ∧ St g' [] fr w' ∧ .i6 r = v) := by
 unfold digest_pair at hm
 refine calls_enter (fn := Tryd.f22) Tryd.func22 rfl Tryd.ntmps22 (lb rfl) ?_
 intro a F
 replace F : Fr 11 a [(0, .i6 a_), (1, .i6 b_)] := F
 refine wp_seq ?_
 refine wp_region_lit ?_
 refine wE (ev_assign rfl) F S rfl fun a F=>?_
 refine wpList_nil ?_
 refine then_n ?_
 refine wp_seq ?_
 refine wp_region_lit ?_
 refine wE (ev_move rfl) F S rfl fun a F=>?_
 refine wE (ev_move rfl) F S rfl fun a F=>?_
 refine wE (ev_build (parts := [(0, .tmp 6), (1, .const (.i6 7))]) (vs := [(0, .i6 b_), (1, .i6 7)]) rfl (fun w => tb87_0_1 b_ 7 w)) F S rfl fun a F=>?_
 obtain ⟨y1, hy1, hm⟩ := bind_some hm
 refine wl_call0 (wn rfl) rfl F rfl (digest_next_ok ({ e0 := b_, e1 := 7 } : Step_digest) 31 S hy1) rfl tc37 rfl rfl ?_; clear F a S
 rintro _ a w ⟨g1, l1, S, rfl⟩ F; replace S : St g1 [] fr w := S
 refine wE (ev_build (parts := [(0, .tmp 5), (1, .tmp 8)]) (vs := [(0, .i6 a_), (1, .i6 y1)]) rfl (fun w => tb87_0_1 a_ y1 w)) F S rfl fun a F=>?_
 obtain ⟨y2, hy2, hm⟩ := bind_some hm
 refine wl_call0 (wn rfl) rfl F rfl (digest_next_ok ({ e0 := a_, e1 := y1 } : Step_digest) 1000003 S hy2) rfl tc37 rfl rfl ?_; clear F a S
 rintro _ a w ⟨g2, l2, S, rfl⟩ F; replace S : St g2 [] fr w := S
 refine wE (ev_assign rfl) F S rfl fun a F=>?_
 refine wpList_nil ?_
 refine then_n ?_
 refine wp_ret ?_
 obtain rfl := sinj hm
 refine post_r _ F rfl (ar_cons (resT rfl) ar_nil) ?_
 exact ⟨_, rfl, g2, (l1.trans l2), S, rfl⟩
end Go.Dc
