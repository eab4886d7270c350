/- Walks: each function comes to what its model says. -/
import Derived.Test.YtigjmijbekhdgaaDcTab
import Derived.Test.YtigjmijbekhdgaaDcM
import Derived.Test.YtigjmijbekhdgaaDcW1
namespace Go.Dc
open Go Go.Proofs
set_option maxRecDepth 100000
set_option maxHeartbeats 4000000
set_option linter.unusedVariables false
theorem syntax_shape__add_ok {g : Gh} {fr : Hl} {w : World} {r : Bool × Shape_syntax} (bs_ : Nat) (s_ : Shape_syntax) (vs_1 : Value) (cs_1 : Hl) (hs_1 : OwnS g s_.starts vs_1 cs_1) (vs_2 : Value) (cs_2 : Hl) (hs_2 : OwnS g s_.depths vs_2 cs_2) (n_ : Node) (vn_1 : Value) (hn_1 : RepSl g n_.Children vn_1) (S : St g [[bx bs_ #[vs_1, vs_2] 53], cs_1, cs_2] fr w) (hm : syntax_shape__add s_ n_ = some r) :
  Calls Try.prog 28 [bp bs_ 0, .agg #[.string n_.Label, vn_1]].toArray w (fun en w' => ∃ v, en = .returned v ∧ ∃ (g' : Gh) (v1 v2 : Value) (c1 c2 : Hl), Le g g' ∧ St g' [[bx bs_ #[v1, v2] 53], c1, c2] fr w' ∧ OwnS g' r.2.starts v1 c1 ∧ OwnS g' r.2.depths v2 c2 ∧ .bool r.1 = v) := by
 unfold syntax_shape__add at hm
 refine calls_enterM (fn := Try.f28) Try.func28 rfl Try.ntmps28 (lb rfl) ?_
 intro a F
 replace F : Fr 66 a [(0, bp bs_ 0), (1, .agg #[.string n_.Label, vn_1])] := F
 refine wp_seq ?_
 refine wp_region_lit ?_
 refine wl_boxC (wn rfl) rfl rfl rfl F S rfl rfl ?_; clear F a S; rintro b1 a w F S
 refine wl_boxC (wn rfl) rfl rfl rfl F S rfl rfl ?_; clear F a S; rintro b2 a w F S
 refine wl_alloc (wn rfl) rfl tz4 (cs := [.bool false]) rfl F S rfl rfl ?_; clear F a S; rintro b3 a w F S
 refine wpList_nil ?_
 refine then_n ?_
 refine wp_seq ?_
 refine wp_region_lit ?_
 refine wE (ev_load1 tu68 rfl rfl (box_ptr (cells := [bp bs_ 0]) 2 rfl 0 rfl (lb rfl))) F S rfl fun a F=>?_
 refine wE (ev_nil rfl) F S rfl fun a F=>?_
 refine wE (ev_fieldAddr' tu53 tf53_0 (z := 0) ts38 rfl ⟨_, rfl⟩ rfl) F S rfl fun a F=>?_
 refine wE (ev_load1 tu38 rfl rfl (box_ptr (cells := [vs_1]) 3 rfl 0 rfl (lb rfl))) F S rfl fun a F=>?_
 refine wE (ev_lenOw hs_1 rfl tu38) F S rfl fun a F=>?_
 refine wE (ev_assign rfl) F S rfl fun a F=>?_
 refine wpList_nil ?_
 refine then_n ?_
 refine wp_seq ?_
 refine wp_region_lit ?_
 refine wE (ev_move rfl) F S rfl fun a F=>?_
 refine wl_alloc (wn rfl) rfl tz3 (cs := [.i6 0]) rfl F S rfl rfl ?_; clear F a S; rintro b4 a w F S
 refine wl_alloc (wn rfl) rfl tz3 (cs := [.i6 0]) rfl F S rfl rfl ?_; clear F a S; rintro b5 a w F S
 refine wl_storeC (wn rfl) rfl F S rfl rfl (vs := [.i6 (s_.starts.length : Int)]) rfl ts3 (one_cons rfl one_nil) (k := 1) rfl (lb rfl) (c' := #[.i6 (s_.starts.length : Int)]) rfl rfl ?_; clear S; intro w S
 refine wl_storeC (wn rfl) rfl F S rfl rfl (vs := [.i6 1]) rfl ts3 (one_cons rfl one_nil) (k := 0) rfl (lb rfl) (c' := #[.i6 1]) rfl rfl ?_; clear S; intro w S
 refine wpList_nil ?_
 refine then_n ?_
 refine wp_seq ?_
 refine wp_seq ?_
 refine wp_region_lit ?_
 refine wE (ev_fieldAddr' tu50 tf50_1 (z := 0) ts38 rfl ⟨_, rfl⟩ rfl) F S rfl fun a F=>?_
 refine wE (ev_load1 tu38 rfl rfl (box_ptr (cells := [vn_1]) 3 rfl 1 rfl (lb rfl))) F S rfl fun a F=>?_
 replace F := F.sub (e' := [(17, vn_1), (7, bp b5 0), (6, bp b4 0), (4, bp b3 0), (2, bp b1 0), (0, bp bs_ 0)]) ⟨rfl, rfl, rfl, rfl, rfl, rfl, trivial⟩
 refine wl_callK (wn rfl) rfl (xs := [.tmp 17]) (vs := [vn_1]) (cap := []) (e' := [(7, bp b5 0), (6, bp b4 0), (4, bp b3 0), (2, bp b1 0), (0, bp bs_ 0)]) ⟨rfl, rfl, rfl, rfl, rfl, trivial⟩ F rfl rfl tc36 rfl rfl (calls_enter (fn := Try.f36) Try.func36 rfl Try.ntmps36 (lb rfl) ?_); clear F a; intro a F
 replace F : Fr 4 a [(0, vn_1)] := F
 refine wp_seq ?_
 refine wp_region_lit ?_
 refine wl_boxC (wn rfl) rfl rfl (RepSl.cl hn_1) F S rfl rfl ?_; clear F a S; rintro b6 a w F S
 refine wE (ev_assign rfl) F S rfl fun a F=>?_
 refine wpList_nil ?_
 refine then_n ?_
 refine wp_seq ?_
 refine wp_region_lit ?_
 refine wE (ev_makeFunc (xs := [.tmp 1]) (vs := [bp b6 0]) rfl) F S rfl fun a F=>?_
 refine wE (ev_assign rfl) F S rfl fun a F=>?_
 refine wpList_nil ?_
 refine then_n ?_
 refine wp_ret ?_
 refine post_r _ F rfl (ar_cons (resT rfl) ar_nil) ?_
 refine ⟨_, rfl, ?_⟩; clear F a; intro a F
 replace F : Fr 66 a [(18, .func (.func 41) #[] #[bp b6 0]), (7, bp b5 0), (6, bp b4 0), (4, bp b3 0), (2, bp b1 0), (0, bp bs_ 0)] := F
 refine wpList_nil ?_
 refine then_n ?_
 refine wp_block ?_
 refine wp_range (ps := [19, 20]) (cap := [bp b6 0]) (e0 := [(7, bp b5 0), (6, bp b4 0), (4, bp b3 0), (2, bp b1 0), (0, bp bs_ 0)]) F ⟨rfl, rfl, rfl, rfl, rfl, trivial⟩ S rfl tc41 ?_; clear F S a; intro R1 l1 D1 w hR1 S
 replace S : St g [[(l1, .loop (R1 .ready Option.none))], [(D1, .deferred (some []))], [bx b6 #[vn_1] 38], [bx b5 #[.i6 1] 3], [bx b4 #[.i6 (s_.starts.length : Int)] 3], [bx b3 #[.bool false] 4], [bx b2 #[.string n_.Label, vn_1] 50], [bx b1 #[bp bs_ 0] 68], [bx bs_ #[vs_1, vs_2] 53], cs_1, cs_2] fr w := S
 refine calls_enter (fn := Try.f41) Try.func41 rfl Try.ntmps41 (lb rfl) ?_; intro a F
 replace F : Fr 19 a [(0, .func (.yield l1) #[] #[]), (1, bp b6 0)] := F
 refine wp_seq ?_
 refine wp_region_lit ?_
 refine wE (ev_load1 tu38 rfl rfl (box_ptr (cells := [vn_1]) 2 rfl 0 rfl (lb rfl))) F S rfl fun a F=>?_
 refine wE (ev_lenSh hn_1 rfl tu38) F S rfl fun a F=>?_
 obtain ⟨z1, hz1, hm⟩ := bind_some hm
 refine wE (ev_int rfl rfl (bo_sub hz1)) F S rfl fun a F=>?_
 refine wE (ev_assign rfl) F S rfl fun a F=>?_
 refine wpList_nil ?_
 refine then_n ?_
 refine wp_cut1 (fun a w => ∃ (x1 : Int) (x2 : Int) (g1 : Gh), Fr 19 a [] ∧ Le g g1 ∧ St g1 [[(l1, .loop (R1 .ready Option.none))], [(D1, .deferred (some []))], [bx b5 #[.i6 x1] 3], [bx b4 #[.i6 x2] 3], [bx b3 #[.bool false] 4], [bx b1 #[bp bs_ 0] 68], [bx bs_ #[vs_1, vs_2] 53], cs_1, cs_2] fr w ∧ syntax_shape__add.j1 s_ x1 x2 = some r) ?_ ?_
 ·refine wp_block ?_
  obtain ⟨r1, hr3, hm⟩ := bind_some hm
  have hmo1 := hm; clear hm
  refine wp_iter (σ := Int × Int × Int) (ρ := (Bool × Shape_syntax) ⊕ (Int × Int)) (m := fun s => syntax_shape__add.l1 s_ n_ s.1 s.2.1 s.2.2) (I := fun s a w => match s with | (x5, x6, x7) => ∃ (g3 : Gh), Fr 19 a [(3, .i6 x5), (0, .func (.yield l1) #[] #[]), (1, bp b6 0)] ∧ Le g g3 ∧ St g3 [[(l1, .loop (R1 .ready Option.none))], [(D1, .deferred (some []))], [bx b6 #[vn_1] 38], [bx b5 #[.i6 x6] 3], [bx b4 #[.i6 x7] 3], [bx b3 #[.bool false] 4], [bx b1 #[bp bs_ 0] 68], [bx bs_ #[vs_1, vs_2] 53], cs_1, cs_2] fr w) hr3 ?_ ?_
  ·dsimp only
   replace S : St g [[(l1, .loop (R1 .ready Option.none))], [(D1, .deferred (some []))], [bx b6 #[vn_1] 38], [bx b5 #[.i6 1] 3], [bx b4 #[.i6 (s_.starts.length : Int)] 3], [bx b3 #[.bool false] 4], [bx b1 #[bp bs_ 0] 68], [bx bs_ #[vs_1, vs_2] 53], cs_1, cs_2] fr w := St.tail [[(l1, .loop (R1 .ready Option.none))], [(D1, .deferred (some []))], [bx b6 #[vn_1] 38], [bx b5 #[.i6 1] 3], [bx b4 #[.i6 (s_.starts.length : Int)] 3], [bx b3 #[.bool false] 4], [bx b1 #[bp bs_ 0] 68], [bx bs_ #[vs_1, vs_2] 53], cs_1, cs_2] _ ((((((((((S.frontC 10 rfl).frontC 10 rfl).frontC 10 rfl).frontC 10 rfl).frontC 9 rfl).frontC 9 rfl).frontC 9 rfl).frontC 9 rfl).frontC 9 rfl).frontC 9 rfl)
   exact ⟨g, F.sub ⟨rfl, rfl, rfl, trivial⟩, (Le.refl _), S⟩
  ·clear F S; rintro ⟨x5, x6, x7⟩ a w x8 ⟨g3, F, l4, S⟩ hx1 hfin1
   have hm : syntax_shape__add.l1 s_ n_ x5 x6 x7 = some x8 := hx1; clear hx1
   unfold syntax_shape__add.l1 at hm
   refine wp_seq ?_
   refine wp_seq ?_
   refine wp_region_lit ?_
   refine wE (ev_move rfl) F S rfl fun a F=>?_
   refine wE (ev_int rfl rfl (bo_geq _ _ _ _)) F S rfl fun a F=>?_
   refine wpList_nil ?_
   refine then_n ?_
   obtain ⟨hc1, hm⟩ | ⟨hc1, hm⟩ := ite_or hm
   ·refine wp_condT F rfl hc1 ?_
    refine wp_skip ?_
    refine then_n ?_
    refine wp_seq ?_
    refine wp_block ?_
    refine wp_seq ?_
    refine wp_region_lit ?_
    refine wE (ev_move rfl) F S rfl fun a F=>?_
    refine wE (ev_move rfl) F S rfl fun a F=>?_
    refine wE (ev_load1 tu38 rfl rfl (box_ptr (cells := [vn_1]) 2 rfl 0 rfl (lb rfl))) F S rfl fun a F=>?_
    refine wE (ev_move rfl) F S rfl fun a F=>?_
    obtain ⟨y3, hy3, hm⟩ := bind_some hm
    obtain ⟨cs3, hr4, hp1⟩ := elemS (hn_1.mono l4) hy3
    obtain rfl := rep_int hr4
    refine wE (ev_idxS (hn_1.mono l4) hy3 tu38 ts3 rfl rfl) F S rfl fun a F=>?_
    refine wE (ev_load1 tu3 rfl rfl (ptr_mono (cks := [[(l1, .loop (R1 .ready Option.none))], [(D1, .deferred (some []))], [bx b6 #[vn_1] 38], [bx b5 #[.i6 x6] 3], [bx b4 #[.i6 x7] 3], [bx b3 #[.bool false] 4], [bx b1 #[bp bs_ 0] 68], [bx bs_ #[vs_1, vs_2] 53], cs_1, cs_2]) (fr := fr) hp1 (Le.refl _))) F S rfl fun a F=>?_
    refine wl_yield (wn rfl) rfl (xs := [.tmp 12, .tmp 16]) (vs := [.i6 x5, .i6 y3]) (e' := [(3, .i6 x5), (0, .func (.yield l1) #[] #[]), (1, bp b6 0)]) ⟨rfl, rfl, rfl, trivial⟩ F S rfl rfl rfl rfl 0 rfl hR1 rfl rfl ?_; clear F a; intro a F
    replace F : Fr 66 a [(20, .i6 y3), (19, .i6 x5), (7, bp b5 0), (6, bp b4 0), (4, bp b3 0), (2, bp b1 0), (0, bp bs_ 0)] := F
    refine wp_region_lit ?_
    refine wE (ev_assign rfl) F S rfl fun a F=>?_
    refine wpList_nil ?_
    refine then_n ?_
    refine begin_round S 0 rfl hR1 ?_; clear S; intro w S
    replace S : St g3 [[(l1, .loop (R1 .busy Option.none))], [(D1, .deferred (some []))], [bx b6 #[vn_1] 38], [bx b5 #[.i6 x6] 3], [bx b4 #[.i6 x7] 3], [bx b3 #[.bool false] 4], [bx b1 #[bp bs_ 0] 68], [bx bs_ #[vs_1, vs_2] 53], cs_1, cs_2] fr w := S
    refine wp_block ?_
    refine wp_seq ?_
    refine wp_seq ?_
    refine wp_region_lit ?_
    refine wE (ev_move rfl) F S rfl fun a F=>?_
    refine wE (ev_load1 tu3 rfl rfl (box_ptr (cells := [.i6 x7]) 4 rfl 0 rfl (lb rfl))) F S rfl fun a F=>?_
    obtain ⟨z2, hz2, hm⟩ := bind_some hm
    refine wE (ev_int rfl rfl (bo_sub hz2)) F S rfl fun a F=>?_
    refine wE (ev_int rfl rfl (bo_neq _ _ _ _)) F S rfl fun a F=>?_
    refine wE (ev_move rfl) F S rfl fun a F=>?_
    obtain ⟨x9, hx2, hm⟩ := bind_some hm
    refine wl_cut 3 (fun a w' => w = w' ∧ Fr 66 a [(28, .bool x9), (9, .i6 y3), (7, bp b5 0), (6, bp b4 0), (4, bp b3 0), (2, bp b1 0), (0, bp bs_ 0)]) ?_ ?_
    ·clear hm; obtain ⟨hc2, hm⟩ | ⟨hc2, hm⟩ := ite_or hx2
     ·refine wl_skip rfl rfl rfl rfl (ne_ft hc2) F rfl rfl ?_; clear F a; intro a F
      refine wl_skip rfl rfl rfl rfl (ne_ft hc2) F rfl rfl ?_; clear F a; intro a F
      refine wE (ev_pickT rfl hc2 rfl) F S rfl fun a F=>?_
      obtain rfl := sinj hm
      refine wpList_nil (then_n ?_); exact ⟨rfl, F.sub ⟨rfl, rfl, rfl, rfl, rfl, rfl, rfl, trivial⟩⟩
     ·refine wl_ev (wg F rfl rfl rfl rfl hc2) (ev_move rfl) F S rfl rfl ?_; clear F a; intro a F
      refine wl_ev (wg F rfl rfl rfl rfl hc2) (ev_int rfl rfl (bo_lss _ _ _ _)) F S rfl rfl ?_; clear F a; intro a F
      refine wE (ev_pickF rfl hc2 rfl) F S rfl fun a F=>?_
      obtain rfl := sinj hm
      refine wpList_nil (then_n ?_); exact ⟨rfl, F.sub ⟨rfl, rfl, rfl, rfl, rfl, rfl, rfl, trivial⟩⟩
    clear F; rintro a w' ⟨rfl, F⟩
    refine wpList_nil ?_
    refine then_n ?_
    obtain ⟨hc3, hm⟩ | ⟨hc3, hm⟩ := ite_or hm
    ·refine wp_condT F rfl hc3 ?_
     refine wp_seq ?_
     refine wp_region_lit ?_
     refine wl_storeC (wn rfl) rfl F S rfl rfl (vs := [.bool false]) rfl ts4 (one_cons rfl one_nil) (k := 5) rfl (lb rfl) (c' := #[.bool false]) rfl rfl ?_; clear S; intro w S
     refine wpList_nil ?_
     refine then_n ?_
     refine wp_ret ?_
     refine then_r ?_
     refine inb_r ?_
     refine round_r S 0 rfl hR1 ?_; clear F S a; intro w S; refine ⟨_, rfl, ?_⟩; intro a F
     replace S : St g3 [[(l1, .loop (R1 .done (some .ret)))], [(D1, .deferred (some []))], [bx b6 #[vn_1] 38], [bx b5 #[.i6 x6] 3], [bx b4 #[.i6 x7] 3], [bx b3 #[.bool false] 4], [bx b1 #[bp bs_ 0] 68], [bx bs_ #[vs_1, vs_2] 53], cs_1, cs_2] fr w := S
     replace F : Fr 19 a [(17, .bool false), (3, .i6 x5), (0, .func (.yield l1) #[] #[]), (1, bp b6 0)] := F
     refine wE (ev_not rfl) F S rfl fun a F=>?_
     refine wpList_nil ?_
     refine then_n ?_
     refine wp_condT F rfl rfl ?_
     refine wp_ret ?_
     refine inb_r ?_
     refine then_r ?_
     refine then_r ?_
     refine inb_r ?_
     refine then_r ?_
     obtain rfl := sinj hm
     obtain rfl := hfin1 _ rfl
     clear hm
     have hm : (some (false, s_) : Option (Bool × Shape_syntax)) = some _ := hmo1
     refine post_r _ F rfl ar_nil ?_
     refine ⟨_, rfl, ?_⟩; refine rp_r S 0 rfl hR1 ?_; clear F S; intro w S a F
     replace S : St g3 [[(D1, .deferred (some []))], [bx b6 #[vn_1] 38], [bx b5 #[.i6 x6] 3], [bx b4 #[.i6 x7] 3], [bx b3 #[.bool false] 4], [bx b1 #[bp bs_ 0] 68], [bx bs_ #[vs_1, vs_2] 53], cs_1, cs_2] fr w := S
     replace F : Fr ⟨66, [mkD D1]⟩ a [(7, bp b5 0), (6, bp b4 0), (4, bp b3 0), (2, bp b1 0), (0, bp bs_ 0)] := F
     refine inb_r ?_
     refine then_r ?_
     obtain rfl := sinj hm
     refine post_rM (fn := Try.f28) (rs := [.cell 4 4]) [.bool false] F S 0 rfl rfl (fun w S => (ar_cons (res1 rfl tu4 rfl (box_ptr (cells := [.bool false]) 4 rfl 0 rfl (lb rfl) w S)) ar_nil)) ?_; clear S; intro w S; replace S : St g3 [[bx b6 #[vn_1] 38], [bx b5 #[.i6 x6] 3], [bx b4 #[.i6 x7] 3], [bx b3 #[.bool false] 4], [bx b1 #[bp bs_ 0] 68], [bx bs_ #[vs_1, vs_2] 53], cs_1, cs_2] fr w := S
     replace S : St g3 [[bx bs_ #[vs_1, vs_2] 53], cs_1, cs_2] fr w := St.tail [[bx bs_ #[vs_1, vs_2] 53], cs_1, cs_2] _ (((S.frontC 7 rfl).frontC 7 rfl).frontC 7 rfl)
     exact ⟨_, rfl, g3, vs_1, vs_2, cs_1, cs_2, l4, S, (hs_1.mono l4), (hs_2.mono l4), rfl⟩
    ·refine wp_condF F rfl hc3 ?_
     refine wp_skip ?_
     refine then_n ?_
     refine wp_dv [] mo S ?_; clear S; intro ok2 w S
     refine dv_ev ok2 0 rfl (ev_load1 tu68 rfl rfl (box_ptr (cells := [bp bs_ 0]) 6 rfl 0 rfl (lb rfl))) F S rfl fun a F=>?_
     refine dv_et ok2 1 rfl (ev_nil rfl) F rfl fun a F=>?_
     refine dv_et ok2 2 rfl (ev_fieldAddr' tu53 tf53_0 (z := 0) ts38 rfl ⟨_, rfl⟩ rfl) F rfl fun a F=>?_
     refine dv_ev ok2 3 rfl (ev_load1 tu38 rfl rfl (box_ptr (cells := [vs_1]) 7 rfl 0 rfl (lb rfl))) F S rfl fun a F=>?_
     refine dv_et ok2 4 rfl (ev_move rfl) F rfl fun a F=>?_
     obtain ⟨y4, hy4, hm⟩ := bind_some hm
     refine dv_et ok2 5 rfl (ev_idxO (hs_1.mono l4) hy4 tu38 ts3 rfl rfl) F rfl fun a F=>?_
     obtain ⟨cs4, hr5, hq1⟩ := elemO (hs_1.mono l4) hy4
     obtain rfl := rep_int hr5
     refine dv_ev ok2 6 rfl (ev_load1 tu3 rfl rfl (hq1 _ _ 8 rfl)) F S rfl fun a F=>?_
     refine dv_ev ok2 7 rfl (ev_load1 tu3 rfl rfl (box_ptr (cells := [.i6 x6]) 3 rfl 0 rfl (lb rfl))) F S rfl fun a F=>?_
     refine dv_ev ok2 8 rfl (ev_load1 tu68 rfl rfl (box_ptr (cells := [bp bs_ 0]) 6 rfl 0 rfl (lb rfl))) F S rfl fun a F=>?_
     refine dv_et ok2 9 rfl (ev_nil rfl) F rfl fun a F=>?_
     refine dv_et ok2 10 rfl (ev_fieldAddr' tu53 tf53_1 (z := 0) ts38 rfl ⟨_, rfl⟩ rfl) F rfl fun a F=>?_
     refine dv_ev ok2 11 rfl (ev_load1 tu38 rfl rfl (box_ptr (cells := [vs_2]) 7 rfl 1 rfl (lb rfl))) F S rfl fun a F=>?_
     refine dv_et ok2 12 rfl (ev_move rfl) F rfl fun a F=>?_
     obtain ⟨y5, hy5, hm⟩ := bind_some hm
     refine dv_et ok2 13 rfl (ev_idxO (hs_2.mono l4) hy5 tu38 ts3 rfl rfl) F rfl fun a F=>?_
     obtain ⟨cs5, hr6, hq2⟩ := elemO (hs_2.mono l4) hy5
     obtain rfl := rep_int hr6
     refine dv_ev ok2 14 rfl (ev_load1 tu3 rfl rfl (hq2 _ _ 9 rfl)) F S rfl fun a F=>?_
     obtain ⟨z3, hz3, hm⟩ := bind_some hm
     refine dv_et ok2 15 rfl (ev_int rfl rfl (bo_add hz3)) F rfl fun a F=>?_
     refine dv_et ok2 16 rfl (ev_max rfl rfl) F rfl fun a F=>?_
     refine dv_op ok2 17 rfl [(14, .i6 y5), (11, vs_2), (8, bp bs_ 0), (7, .i6 x6)] ?_
     refine wl_storeC (wn rfl) rfl F S rfl rfl (vs := [.i6 y4]) rfl ts3 (one_cons rfl one_nil) (k := 4) rfl (lb rfl) (c' := #[.i6 y4]) rfl rfl ?_; clear S; intro w S
     refine dv_nx ⟨yl_ev rfl rfl (ev_load1 tu3 rfl rfl (hq2 _ _ 9 rfl)) F S, yl_ev rfl rfl (ev_load1 tu38 rfl rfl (box_ptr (cells := [vs_2]) 7 rfl 1 rfl (lb rfl))) F S, yl_ev rfl rfl (ev_load1 tu68 rfl rfl (box_ptr (cells := [bp bs_ 0]) 6 rfl 0 rfl (lb rfl))) F S, yl_ev rfl rfl (ev_load1 tu3 rfl rfl (box_ptr (cells := [.i6 x6]) 3 rfl 0 rfl (lb rfl))) F S, trivial⟩ ?_
     refine dv_op ok2 18 rfl [] ?_
     refine wl_storeC (wn rfl) rfl F S rfl rfl (vs := [.i6 (max x6 z3)]) rfl ts3 (one_cons rfl one_nil) (k := 3) rfl (lb rfl) (c' := #[.i6 (max x6 z3)]) rfl rfl ?_; clear S; intro w S
     refine dv_nx trivial ?_
     refine dv_fin ok2 ?_
     refine inb_n ?_
     refine round_n S 0 rfl hR1 ?_; clear F S a; intro w S; refine ⟨_, rfl, ?_⟩; intro a F
     replace S : St g3 [[(l1, .loop (R1 .ready Option.none))], [(D1, .deferred (some []))], [bx b6 #[vn_1] 38], [bx b5 #[.i6 (max x6 z3)] 3], [bx b4 #[.i6 y4] 3], [bx b3 #[.bool false] 4], [bx b1 #[bp bs_ 0] 68], [bx bs_ #[vs_1, vs_2] 53], cs_1, cs_2] fr w := S
     replace F : Fr 19 a [(17, .bool true), (3, .i6 x5), (0, .func (.yield l1) #[] #[]), (1, bp b6 0)] := F
     refine wE (ev_not rfl) F S rfl fun a F=>?_
     refine wpList_nil ?_
     refine then_n ?_
     refine wp_condF F rfl rfl ?_
     refine wp_skip ?_
     refine inb_n ?_
     refine then_n ?_
     refine wp_region_lit ?_
     refine wE (ev_move rfl) F S rfl fun a F=>?_
     obtain ⟨z4, hz4, hm⟩ := bind_some hm
     refine wE (ev_int rfl rfl (bo_sub hz4)) F S rfl fun a F=>?_
     refine wE (ev_assign rfl) F S rfl fun a F=>?_
     refine wpList_nil ?_
     refine then_n ?_
     obtain rfl := sinj hm
     refine ⟨_, rfl, ?_⟩
     dsimp only
     exact ⟨g3, F.sub ⟨rfl, rfl, rfl, trivial⟩, l4, S⟩
   ·refine wp_condF F rfl hc1 ?_
    refine wp_exit ?_
    refine then_e ?_
    refine then_e ?_
    refine inb_x ?_
    refine then_n ?_
    obtain rfl := sinj hm
    obtain rfl := hfin1 _ rfl
    clear hm
    have hm : (syntax_shape__add.j1 s_ x6 x7 : Option (Bool × Shape_syntax)) = some _ := hmo1
    replace S : St g3 [[(l1, .loop (R1 .ready Option.none))], [(D1, .deferred (some []))], [bx b5 #[.i6 x6] 3], [bx b4 #[.i6 x7] 3], [bx b3 #[.bool false] 4], [bx b1 #[bp bs_ 0] 68], [bx bs_ #[vs_1, vs_2] 53], cs_1, cs_2] fr w := St.tail [[(l1, .loop (R1 .ready Option.none))], [(D1, .deferred (some []))], [bx b5 #[.i6 x6] 3], [bx b4 #[.i6 x7] 3], [bx b3 #[.bool false] 4], [bx b1 #[bp bs_ 0] 68], [bx bs_ #[vs_1, vs_2] 53], cs_1, cs_2] _ (((((((((S.frontC 9 rfl).frontC 9 rfl).frontC 9 rfl).frontC 9 rfl).frontC 9 rfl).frontC 9 rfl).frontC 9 rfl).frontC 8 rfl).frontC 8 rfl)
    exact ⟨x6, x7, g3, F.sub trivial, l4, S, hm⟩
 ·clear F S hm; rintro a w ⟨x1, x2, g1, F, l2, S, hm⟩
  refine post_n _ F rfl ar_nil ?_
  refine ⟨_, rfl, ?_⟩; refine rp_n S 0 rfl hR1 ?_; clear F S; intro w S a F
  replace S : St g1 [[(D1, .deferred (some []))], [bx b5 #[.i6 x1] 3], [bx b4 #[.i6 x2] 3], [bx b3 #[.bool false] 4], [bx b1 #[bp bs_ 0] 68], [bx bs_ #[vs_1, vs_2] 53], cs_1, cs_2] fr w := S
  replace F : Fr ⟨66, [mkD D1]⟩ a [(7, bp b5 0), (6, bp b4 0), (4, bp b3 0), (2, bp b1 0), (0, bp bs_ 0)] := F
  refine inb_n ?_
  refine then_n ?_
  refine wp_seq ?_
  refine wp_dv [] mo S ?_; clear S; intro ok1 w S
  refine dv_ev ok1 0 rfl (ev_load1 tu68 rfl rfl (box_ptr (cells := [bp bs_ 0]) 4 rfl 0 rfl (lb rfl))) F S rfl fun a F=>?_
  refine dv_ev ok1 1 rfl (ev_load1 tu68 rfl rfl (box_ptr (cells := [bp bs_ 0]) 4 rfl 0 rfl (lb rfl))) F S rfl fun a F=>?_
  refine dv_ev ok1 2 rfl (ev_load1 tu68 rfl rfl (box_ptr (cells := [bp bs_ 0]) 4 rfl 0 rfl (lb rfl))) F S rfl fun a F=>?_
  refine dv_et ok1 3 rfl (ev_nil rfl) F rfl fun a F=>?_
  refine dv_et ok1 4 rfl (ev_fieldAddr' tu53 tf53_0 (z := 0) ts38 rfl ⟨_, rfl⟩ rfl) F rfl fun a F=>?_
  refine dv_ev ok1 5 rfl (ev_load1 tu38 rfl rfl (box_ptr (cells := [vs_1]) 5 rfl 0 rfl (lb rfl))) F S rfl fun a F=>?_
  refine dv_ev ok1 6 rfl (ev_load1 tu3 rfl rfl (box_ptr (cells := [.i6 x2]) 2 rfl 0 rfl (lb rfl))) F S rfl fun a F=>?_
  refine dv_ev ok1 9 rfl (ev_load1 tu68 rfl rfl (box_ptr (cells := [bp bs_ 0]) 4 rfl 0 rfl (lb rfl))) F S rfl fun a F=>?_
  refine dv_et ok1 10 rfl (ev_nil rfl) F rfl fun a F=>?_
  refine dv_et ok1 11 rfl (ev_fieldAddr' tu53 tf53_1 (z := 0) ts38 rfl ⟨_, rfl⟩ rfl) F rfl fun a F=>?_
  refine dv_ev ok1 12 rfl (ev_load1 tu38 rfl rfl (box_ptr (cells := [vs_2]) 5 rfl 1 rfl (lb rfl))) F S rfl fun a F=>?_
  refine dv_ev ok1 13 rfl (ev_load1 tu3 rfl rfl (box_ptr (cells := [.i6 x1]) 1 rfl 0 rfl (lb rfl))) F S rfl fun a F=>?_
  obtain ⟨y1, hy1, hm⟩ := bind_some hm
  refine dv_cut [0, 1, 2, 3, 4, 5, 6, 9, 10, 11, 12, 13, 7, 8, 14] [(12, vs_2), (9, bp bs_ 0), (1, bp bs_ 0), (0, bp bs_ 0)] (fun a w => ∃ (v4 v5 : Value) (c4 c5 : Hl) (g2 : Gh), Fr ⟨66, [mkD D1]⟩ a [(60, v4), (54, v5), (58, vs_2), (57, bp bs_ 1), (55, bp bs_ 0), (47, bp bs_ 0), (46, bp bs_ 0), (4, bp b3 0), (2, bp b1 0), (0, bp bs_ 0)] ∧ Le g1 g2 ∧ St g2 [[(D1, .deferred (some []))], c4, c5, cs_2, [bx bs_ #[vs_1, vs_2] 53], [bx b3 #[.bool false] 4], [bx b1 #[bp bs_ 0] 68]] fr w ∧ OwnS g2 ([x1] : List Int) v4 c4 ∧ OwnS g2 y1 v5 c5 ∧ syntax_shape__add.j2 s_ x1 y1 = some r) ?_ ?_
  ·intro HJ
   refine dv_fork ok1 7 [14] (fk 7 rfl [(13, .i6 x1), (12, vs_2), (9, bp bs_ 0), (5, vs_1), (2, bp bs_ 0), (1, bp bs_ 0), (0, bp bs_ 0)] ?_ (fk 14 rfl [(12, vs_2), (9, bp bs_ 0), (6, .i6 x2), (5, vs_1), (2, bp bs_ 0), (1, bp bs_ 0), (0, bp bs_ 0)] ?_ trivial))
   ·refine wl_lit (l := ([x2] : List Int)) (vs := [.i6 x2]) (parts := [(0, .tmp 52)]) (wn rfl) rfl rfl rfl tu38 te3 (sz_cons rfl sz_nil) rfl (Cat.cons (show Rep.rep _ x2 _ from rfl) (Cat.nil _)) (coa_cons rfl coa_nil) rfl F S rfl rfl ?_; clear F a S
    rintro v1 c1 a w h1 F S
    refine dv_nx ⟨yl_ev rfl rfl (ev_load1 tu3 rfl rfl (box_ptr (cells := [.i6 x1]) 2 rfl 0 rfl (lb rfl))) F S, yl_ev rfl rfl (ev_load1 tu38 rfl rfl (box_ptr (cells := [vs_2]) 6 rfl 1 rfl (lb rfl))) F S, yl_ev rfl rfl (ev_load1 tu68 rfl rfl (box_ptr (cells := [bp bs_ 0]) 5 rfl 0 rfl (lb rfl))) F S, yl_ev rfl rfl (ev_load1 tu38 rfl rfl (box_ptr (cells := [vs_1]) 6 rfl 0 rfl (lb rfl))) F S, yl_ev rfl rfl (ev_load1 tu68 rfl rfl (box_ptr (cells := [bp bs_ 0]) 5 rfl 0 rfl (lb rfl))) F S, yl_ev rfl rfl (ev_load1 tu68 rfl rfl (box_ptr (cells := [bp bs_ 0]) 5 rfl 0 rfl (lb rfl))) F S, yl_ev rfl rfl (ev_load1 tu68 rfl rfl (box_ptr (cells := [bp bs_ 0]) 5 rfl 0 rfl (lb rfl))) F S, trivial⟩ ?_
    refine dv_fork ok1 8 [14] (fk 8 rfl [(13, .i6 x1), (12, vs_2), (9, bp bs_ 0), (1, bp bs_ 0), (0, bp bs_ 0)] ?_ (fk 14 rfl [(12, vs_2), (9, bp bs_ 0), (5, vs_1), (2, bp bs_ 0), (1, bp bs_ 0), (0, bp bs_ 0)] ?_ trivial))
    ·obtain ⟨cs1, hk1, hr1⟩ := OwnS.reads h1
     refine wl_append (wn rfl) rfl tu38 tu38 te3 (by decide) (by decide) F S rfl rfl (k := 7) rfl (hs_1.mono l2) hk1 rfl (hr1 _ _ _ 0 rfl S) hy1 rfl rfl ?_; clear F a S
     rintro v2 c2 a w h2 S F; replace S : St g1 [c1, [(D1, .deferred (some []))], [bx b5 #[.i6 x1] 3], [bx b4 #[.i6 x2] 3], [bx b3 #[.bool false] 4], [bx b1 #[bp bs_ 0] 68], [bx bs_ #[vs_1, vs_2] 53], c2, cs_2] fr w := S
     refine dv_nx ⟨yl_ev rfl rfl (ev_load1 tu3 rfl rfl (box_ptr (cells := [.i6 x1]) 2 rfl 0 rfl (lb rfl))) F S, yl_ev rfl rfl (ev_load1 tu38 rfl rfl (box_ptr (cells := [vs_2]) 6 rfl 1 rfl (lb rfl))) F S, yl_ev rfl rfl (ev_load1 tu68 rfl rfl (box_ptr (cells := [bp bs_ 0]) 5 rfl 0 rfl (lb rfl))) F S, yl_ev rfl rfl (ev_load1 tu68 rfl rfl (box_ptr (cells := [bp bs_ 0]) 5 rfl 0 rfl (lb rfl))) F S, yl_ev rfl rfl (ev_load1 tu68 rfl rfl (box_ptr (cells := [bp bs_ 0]) 5 rfl 0 rfl (lb rfl))) F S, trivial⟩ ?_
     refine dv_op ok1 14 rfl [(12, vs_2), (9, bp bs_ 0), (1, bp bs_ 0), (0, bp bs_ 0)] ?_
     refine wl_lit (l := ([x1] : List Int)) (vs := [.i6 x1]) (parts := [(0, .tmp 59)]) (wn rfl) rfl rfl rfl tu38 te3 (sz_cons rfl sz_nil) rfl (Cat.cons (show Rep.rep _ x1 _ from rfl) (Cat.nil _)) (coa_cons rfl coa_nil) rfl F S rfl rfl ?_; clear F a S
     rintro v3 c3 a w h3 F S
     refine dv_nx ⟨yl_ev rfl rfl (ev_load1 tu38 rfl rfl (box_ptr (cells := [vs_2]) 7 rfl 1 rfl (lb rfl))) F S, yl_ev rfl rfl (ev_load1 tu68 rfl rfl (box_ptr (cells := [bp bs_ 0]) 6 rfl 0 rfl (lb rfl))) F S, yl_ev rfl rfl (ev_load1 tu68 rfl rfl (box_ptr (cells := [bp bs_ 0]) 6 rfl 0 rfl (lb rfl))) F S, yl_ev rfl rfl (ev_load1 tu68 rfl rfl (box_ptr (cells := [bp bs_ 0]) 6 rfl 0 rfl (lb rfl))) F S, trivial⟩ ?_
     refine dv_join (HJ _ _ ?_)
     replace S : St g1 [[(D1, .deferred (some []))], c3, c2, cs_2, [bx bs_ #[vs_1, vs_2] 53], [bx b3 #[.bool false] 4], [bx b1 #[bp bs_ 0] 68]] fr w := St.tail [[(D1, .deferred (some []))], c3, c2, cs_2, [bx bs_ #[vs_1, vs_2] 53], [bx b3 #[.bool false] 4], [bx b1 #[bp bs_ 0] 68]] _ (((((((S.frontC 6 rfl).frontC 6 rfl).frontC 9 rfl).frontC 12 rfl).frontC 12 rfl).frontC 5 rfl).frontC 8 rfl)
     exact ⟨v3, v2, c3, c2, g1, F.sub ⟨rfl, rfl, rfl, rfl, rfl, rfl, rfl, rfl, rfl, rfl, trivial⟩, (Le.refl _), S, h3, h2, hm⟩
    ·refine wl_lit (l := ([x1] : List Int)) (vs := [.i6 x1]) (parts := [(0, .tmp 59)]) (wn rfl) rfl rfl rfl tu38 te3 (sz_cons rfl sz_nil) rfl (Cat.cons (show Rep.rep _ x1 _ from rfl) (Cat.nil _)) (coa_cons rfl coa_nil) rfl F S rfl rfl ?_; clear F a S
     rintro v3 c3 a w h3 F S
     refine dv_nx ⟨yl_ev rfl rfl (ev_load1 tu38 rfl rfl (box_ptr (cells := [vs_2]) 7 rfl 1 rfl (lb rfl))) F S, yl_ev rfl rfl (ev_load1 tu68 rfl rfl (box_ptr (cells := [bp bs_ 0]) 6 rfl 0 rfl (lb rfl))) F S, yl_ev rfl rfl (ev_load1 tu38 rfl rfl (box_ptr (cells := [vs_1]) 7 rfl 0 rfl (lb rfl))) F S, yl_ev rfl rfl (ev_load1 tu68 rfl rfl (box_ptr (cells := [bp bs_ 0]) 6 rfl 0 rfl (lb rfl))) F S, yl_ev rfl rfl (ev_load1 tu68 rfl rfl (box_ptr (cells := [bp bs_ 0]) 6 rfl 0 rfl (lb rfl))) F S, yl_ev rfl rfl (ev_load1 tu68 rfl rfl (box_ptr (cells := [bp bs_ 0]) 6 rfl 0 rfl (lb rfl))) F S, trivial⟩ ?_
     refine dv_op ok1 8 rfl [(12, vs_2), (9, bp bs_ 0), (1, bp bs_ 0), (0, bp bs_ 0)] ?_
     obtain ⟨cs1, hk1, hr1⟩ := OwnS.reads h1
     refine wl_append (wn rfl) rfl tu38 tu38 te3 (by decide) (by decide) F S rfl rfl (k := 8) rfl (hs_1.mono l2) hk1 rfl (hr1 _ _ _ 1 rfl S) hy1 rfl rfl ?_; clear F a S
     rintro v2 c2 a w h2 S F; replace S : St g1 [c3, c1, [(D1, .deferred (some []))], [bx b5 #[.i6 x1] 3], [bx b4 #[.i6 x2] 3], [bx b3 #[.bool false] 4], [bx b1 #[bp bs_ 0] 68], [bx bs_ #[vs_1, vs_2] 53], c2, cs_2] fr w := S
     refine dv_nx ⟨yl_ev rfl rfl (ev_load1 tu38 rfl rfl (box_ptr (cells := [vs_2]) 7 rfl 1 rfl (lb rfl))) F S, yl_ev rfl rfl (ev_load1 tu68 rfl rfl (box_ptr (cells := [bp bs_ 0]) 6 rfl 0 rfl (lb rfl))) F S, yl_ev rfl rfl (ev_load1 tu68 rfl rfl (box_ptr (cells := [bp bs_ 0]) 6 rfl 0 rfl (lb rfl))) F S, yl_ev rfl rfl (ev_load1 tu68 rfl rfl (box_ptr (cells := [bp bs_ 0]) 6 rfl 0 rfl (lb rfl))) F S, trivial⟩ ?_
     refine dv_join (HJ _ _ ?_)
     replace S : St g1 [[(D1, .deferred (some []))], c3, c2, cs_2, [bx bs_ #[vs_1, vs_2] 53], [bx b3 #[.bool false] 4], [bx b1 #[bp bs_ 0] 68]] fr w := St.tail [[(D1, .deferred (some []))], c3, c2, cs_2, [bx bs_ #[vs_1, vs_2] 53], [bx b3 #[.bool false] 4], [bx b1 #[bp bs_ 0] 68]] _ (((((((S.frontC 6 rfl).frontC 6 rfl).frontC 9 rfl).frontC 12 rfl).frontC 12 rfl).frontC 5 rfl).frontC 8 rfl)
     exact ⟨v3, v2, c3, c2, g1, F.sub ⟨rfl, rfl, rfl, rfl, rfl, rfl, rfl, rfl, rfl, rfl, trivial⟩, (Le.refl _), S, h3, h2, hm⟩
   ·refine wl_lit (l := ([x1] : List Int)) (vs := [.i6 x1]) (parts := [(0, .tmp 59)]) (wn rfl) rfl rfl rfl tu38 te3 (sz_cons rfl sz_nil) rfl (Cat.cons (show Rep.rep _ x1 _ from rfl) (Cat.nil _)) (coa_cons rfl coa_nil) rfl F S rfl rfl ?_; clear F a S
    rintro v3 c3 a w h3 F S
    refine dv_nx ⟨yl_ev rfl rfl (ev_load1 tu38 rfl rfl (box_ptr (cells := [vs_2]) 6 rfl 1 rfl (lb rfl))) F S, yl_ev rfl rfl (ev_load1 tu68 rfl rfl (box_ptr (cells := [bp bs_ 0]) 5 rfl 0 rfl (lb rfl))) F S, yl_ev rfl rfl (ev_load1 tu3 rfl rfl (box_ptr (cells := [.i6 x2]) 3 rfl 0 rfl (lb rfl))) F S, yl_ev rfl rfl (ev_load1 tu38 rfl rfl (box_ptr (cells := [vs_1]) 6 rfl 0 rfl (lb rfl))) F S, yl_ev rfl rfl (ev_load1 tu68 rfl rfl (box_ptr (cells := [bp bs_ 0]) 5 rfl 0 rfl (lb rfl))) F S, yl_ev rfl rfl (ev_load1 tu68 rfl rfl (box_ptr (cells := [bp bs_ 0]) 5 rfl 0 rfl (lb rfl))) F S, yl_ev rfl rfl (ev_load1 tu68 rfl rfl (box_ptr (cells := [bp bs_ 0]) 5 rfl 0 rfl (lb rfl))) F S, trivial⟩ ?_
    refine dv_op ok1 7 rfl [(12, vs_2), (9, bp bs_ 0), (5, vs_1), (2, bp bs_ 0), (1, bp bs_ 0), (0, bp bs_ 0)] ?_
    refine wl_lit (l := ([x2] : List Int)) (vs := [.i6 x2]) (parts := [(0, .tmp 52)]) (wn rfl) rfl rfl rfl tu38 te3 (sz_cons rfl sz_nil) rfl (Cat.cons (show Rep.rep _ x2 _ from rfl) (Cat.nil _)) (coa_cons rfl coa_nil) rfl F S rfl rfl ?_; clear F a S
    rintro v1 c1 a w h1 F S
    refine dv_nx ⟨yl_ev rfl rfl (ev_load1 tu38 rfl rfl (box_ptr (cells := [vs_2]) 7 rfl 1 rfl (lb rfl))) F S, yl_ev rfl rfl (ev_load1 tu68 rfl rfl (box_ptr (cells := [bp bs_ 0]) 6 rfl 0 rfl (lb rfl))) F S, yl_ev rfl rfl (ev_load1 tu38 rfl rfl (box_ptr (cells := [vs_1]) 7 rfl 0 rfl (lb rfl))) F S, yl_ev rfl rfl (ev_load1 tu68 rfl rfl (box_ptr (cells := [bp bs_ 0]) 6 rfl 0 rfl (lb rfl))) F S, yl_ev rfl rfl (ev_load1 tu68 rfl rfl (box_ptr (cells := [bp bs_ 0]) 6 rfl 0 rfl (lb rfl))) F S, yl_ev rfl rfl (ev_load1 tu68 rfl rfl (box_ptr (cells := [bp bs_ 0]) 6 rfl 0 rfl (lb rfl))) F S, trivial⟩ ?_
    refine dv_op ok1 8 rfl [(12, vs_2), (9, bp bs_ 0), (1, bp bs_ 0), (0, bp bs_ 0)] ?_
    obtain ⟨cs1, hk1, hr1⟩ := OwnS.reads h1
    refine wl_append (wn rfl) rfl tu38 tu38 te3 (by decide) (by decide) F S rfl rfl (k := 8) rfl (hs_1.mono l2) hk1 rfl (hr1 _ _ _ 0 rfl S) hy1 rfl rfl ?_; clear F a S
    rintro v2 c2 a w h2 S F; replace S : St g1 [c1, c3, [(D1, .deferred (some []))], [bx b5 #[.i6 x1] 3], [bx b4 #[.i6 x2] 3], [bx b3 #[.bool false] 4], [bx b1 #[bp bs_ 0] 68], [bx bs_ #[vs_1, vs_2] 53], c2, cs_2] fr w := S
    refine dv_nx ⟨yl_ev rfl rfl (ev_load1 tu38 rfl rfl (box_ptr (cells := [vs_2]) 7 rfl 1 rfl (lb rfl))) F S, yl_ev rfl rfl (ev_load1 tu68 rfl rfl (box_ptr (cells := [bp bs_ 0]) 6 rfl 0 rfl (lb rfl))) F S, yl_ev rfl rfl (ev_load1 tu68 rfl rfl (box_ptr (cells := [bp bs_ 0]) 6 rfl 0 rfl (lb rfl))) F S, yl_ev rfl rfl (ev_load1 tu68 rfl rfl (box_ptr (cells := [bp bs_ 0]) 6 rfl 0 rfl (lb rfl))) F S, trivial⟩ ?_
    refine dv_join (HJ _ _ ?_)
    replace S : St g1 [[(D1, .deferred (some []))], c3, c2, cs_2, [bx bs_ #[vs_1, vs_2] 53], [bx b3 #[.bool false] 4], [bx b1 #[bp bs_ 0] 68]] fr w := St.tail [[(D1, .deferred (some []))], c3, c2, cs_2, [bx bs_ #[vs_1, vs_2] 53], [bx b3 #[.bool false] 4], [bx b1 #[bp bs_ 0] 68]] _ (((((((S.frontC 6 rfl).frontC 6 rfl).frontC 9 rfl).frontC 12 rfl).frontC 12 rfl).frontC 6 rfl).frontC 8 rfl)
    exact ⟨v3, v2, c3, c2, g1, F.sub ⟨rfl, rfl, rfl, rfl, rfl, rfl, rfl, rfl, rfl, rfl, trivial⟩, (Le.refl _), S, h3, h2, hm⟩
  ·clear F S hm; rintro a w ⟨v4, v5, c4, c5, g2, F, l3, S, h4, h5, hm⟩
   refine dv_op ok1 15 rfl [(1, bp bs_ 0), (0, bp bs_ 0)] ?_
   obtain ⟨cs2, hk2, hr2⟩ := OwnS.reads h4
   obtain ⟨y2, hy2, hm⟩ := bind_some hm
   refine wl_append (wn rfl) rfl tu38 tu38 te3 (by decide) (by decide) F S rfl rfl (k := 3) rfl (hs_2.mono (l2.trans l3)) hk2 rfl (hr2 _ _ _ 1 rfl S) hy2 rfl rfl ?_; clear F a S
   rintro v6 c6 a w h6 S F; replace S : St g2 [[(D1, .deferred (some []))], c4, c5, c6, [bx bs_ #[vs_1, vs_2] 53], [bx b3 #[.bool false] 4], [bx b1 #[bp bs_ 0] 68]] fr w := S
   refine dv_nx ⟨yl_ev rfl rfl (ev_load1 tu68 rfl rfl (box_ptr (cells := [bp bs_ 0]) 6 rfl 0 rfl (lb rfl))) F S, yl_ev rfl rfl (ev_load1 tu68 rfl rfl (box_ptr (cells := [bp bs_ 0]) 6 rfl 0 rfl (lb rfl))) F S, trivial⟩ ?_
   refine dv_et ok1 16 rfl (ev_nil rfl) F rfl fun a F=>?_
   refine dv_et ok1 17 rfl (ev_fieldAddr' tu53 tf53_0 (z := 0) ts38 rfl ⟨_, rfl⟩ rfl) F rfl fun a F=>?_
   refine dv_op ok1 18 rfl [(1, bp bs_ 0)] ?_
   refine wl_storeC (wn rfl) rfl F S rfl rfl (vs := [v5]) (OwnS.cl h5) ts38 (one_cons (OwnS.one h5) one_nil) (k := 4) rfl (lb rfl) (c' := #[v5, vs_2]) rfl rfl ?_; clear S; intro w S
   refine dv_nx ⟨yl_ev rfl rfl (ev_load1 tu68 rfl rfl (box_ptr (cells := [bp bs_ 0]) 6 rfl 0 rfl (lb rfl))) F S, trivial⟩ ?_
   refine dv_et ok1 19 rfl (ev_nil rfl) F rfl fun a F=>?_
   refine dv_et ok1 20 rfl (ev_fieldAddr' tu53 tf53_1 (z := 0) ts38 rfl ⟨_, rfl⟩ rfl) F rfl fun a F=>?_
   refine dv_op ok1 21 rfl [] ?_
   refine wl_storeC (wn rfl) rfl F S rfl rfl (vs := [v6]) (OwnS.cl h6) ts38 (one_cons (OwnS.one h6) one_nil) (k := 4) rfl (lb rfl) (c' := #[v5, v6]) rfl rfl ?_; clear S; intro w S
   refine dv_nx trivial ?_
   refine dv_fin ok1 ?_
   refine then_n ?_
   refine wp_seq ?_
   refine wp_region_lit ?_
   refine wl_storeC (wn rfl) rfl F S rfl rfl (vs := [.bool true]) rfl ts4 (one_cons rfl one_nil) (k := 5) rfl (lb rfl) (c' := #[.bool true]) rfl rfl ?_; clear S; intro w S
   refine wpList_nil ?_
   refine then_n ?_
   refine wp_ret ?_
   obtain rfl := sinj hm
   refine post_rM (fn := Try.f28) (rs := [.cell 4 4]) [.bool true] F S 0 rfl rfl (fun w S => (ar_cons (res1 rfl tu4 rfl (box_ptr (cells := [.bool true]) 5 rfl 0 rfl (lb rfl) w S)) ar_nil)) ?_; clear S; intro w S; replace S : St g2 [c4, c5, c6, [bx bs_ #[v5, v6] 53], [bx b3 #[.bool true] 4], [bx b1 #[bp bs_ 0] 68]] fr w := S
   replace S : St g2 [[bx bs_ #[v5, v6] 53], c5, c6] fr w := St.tail [[bx bs_ #[v5, v6] 53], c5, c6] _ (((S.frontC 2 rfl).frontC 2 rfl).frontC 5 rfl)
   exact ⟨_, rfl, g2, v5, v6, c5, c6, (l2.trans l3), S, h5, h6, rfl⟩

theorem syntax_Validate_ok {g : Gh} {fr : Hl} {w : World} {r : Fault} (t_ : SyntaxTree) (vt_1 : Value) (ht_1 : RepSl g t_.Nodes vt_1) (S : St g [] fr w) (hm : syntax_Validate t_ = some r) :
  Calls Try.prog 14 [.agg #[vt_1]].toArray w (fun en w' => ∃ v, en = .returned v ∧ ∃ (g' : Gh), Le g g' ∧ St g' [] fr w' ∧ .agg #[.i6 r.Code, .i6 r.Index] = v) := by
 unfold syntax_Validate at hm
 refine calls_enter (fn := Try.f14) Try.func14 rfl Try.ntmps14 (lb rfl) ?_
 intro a F
 replace F : Fr 57 a [(0, .agg #[vt_1])] := F
 refine wp_seq ?_
 refine wp_region_lit ?_
 refine wl_boxC (wn rfl) rfl rfl rfl F S rfl rfl ?_; clear F a S; rintro b1 a w F S
 refine wl_alloc (wn rfl) rfl tz26 (cs := [.i6 0, .i6 0]) rfl F S rfl rfl ?_; clear F a S; rintro b2 a w F S
 refine wpList_nil ?_
 refine then_n ?_
 refine wp_seq ?_
 refine wp_region_lit ?_
 refine wE (ev_fieldAddr' tu24 tf24_0 (z := 0) ts22 rfl ⟨_, rfl⟩ rfl) F S rfl fun a F=>?_
 refine wE (ev_load1 tu22 rfl rfl (box_ptr (cells := [vt_1]) 1 rfl 0 rfl (lb rfl))) F S rfl fun a F=>?_
 refine wE (ev_lenSh ht_1 rfl tu22) F S rfl fun a F=>?_
 refine wE (ev_assign rfl) F S rfl fun a F=>?_
 refine wpList_nil ?_
 refine then_n ?_
 refine wp_seq ?_
 refine wp_seq ?_
 refine wp_region_lit ?_
 refine wE (ev_move rfl) F S rfl fun a F=>?_
 refine wE (ev_int rfl rfl (bo_eql _ _ _ _)) F S rfl fun a F=>?_
 refine wE (ev_move rfl) F S rfl fun a F=>?_
 obtain ⟨x1, hx1, hm⟩ := bind_some hm
 refine wl_cut 3 (fun a w' => w = w' ∧ Fr 57 a [(15, .bool x1), (3, .i6 (t_.Nodes.length : Int)), (2, bp b2 0), (1, bp b1 0)]) ?_ ?_
 ·clear hm; obtain ⟨hc1, hm⟩ | ⟨hc1, hm⟩ := ite_or hx1
  ·refine wl_skip rfl rfl rfl rfl (ne_ft hc1) F rfl rfl ?_; clear F a; intro a F
   refine wl_skip rfl rfl rfl rfl (ne_ft hc1) F rfl rfl ?_; clear F a; intro a F
   refine wE (ev_pickT rfl hc1 rfl) F S rfl fun a F=>?_
   obtain rfl := sinj hm
   refine wpList_nil (then_n ?_); exact ⟨rfl, F.sub ⟨rfl, rfl, rfl, rfl, trivial⟩⟩
  ·refine wl_ev (wg F rfl rfl rfl rfl hc1) (ev_move rfl) F S rfl rfl ?_; clear F a; intro a F
   refine wl_ev (wg F rfl rfl rfl rfl hc1) (ev_int rfl rfl (bo_gtr _ _ _ _)) F S rfl rfl ?_; clear F a; intro a F
   refine wE (ev_pickF rfl hc1 rfl) F S rfl fun a F=>?_
   obtain rfl := sinj hm
   refine wpList_nil (then_n ?_); exact ⟨rfl, F.sub ⟨rfl, rfl, rfl, rfl, trivial⟩⟩
 clear F; rintro a w' ⟨rfl, F⟩
 refine wpList_nil ?_
 refine then_n ?_
 obtain ⟨hc2, hm⟩ | ⟨hc2, hm⟩ := ite_or hm
 ·refine wp_condT F rfl hc2 ?_
  refine wp_seq ?_
  refine wp_region_lit ?_
  refine wE (ev_build (parts := [(0, .const (.i6 2)), (1, .const (.i6 (-1)))]) (vs := [(0, .i6 2), (1, .i6 (-1))]) rfl (fun w => tb26_0_1 2 (-1) w)) F S rfl fun a F=>?_
  refine wl_storeC (wn rfl) rfl F S rfl rfl (vs := [.i6 2, .i6 (-1)]) rfl ts26 (one_cons rfl (one_cons rfl one_nil)) (k := 0) rfl (lb rfl) (c' := #[.i6 2, .i6 (-1)]) rfl rfl ?_; clear S; intro w S
  refine wpList_nil ?_
  refine then_n ?_
  refine wp_ret ?_
  refine then_r ?_
  obtain rfl := sinj hm
  refine post_r _ F rfl (ar_cons (resA rfl tu26 rfl (box_ptr (cells := [.i6 2, .i6 (-1)]) 0 rfl 0 rfl (lb rfl) w S) ts26) ar_nil) ?_
  replace S : St g [] fr w := St.tail [] _ S
  exact ⟨_, rfl, g, (Le.refl _), S, rfl⟩
 ·refine wp_condF F rfl hc2 ?_
  refine wp_skip ?_
  refine then_n ?_
  refine wp_seq ?_
  refine wp_region_lit ?_
  refine wl_alloc (wn rfl) rfl tz53 (cs := [nilS, nilS]) rfl F S rfl rfl ?_; clear F a S; rintro b3 a w F S
  refine wpList_nil ?_
  refine then_n ?_
  refine wp_cut (fun a w => ∃ (x2 : List Int) (x3 : List Int) (v1 v2 : Value) (c1 c2 : Hl) (g1 : Gh), Fr 57 a [(4, bp b3 0), (3, .i6 (t_.Nodes.length : Int)), (2, bp b2 0)] ∧ Le g g1 ∧ St g1 [[bx b3 #[v1, v2] 53], [bx b2 #[.i6 0, .i6 0] 26], c1, c2] fr w ∧ OwnS g1 x2 v1 c1 ∧ OwnS g1 x3 v2 c2 ∧ syntax_Validate.j1 t_ x2 x3 = some r) ?_ ?_
  ·refine wp_seq ?_
   refine wp_region_lit ?_
   refine wE (ev_fieldAddr' tu24 tf24_0 (z := 0) ts22 rfl ⟨_, rfl⟩ rfl) F S rfl fun a F=>?_
   refine wE (ev_load1 tu22 rfl rfl (box_ptr (cells := [vt_1]) 2 rfl 0 rfl (lb rfl))) F S rfl fun a F=>?_
   refine wE (ev_lenSh ht_1 rfl tu22) F S rfl fun a F=>?_
   refine wE (ev_move rfl) F S rfl fun a F=>?_
   refine wpList_nil ?_
   refine then_n ?_
   refine wp_block ?_
   obtain ⟨r1, hr2, hm⟩ := bind_some hm
   have hmo1 := hm; clear hm
   refine wp_iter (σ := Int × (List Int) × (List Int)) (ρ := Fault ⊕ ((List Int) × (List Int))) (m := fun s => syntax_Validate.l1 t_ s.1 s.2.1 s.2.2) (I := fun s a w => match s with | (x4, x5, x6) => ∃ (v3 v4 : Value) (c3 c4 : Hl) (g2 : Gh), Fr 57 a [(20, .i6 x4), (19, .i6 (t_.Nodes.length : Int)), (18, vt_1), (4, bp b3 0), (3, .i6 (t_.Nodes.length : Int)), (2, bp b2 0)] ∧ Le g g2 ∧ St g2 [[bx b3 #[v3, v4] 53], [bx b2 #[.i6 0, .i6 0] 26], c3, c4] fr w ∧ OwnS g2 x5 v3 c3 ∧ OwnS g2 x6 v4 c4) hr2 ?_ ?_
   ·dsimp only
    replace S : St g [[], [bx b3 #[nilS, nilS] 53], [bx b2 #[.i6 0, .i6 0] 26], [bx b1 #[vt_1] 24]] fr w := S
    replace S : St g [[], [], [bx b3 #[nilS, nilS] 53], [bx b2 #[.i6 0, .i6 0] 26], [bx b1 #[vt_1] 24]] fr w := S
    replace S : St g [[bx b3 #[nilS, nilS] 53], [bx b2 #[.i6 0, .i6 0] 26], [], []] fr w := St.tail [[bx b3 #[nilS, nilS] 53], [bx b2 #[.i6 0, .i6 0] 26], [], []] _ ((((S.frontC 0 rfl).frontC 2 rfl).frontC 5 rfl).frontC 5 rfl)
    exact ⟨(nilS), (nilS), [], [], g, F.sub ⟨rfl, rfl, rfl, rfl, rfl, rfl, trivial⟩, (Le.refl _), S, (OwnS.nil _), (OwnS.nil _)⟩
   ·clear F S; rintro ⟨x4, x5, x6⟩ a w x7 ⟨v3, v4, c3, c4, g2, F, l2, S, h3, h4⟩ hx2 hfin1
    have hm : syntax_Validate.l1 t_ x4 x5 x6 = some x7 := hx2; clear hx2
    unfold syntax_Validate.l1 at hm
    refine wp_seq ?_
    refine wp_region_lit ?_
    refine wE (ev_int rfl rfl (bo_lss _ _ _ _)) F S rfl fun a F=>?_
    refine wpList_nil ?_
    refine then_n ?_
    refine wp_seq ?_
    obtain ⟨hc4, hm⟩ | ⟨hc4, hm⟩ := ite_or hm
    ·refine wp_condT F rfl hc4 ?_
     refine wp_skip ?_
     refine then_n ?_
     refine wp_seq ?_
     refine wp_block ?_
     refine wp_seq ?_
     refine wp_region_lit ?_
     refine wE (ev_move rfl) F S rfl fun a F=>?_
     obtain ⟨y2, hy2, hm⟩ := bind_some hm
     obtain ⟨cs2, hr3, hp1⟩ := elemS (ht_1.mono l2) hy2
     obtain ⟨v5, rfl, h5⟩ := rep_Node hr3
     refine wE (ev_idxS (ht_1.mono l2) hy2 tu22 ts50 rfl rfl) F S rfl fun a F=>?_
     refine wE (ev_loadA tu50 rfl (cs := [.string y2.Label, v5]) ts50 rfl (ptr_mono (cks := [[bx b3 #[v3, v4] 53], [bx b2 #[.i6 0, .i6 0] 26], c3, c4]) (fr := fr) hp1 (Le.refl _))) F S rfl fun a F=>?_
     refine wl_alloc (wn rfl) rfl tz50 (cs := [.string ByteArray.empty, nilS]) rfl F S rfl rfl ?_; clear F a S; rintro b4 a w F S
     refine wE (ev_assign rfl) F S rfl fun a F=>?_
     refine wl_storeC (wn rfl) rfl F S rfl rfl (vs := [.string y2.Label, v5]) rfl ts50 (one_cons rfl (one_cons h5.one one_nil)) (k := 0) rfl (lb rfl) (c' := #[.string y2.Label, v5]) rfl rfl ?_; clear S; intro w S
     refine wpList_nil ?_
     refine then_n ?_
     refine wp_block ?_
     refine wp_seq ?_
     refine wp_region_lit ?_
     refine wE (ev_fieldAddr' tu50 tf50_0 (z := 0) ts9 rfl ⟨_, rfl⟩ rfl) F S rfl fun a F=>?_
     refine wE (ev_load1 tu9 rfl rfl (box_ptr (cells := [.string y2.Label]) 0 rfl 0 rfl (lb rfl))) F S rfl fun a F=>?_
     obtain ⟨y3, hy3, hm⟩ := bind_some hm
     refine wl_call0 (wn rfl) rfl F rfl (syntax_isLabel_ok (fr := (fl [[bx b4 #[.string y2.Label, v5] 50], [bx b3 #[v3, v4] 53], [bx b2 #[.i6 0, .i6 0] 26], c3, c4] fr)) y2.Label S hy3) rfl tc27 rfl rfl ?_; clear F a S
     rintro _ a w ⟨g3, l3, S, rfl⟩ F; replace S : St g3 [[bx b4 #[.string y2.Label, v5] 50], [bx b3 #[v3, v4] 53], [bx b2 #[.i6 0, .i6 0] 26], c3, c4] fr w := S
     refine wE (ev_not rfl) F S rfl fun a F=>?_
     refine wE (ev_assign rfl) F S rfl fun a F=>?_
     refine wpList_nil ?_
     refine then_n ?_
     obtain ⟨hc5, hm⟩ | ⟨hc5, hm⟩ := ite_or hm
     ·refine wp_condT F rfl hc5 ?_
      refine wp_seq ?_
      refine wp_region_lit ?_
      refine wE (ev_move rfl) F S rfl fun a F=>?_
      refine wE (ev_build (parts := [(0, .const (.i6 12)), (1, .tmp 30)]) (vs := [(0, .i6 12), (1, .i6 x4)]) rfl (fun w => tb26_0_1 12 x4 w)) F S rfl fun a F=>?_
      refine wl_storeC (wn rfl) rfl F S rfl rfl (vs := [.i6 12, .i6 x4]) rfl ts26 (one_cons rfl (one_cons rfl one_nil)) (k := 2) rfl (lb rfl) (c' := #[.i6 12, .i6 x4]) rfl rfl ?_; clear S; intro w S
      refine wpList_nil ?_
      refine then_n ?_
      refine wp_ret ?_
      refine inb_r ?_
      refine inb_r ?_
      refine then_r ?_
      refine then_r ?_
      refine inb_r ?_
      refine then_r ?_
      obtain rfl := sinj hm
      obtain rfl := hfin1 _ rfl
      clear hm
      have hm : (some ({ Code := 12, Index := x4 } : Fault) : Option Fault) = some _ := hmo1
      obtain rfl := sinj hm
      refine post_r _ F rfl (ar_cons (resA rfl tu26 rfl (box_ptr (cells := [.i6 12, .i6 x4]) 2 rfl 0 rfl (lb rfl) w S) ts26) ar_nil) ?_
      replace S : St g3 [] fr w := St.tail [] _ S
      exact ⟨_, rfl, g3, (l2.trans l3), S, rfl⟩
     ·refine wp_condF F rfl hc5 ?_
      refine wp_seq ?_
      refine wp_region_lit ?_
      refine wE (ev_loadA tu50 rfl (cs := [.string y2.Label, v5]) ts50 rfl (box_ptr (cells := [.string y2.Label, v5]) 0 rfl 0 rfl (lb rfl))) F S rfl fun a F=>?_
      replace S : St g3 [[bx b3 #[v3, v4] 53], c3, c4, [bx b4 #[.string y2.Label, v5] 50], [bx b2 #[.i6 0, .i6 0] 26]] fr w := (((((S.frontC 2 rfl).frontC 1 rfl).frontC 6 rfl).frontC 6 rfl).frontC 5 rfl)
      obtain ⟨y4, hy4, hm⟩ := bind_some hm
      refine wl_call0 (wn rfl) rfl F rfl (syntax_shape__add_ok (fr := (fl [[bx b4 #[.string y2.Label, v5] 50], [bx b2 #[.i6 0, .i6 0] 26]] fr)) b3 ({ starts := x5, depths := x6 } : Shape_syntax) v3 c3 (h3.mono l3) v4 c4 (h4.mono l3) y2 v5 (h5.mono l3) S hy4) rfl tc28 rfl rfl ?_; clear F a S
      rintro _ a w ⟨g4, v6, v7, c5, c6, l4, S, h6, h7, rfl⟩ F; replace S : St g4 [[bx b3 #[v6, v7] 53], c5, c6, [bx b4 #[.string y2.Label, v5] 50], [bx b2 #[.i6 0, .i6 0] 26]] fr w := S
      refine wE (ev_not rfl) F S rfl fun a F=>?_
      refine wE (ev_assign rfl) F S rfl fun a F=>?_
      refine wpList_nil ?_
      refine then_n ?_
      obtain ⟨hc6, hm⟩ | ⟨hc6, hm⟩ := ite_or hm
      ·refine wp_condT F rfl hc6 ?_
       refine wp_seq ?_
       refine wp_region_lit ?_
       refine wE (ev_move rfl) F S rfl fun a F=>?_
       refine wE (ev_build (parts := [(0, .const (.i6 5)), (1, .tmp 36)]) (vs := [(0, .i6 5), (1, .i6 x4)]) rfl (fun w => tb26_0_1 5 x4 w)) F S rfl fun a F=>?_
       refine wl_storeC (wn rfl) rfl F S rfl rfl (vs := [.i6 5, .i6 x4]) rfl ts26 (one_cons rfl (one_cons rfl one_nil)) (k := 4) rfl (lb rfl) (c' := #[.i6 5, .i6 x4]) rfl rfl ?_; clear S; intro w S
       refine wpList_nil ?_
       refine then_n ?_
       refine wp_ret ?_
       refine inb_r ?_
       refine inb_r ?_
       refine then_r ?_
       refine then_r ?_
       refine inb_r ?_
       refine then_r ?_
       obtain rfl := sinj hm
       obtain rfl := hfin1 _ rfl
       clear hm
       have hm : (some ({ Code := 5, Index := x4 } : Fault) : Option Fault) = some _ := hmo1
       obtain rfl := sinj hm
       refine post_r _ F rfl (ar_cons (resA rfl tu26 rfl (box_ptr (cells := [.i6 5, .i6 x4]) 4 rfl 0 rfl (lb rfl) w S) ts26) ar_nil) ?_
       replace S : St g4 [] fr w := St.tail [] _ S
       exact ⟨_, rfl, g4, ((l2.trans l3).trans l4), S, rfl⟩
      ·refine wp_condF F rfl hc6 ?_
       refine wp_seq ?_
       refine wp_region_lit ?_
       refine wE (ev_fieldAddr' tu53 tf53_1 (z := 0) ts38 rfl ⟨_, rfl⟩ rfl) F S rfl fun a F=>?_
       refine wE (ev_load1 tu38 rfl rfl (box_ptr (cells := [v7]) 0 rfl 1 rfl (lb rfl))) F S rfl fun a F=>?_
       refine wE (ev_move rfl) F S rfl fun a F=>?_
       obtain ⟨y5, hy5, hm⟩ := bind_some hm
       refine wE (ev_idxO h7 hy5 tu38 ts3 rfl rfl) F S rfl fun a F=>?_
       obtain ⟨cs3, hr4, hq2⟩ := elemO h7 hy5
       obtain rfl := rep_int hr4
       refine wE (ev_load1 tu3 rfl rfl (hq2 _ _ 2 rfl)) F S rfl fun a F=>?_
       refine wE (ev_int rfl rfl (bo_gtr _ _ _ _)) F S rfl fun a F=>?_
       refine wE (ev_assign rfl) F S rfl fun a F=>?_
       refine wpList_nil ?_
       refine then_n ?_
       obtain ⟨hc7, hm⟩ | ⟨hc7, hm⟩ := ite_or hm
       ·refine wp_condT F rfl hc7 ?_
        refine wp_seq ?_
        refine wp_region_lit ?_
        refine wE (ev_move rfl) F S rfl fun a F=>?_
        refine wE (ev_build (parts := [(0, .const (.i6 10)), (1, .tmp 45)]) (vs := [(0, .i6 10), (1, .i6 x4)]) rfl (fun w => tb26_0_1 10 x4 w)) F S rfl fun a F=>?_
        refine wl_storeC (wn rfl) rfl F S rfl rfl (vs := [.i6 10, .i6 x4]) rfl ts26 (one_cons rfl (one_cons rfl one_nil)) (k := 4) rfl (lb rfl) (c' := #[.i6 10, .i6 x4]) rfl rfl ?_; clear S; intro w S
        refine wpList_nil ?_
        refine then_n ?_
        refine wp_ret ?_
        refine inb_r ?_
        refine inb_r ?_
        refine then_r ?_
        refine then_r ?_
        refine inb_r ?_
        refine then_r ?_
        obtain rfl := sinj hm
        obtain rfl := hfin1 _ rfl
        clear hm
        have hm : (some ({ Code := 10, Index := x4 } : Fault) : Option Fault) = some _ := hmo1
        obtain rfl := sinj hm
        refine post_r _ F rfl (ar_cons (resA rfl tu26 rfl (box_ptr (cells := [.i6 10, .i6 x4]) 4 rfl 0 rfl (lb rfl) w S) ts26) ar_nil) ?_
        replace S : St g4 [] fr w := St.tail [] _ S
        exact ⟨_, rfl, g4, ((l2.trans l3).trans l4), S, rfl⟩
       ·refine wp_condF F rfl hc7 ?_
        refine wp_skip ?_
        refine inb_n ?_
        refine inb_n ?_
        refine then_n ?_
        refine wp_region_lit ?_
        obtain ⟨z2, hz2, hm⟩ := bind_some hm
        refine wE (ev_int rfl rfl (bo_add hz2)) F S rfl fun a F=>?_
        refine wE (ev_move rfl) F S rfl fun a F=>?_
        refine wpList_nil ?_
        refine then_n ?_
        obtain rfl := sinj hm
        refine ⟨_, rfl, ?_⟩
        dsimp only
        replace S : St g4 [[bx b3 #[v6, v7] 53], [bx b2 #[.i6 0, .i6 0] 26], c5, c6] fr w := St.tail [[bx b3 #[v6, v7] 53], [bx b2 #[.i6 0, .i6 0] 26], c5, c6] _ ((((S.frontC 2 rfl).frontC 2 rfl).frontC 6 rfl).frontC 3 rfl)
        exact ⟨v6, v7, c5, c6, g4, F.sub ⟨rfl, rfl, rfl, rfl, rfl, rfl, trivial⟩, ((l2.trans l3).trans l4), S, h6, h7⟩
    ·refine wp_condF F rfl hc4 ?_
     refine wp_exit ?_
     refine then_e ?_
     refine then_e ?_
     refine inb_x ?_
     refine then_n ?_
     obtain rfl := sinj hm
     obtain rfl := hfin1 _ rfl
     clear hm
     have hm : (syntax_Validate.j1 t_ x5 x6 : Option Fault) = some _ := hmo1
     exact ⟨x5, x6, v3, v4, c3, c4, g2, F.sub ⟨rfl, rfl, rfl, trivial⟩, l2, S, h3, h4, hm⟩
  ·clear F S hm; rintro a w ⟨x2, x3, v1, v2, c1, c2, g1, F, l1, S, h1, h2, hm⟩
   refine wp_seq ?_
   refine wp_seq ?_
   refine wp_region_lit ?_
   refine wE (ev_fieldAddr' tu53 tf53_0 (z := 0) ts38 rfl ⟨_, rfl⟩ rfl) F S rfl fun a F=>?_
   refine wE (ev_load1 tu38 rfl rfl (box_ptr (cells := [v1]) 0 rfl 0 rfl (lb rfl))) F S rfl fun a F=>?_
   refine wE (ev_move rfl) F S rfl fun a F=>?_
   obtain ⟨z1, hz1, hm⟩ := bind_some hm
   refine wE (ev_int rfl rfl (bo_sub hz1)) F S rfl fun a F=>?_
   obtain ⟨y1, hy1, hm⟩ := bind_some hm
   refine wE (ev_idxO h1 hy1 tu38 ts3 rfl rfl) F S rfl fun a F=>?_
   obtain ⟨cs1, hr1, hq1⟩ := elemO h1 hy1
   obtain rfl := rep_int hr1
   refine wE (ev_load1 tu3 rfl rfl (hq1 _ _ 2 rfl)) F S rfl fun a F=>?_
   refine wE (ev_int rfl rfl (bo_neq _ _ _ _)) F S rfl fun a F=>?_
   refine wpList_nil ?_
   refine then_n ?_
   obtain ⟨hc3, hm⟩ | ⟨hc3, hm⟩ := ite_or hm
   ·refine wp_condT F rfl hc3 ?_
    refine wp_seq ?_
    refine wp_region_lit ?_
    refine wE (ev_build (parts := [(0, .const (.i6 5)), (1, .const (.i6 (-1)))]) (vs := [(0, .i6 5), (1, .i6 (-1))]) rfl (fun w => tb26_0_1 5 (-1) w)) F S rfl fun a F=>?_
    refine wl_storeC (wn rfl) rfl F S rfl rfl (vs := [.i6 5, .i6 (-1)]) rfl ts26 (one_cons rfl (one_cons rfl one_nil)) (k := 1) rfl (lb rfl) (c' := #[.i6 5, .i6 (-1)]) rfl rfl ?_; clear S; intro w S
    refine wpList_nil ?_
    refine then_n ?_
    refine wp_ret ?_
    refine then_r ?_
    obtain rfl := sinj hm
    refine post_r _ F rfl (ar_cons (resA rfl tu26 rfl (box_ptr (cells := [.i6 5, .i6 (-1)]) 1 rfl 0 rfl (lb rfl) w S) ts26) ar_nil) ?_
    replace S : St g1 [] fr w := St.tail [] _ S
    exact ⟨_, rfl, g1, l1, S, rfl⟩
   ·refine wp_condF F rfl hc3 ?_
    refine wp_skip ?_
    refine then_n ?_
    refine wp_seq ?_
    refine wp_region_lit ?_
    refine wE (ev_build (parts := []) (vs := []) rfl (fun w => tb26_  w)) F S rfl fun a F=>?_
    refine wl_storeC (wn rfl) rfl F S rfl rfl (vs := [.i6 0, .i6 0]) rfl ts26 (one_cons rfl (one_cons rfl one_nil)) (k := 1) rfl (lb rfl) (c' := #[.i6 0, .i6 0]) rfl rfl ?_; clear S; intro w S
    refine wpList_nil ?_
    refine then_n ?_
    refine wp_ret ?_
    obtain rfl := sinj hm
    refine post_r _ F rfl (ar_cons (resA rfl tu26 rfl (box_ptr (cells := [.i6 0, .i6 0]) 1 rfl 0 rfl (lb rfl) w S) ts26) ar_nil) ?_
    replace S : St g1 [] fr w := St.tail [] _ S
    exact ⟨_, rfl, g1, l1, S, rfl⟩

theorem syntax_Print_ok {g : Gh} {fr : Hl} {w : World} {r : ByteArray × Fault} (t_ : SyntaxTree) (vt_1 : Value) (ht_1 : RepSl g t_.Nodes vt_1) (S : St g [] fr w) (hm : syntax_Print t_ = some r) :
  Calls Try.prog 12 [.agg #[vt_1]].toArray w (fun en w' => ∃ v, en = .returned v ∧ ∃ (g' : Gh), Le g g' ∧ St g' [] fr w' ∧ .tuple #[.string r.1, .agg #[.i6 r.2.Code, .i6 r.2.Index]] = v) := by
 unfold syntax_Print at hm
 refine calls_enter (fn := Try.f12) Try.func12 rfl Try.ntmps12 (lb rfl) ?_
 intro a F
 replace F : Fr 73 a [(0, .agg #[vt_1])] := F
 refine wp_seq ?_
 refine wp_region_lit ?_
 refine wl_boxC (wn rfl) rfl rfl rfl F S rfl rfl ?_; clear F a S; rintro b1 a w F S
 refine wE (ev_assign rfl) F S rfl fun a F=>?_
 refine wl_alloc (wn rfl) rfl tz26 (cs := [.i6 0, .i6 0]) rfl F S rfl rfl ?_; clear F a S; rintro b2 a w F S
 refine wpList_nil ?_
 refine then_n ?_
 refine wp_seq ?_
 refine wp_seq ?_
 refine wp_region_lit ?_
 refine wE (ev_loadA tu24 rfl (cs := [vt_1]) ts24 rfl (box_ptr (cells := [vt_1]) 1 rfl 0 rfl (lb rfl))) F S rfl fun a F=>?_
 obtain ⟨y1, hy1, hm⟩ := bind_some hm
 refine wl_call0 (wn rfl) rfl F rfl (syntax_Validate_ok (fr := (fl [[bx b2 #[.i6 0, .i6 0] 26], [bx b1 #[vt_1] 24]] fr)) t_ vt_1 ht_1 S hy1) rfl tc14 rfl rfl ?_; clear F a S
 rintro _ a w ⟨g1, l1, S, rfl⟩ F; replace S : St g1 [[bx b2 #[.i6 0, .i6 0] 26], [bx b1 #[vt_1] 24]] fr w := S
 refine wl_alloc (wn rfl) rfl tz26 (cs := [.i6 0, .i6 0]) rfl F S rfl rfl ?_; clear F a S; rintro b3 a w F S
 refine wl_storeC (wn rfl) rfl F S rfl rfl (vs := [.i6 y1.Code, .i6 y1.Index]) rfl ts26 (one_cons rfl (one_cons rfl one_nil)) (k := 0) rfl (lb rfl) (c' := #[.i6 y1.Code, .i6 y1.Index]) rfl rfl ?_; clear S; intro w S
 refine wpList_nil ?_
 refine then_n ?_
 refine wp_seq ?_
 refine wp_region_lit ?_
 refine wE (ev_loadA tu26 rfl (cs := [.i6 y1.Code, .i6 y1.Index]) ts26 rfl (box_ptr (cells := [.i6 y1.Code, .i6 y1.Index]) 0 rfl 0 rfl (lb rfl))) F S rfl fun a F=>?_
 refine wE (ev_build (parts := []) (vs := []) rfl (fun w => tb26_  w)) F S rfl fun a F=>?_
 refine wE (ev_neS tu26 tqa26 tqb26 tqc26 (xs := [.i6 y1.Code, .i6 y1.Index]) (ys := [.i6 0, .i6 0]) rfl rfl ⟨_, _, rfl, by decide, ⟨_, _, rfl, rfl, leaf_int tu3⟩, ⟨_, _, rfl, by decide, ⟨_, _, rfl, rfl, leaf_int tu3⟩, rfl⟩⟩) F S rfl fun a F=>?_
 refine wpList_nil ?_
 refine then_n ?_
 obtain ⟨hc1, hm⟩ | ⟨hc1, hm⟩ := ite_or hm
 ·refine wp_condT F rfl hc1 ?_
  refine wp_seq ?_
  refine wp_dv [] mo S ?_; clear S; intro ok1 w S
  refine dv_ev ok1 0 rfl (ev_loadA tu26 rfl (cs := [.i6 y1.Code, .i6 y1.Index]) ts26 rfl (box_ptr (cells := [.i6 y1.Code, .i6 y1.Index]) 0 rfl 0 rfl (lb rfl))) F S rfl fun a F=>?_
  refine dv_et ok1 1 rfl (ev_assign rfl) F rfl fun a F=>?_
  refine dv_op ok1 2 rfl [] ?_
  refine wl_storeC (wn rfl) rfl F S rfl rfl (vs := [.i6 y1.Code, .i6 y1.Index]) rfl ts26 (one_cons rfl (one_cons rfl one_nil)) (k := 1) rfl (lb rfl) (c' := #[.i6 y1.Code, .i6 y1.Index]) rfl rfl ?_; clear S; intro w S
  refine dv_nx trivial ?_
  refine dv_fin ok1 ?_
  refine then_n ?_
  refine wp_ret ?_
  refine then_r ?_
  obtain rfl := sinj hm
  refine post_r _ F rfl (ar_cons (resT rfl) (ar_cons (resA rfl tu26 rfl (box_ptr (cells := [.i6 y1.Code, .i6 y1.Index]) 1 rfl 0 rfl (lb rfl) w S) ts26) ar_nil)) ?_
  replace S : St g1 [] fr w := St.tail [] _ S
  exact ⟨_, rfl, g1, l1, S, rfl⟩
 ·refine wp_condF F rfl hc1 ?_
  refine wp_skip ?_
  refine then_n ?_
  refine wp_seq ?_
  refine wp_region_lit ?_
  refine wE (ev_fieldAddr' tu24 tf24_0 (z := 0) ts22 rfl ⟨_, rfl⟩ rfl) F S rfl fun a F=>?_
  refine wE (ev_load1 tu22 rfl rfl (box_ptr (cells := [vt_1]) 2 rfl 0 rfl (lb rfl))) F S rfl fun a F=>?_
  refine wE (ev_lenSh ht_1 rfl tu22) F S rfl fun a F=>?_
  obtain ⟨y2, hy2, hm⟩ := bind_some hm
  refine wl_make (wn rfl) rfl tu47 te9 (fun g => (show Rep.rep g ByteArray.empty _ from rfl)) rfl hy2 (by decide) F S rfl rfl ?_; clear F a S; rintro v1 c1 a w h1 F S
  refine wE (ev_assign rfl) F S rfl fun a F=>?_
  refine wpList_nil ?_
  refine then_n ?_
  refine wp_cut (fun a w => ∃ (x1 : List ByteArray) (v2 : Value) (c2 : Hl) (g2 : Gh), Fr 73 a [(5, v2), (3, bp b2 0)] ∧ Le g1 g2 ∧ St g2 [c2, [bx b2 #[.i6 0, .i6 0] 26]] fr w ∧ OwnS g2 x1 v2 c2 ∧ syntax_Print.j1 x1 = some r) ?_ ?_
  ·refine wp_seq ?_
   refine wp_region_lit ?_
   refine wE (ev_fieldAddr' tu24 tf24_0 (z := 0) ts22 rfl ⟨_, rfl⟩ rfl) F S rfl fun a F=>?_
   refine wE (ev_load1 tu22 rfl rfl (box_ptr (cells := [vt_1]) 3 rfl 0 rfl (lb rfl))) F S rfl fun a F=>?_
   refine wE (ev_lenSh ht_1 rfl tu22) F S rfl fun a F=>?_
   refine wE (ev_move rfl) F S rfl fun a F=>?_
   refine wpList_nil ?_
   refine then_n ?_
   refine wp_block ?_
   obtain ⟨r1, hr2, hm⟩ := bind_some hm
   have hmo1 := hm; clear hm
   refine wp_iter (σ := Int × (List ByteArray)) (ρ := (List ByteArray)) (m := fun s => syntax_Print.l1 t_ s.1 s.2) (I := fun s a w => match s with | (x2, x3) => ∃ (v3 : Value) (c3 : Hl) (g3 : Gh), Fr 73 a [(23, .i6 x2), (22, .i6 (t_.Nodes.length : Int)), (21, vt_1), (5, v3), (3, bp b2 0)] ∧ Le g1 g3 ∧ St g3 [c3, [bx b2 #[.i6 0, .i6 0] 26]] fr w ∧ OwnS g3 x3 v3 c3) hr2 ?_ ?_
   ·dsimp only
    replace S : St g1 [c1, [bx b2 #[.i6 0, .i6 0] 26]] fr w := St.tail [c1, [bx b2 #[.i6 0, .i6 0] 26]] _ ((S.frontC 2 rfl).frontC 1 rfl)
    exact ⟨v1, c1, g1, F.sub ⟨rfl, rfl, rfl, rfl, rfl, trivial⟩, (Le.refl _), S, h1⟩
   ·clear F S; rintro ⟨x2, x3⟩ a w x4 ⟨v3, c3, g3, F, l3, S, h3⟩ hx1 hfin1
    have hm : syntax_Print.l1 t_ x2 x3 = some x4 := hx1; clear hx1
    unfold syntax_Print.l1 at hm
    refine wp_seq ?_
    refine wp_region_lit ?_
    refine wE (ev_int rfl rfl (bo_lss _ _ _ _)) F S rfl fun a F=>?_
    refine wpList_nil ?_
    refine then_n ?_
    refine wp_seq ?_
    obtain ⟨hc2, hm⟩ | ⟨hc2, hm⟩ := ite_or hm
    ·refine wp_condT F rfl hc2 ?_
     refine wp_skip ?_
     refine then_n ?_
     refine wp_cut (fun a w => ∃ (x5 : List ByteArray) (v4 : Value) (c4 : Hl) (g4 : Gh), Fr 73 a [(23, .i6 x2), (22, .i6 (t_.Nodes.length : Int)), (21, vt_1), (5, v4), (3, bp b2 0)] ∧ Le g3 g4 ∧ St g4 [c4, [bx b2 #[.i6 0, .i6 0] 26]] fr w ∧ OwnS g4 x5 v4 c4 ∧ syntax_Print.j2 x2 x5 = some x4) ?_ ?_
     ·refine wp_block ?_
      refine wp_seq ?_
      refine wp_region_lit ?_
      refine wE (ev_move rfl) F S rfl fun a F=>?_
      obtain ⟨y4, hy4, hm⟩ := bind_some hm
      obtain ⟨cs2, hr3, hp1⟩ := elemS (ht_1.mono (l1.trans l3)) hy4
      obtain ⟨v5, rfl, h5⟩ := rep_Node hr3
      refine wE (ev_idxS (ht_1.mono (l1.trans l3)) hy4 tu22 ts50 rfl rfl) F S rfl fun a F=>?_
      refine wE (ev_loadA tu50 rfl (cs := [.string y4.Label, v5]) ts50 rfl (ptr_mono (cks := [c3, [bx b2 #[.i6 0, .i6 0] 26]]) (fr := fr) hp1 (Le.refl _))) F S rfl fun a F=>?_
      refine wl_alloc (wn rfl) rfl tz50 (cs := [.string ByteArray.empty, nilS]) rfl F S rfl rfl ?_; clear F a S; rintro b4 a w F S
      refine wE (ev_assign rfl) F S rfl fun a F=>?_
      refine wl_storeC (wn rfl) rfl F S rfl rfl (vs := [.string y4.Label, v5]) rfl ts50 (one_cons rfl (one_cons h5.one one_nil)) (k := 0) rfl (lb rfl) (c' := #[.string y4.Label, v5]) rfl rfl ?_; clear S; intro w S
      refine wpList_nil ?_
      refine then_n ?_
      refine wp_seq ?_
      refine wp_region_lit ?_
      refine wE (ev_move rfl) F S rfl fun a F=>?_
      refine wE (ev_move rfl) F S rfl fun a F=>?_
      refine wE (ev_fieldAddr' tu50 tf50_0 (z := 0) ts9 rfl ⟨_, rfl⟩ rfl) F S rfl fun a F=>?_
      refine wE (ev_load1 tu9 rfl rfl (box_ptr (cells := [.string y4.Label]) 0 rfl 0 rfl (lb rfl))) F S rfl fun a F=>?_
      obtain ⟨y5, hy5, hm⟩ := bind_some hm
      refine wE (ev_idxO h3 hy5 tu47 ts9 rfl rfl) F S rfl fun a F=>?_
      obtain ⟨y6, hy6, hm⟩ := bind_some hm
      refine wl_storeW (z' := y4.Label) (wn rfl) rfl F S h3 hy5 rfl rfl (us := [.string y4.Label]) rfl ts9 (one_cons rfl one_nil) (k := 1) rfl rfl (show Rep.rep _ y4.Label _ from rfl) rfl ?_; clear S
      rintro c5 w h6 S; replace S : St g3 [[bx b4 #[.string y4.Label, v5] 50], c5, [bx b2 #[.i6 0, .i6 0] 26]] fr w := S; replace h6 : OwnS g3 y6 v3 c5 := sinj hy6 ▸ h6
      replace F := F.sub (e' := [(31, .string y4.Label), (30, bp b4 0), (29, .i6 x2), (28, v3), (6, .i6 x2), (7, bp b4 0), (27, .agg #[.string y4.Label, v5]), (26, (elemP vt_1 x2 2)), (25, .i6 x2), (24, .bool (decide (x2 < (t_.Nodes.length : Int)))), (23, .i6 x2), (22, .i6 (t_.Nodes.length : Int)), (21, vt_1), (5, v3), (3, bp b2 0)]) ⟨rfl, rfl, rfl, rfl, rfl, rfl, rfl, rfl, rfl, rfl, rfl, rfl, rfl, rfl, rfl, trivial⟩
      refine wpList_nil ?_
      refine then_n ?_
      refine wp_seq ?_
      refine wp_seq ?_
      refine wp_region_lit ?_
      refine wE (ev_fieldAddr' tu50 tf50_1 (z := 0) ts38 rfl ⟨_, rfl⟩ rfl) F S rfl fun a F=>?_
      refine wE (ev_load1 tu38 rfl rfl (box_ptr (cells := [v5]) 0 rfl 1 rfl (lb rfl))) F S rfl fun a F=>?_
      refine wE (ev_lenSh h5 rfl tu38) F S rfl fun a F=>?_
      refine wE (ev_int rfl rfl (bo_eql _ _ _ _)) F S rfl fun a F=>?_
      refine wpList_nil ?_
      refine then_n ?_
      obtain ⟨hc3, hm⟩ | ⟨hc3, hm⟩ := ite_or hm
      ·refine wp_condT F rfl hc3 ?_
       refine wp_exit ?_
       refine then_e ?_
       refine inb_x ?_
       refine then_n ?_
       replace S : St g3 [c5, [bx b2 #[.i6 0, .i6 0] 26]] fr w := St.tail [c5, [bx b2 #[.i6 0, .i6 0] 26]] _ ((S.frontC 2 rfl).frontC 2 rfl)
       exact ⟨y6, v3, c5, g3, F.sub ⟨rfl, rfl, rfl, rfl, rfl, trivial⟩, (Le.refl _), S, h6, hm⟩
      ·refine wp_condF F rfl hc3 ?_
       refine wp_skip ?_
       refine then_n ?_
       refine wp_cut (fun a w => ∃ (x6 : List ByteArray) (v6 : Value) (c6 : Hl) (g5 : Gh), Fr 73 a [(6, .i6 x2), (23, .i6 x2), (22, .i6 (t_.Nodes.length : Int)), (21, vt_1), (5, v6), (3, bp b2 0)] ∧ Le g3 g5 ∧ St g5 [c6, [bx b2 #[.i6 0, .i6 0] 26]] fr w ∧ OwnS g5 x6 v6 c6 ∧ syntax_Print.j3 x2 x6 = some x4) ?_ ?_
       ·refine wp_seq ?_
        refine wp_region_lit ?_
        refine wE (ev_fieldAddr' tu50 tf50_1 (z := 0) ts38 rfl ⟨_, rfl⟩ rfl) F S rfl fun a F=>?_
        refine wE (ev_load1 tu38 rfl rfl (box_ptr (cells := [v5]) 0 rfl 1 rfl (lb rfl))) F S rfl fun a F=>?_
        refine wE (ev_lenSh h5 rfl tu38) F S rfl fun a F=>?_
        refine wE (ev_move rfl) F S rfl fun a F=>?_
        refine wpList_nil ?_
        refine then_n ?_
        refine wp_block ?_
        obtain ⟨r2, hr5, hm⟩ := bind_some hm
        have hmo2 := hm; clear hm
        refine wp_iter (σ := Int × (List ByteArray)) (ρ := (List ByteArray)) (m := fun s => syntax_Print.l2 x2 y4 s.1 s.2) (I := fun s a w => match s with | (x7, x8) => ∃ (v7 : Value) (c8 : Hl) (g6 : Gh), Fr 73 a [(40, .i6 x7), (39, .i6 (y4.Children.length : Int)), (38, v5), (6, .i6 x2), (23, .i6 x2), (22, .i6 (t_.Nodes.length : Int)), (21, vt_1), (5, v7), (3, bp b2 0)] ∧ Le g3 g6 ∧ St g6 [c8, [bx b2 #[.i6 0, .i6 0] 26]] fr w ∧ OwnS g6 x8 v7 c8) hr5 ?_ ?_
        ·dsimp only
         replace S : St g3 [c5, [bx b2 #[.i6 0, .i6 0] 26]] fr w := St.tail [c5, [bx b2 #[.i6 0, .i6 0] 26]] _ ((S.frontC 2 rfl).frontC 2 rfl)
         exact ⟨v3, c5, g3, F.sub ⟨rfl, rfl, rfl, rfl, rfl, rfl, rfl, rfl, rfl, trivial⟩, (Le.refl _), S, h6⟩
        ·clear F S; rintro ⟨x7, x8⟩ a w x9 ⟨v7, c8, g6, F, l6, S, h9⟩ hx2 hfin2
         have hm : syntax_Print.l2 x2 y4 x7 x8 = some x9 := hx2; clear hx2
         unfold syntax_Print.l2 at hm
         refine wp_seq ?_
         refine wp_region_lit ?_
         refine wE (ev_int rfl rfl (bo_lss _ _ _ _)) F S rfl fun a F=>?_
         refine wpList_nil ?_
         refine then_n ?_
         refine wp_seq ?_
         obtain ⟨hc4, hm⟩ | ⟨hc4, hm⟩ := ite_or hm
         ·refine wp_condT F rfl hc4 ?_
          refine wp_skip ?_
          refine then_n ?_
          refine wp_seq ?_
          refine wp_block ?_
          refine wp_seq ?_
          refine wp_region_lit ?_
          obtain ⟨y10, hy10, hm⟩ := bind_some hm
          obtain ⟨cs4, hr6, hp2⟩ := elemS (h5.mono l6) hy10
          obtain rfl := rep_int hr6
          refine wE (ev_idxS (h5.mono l6) hy10 tu38 ts3 rfl rfl) F S rfl fun a F=>?_
          refine wE (ev_load1 tu3 rfl rfl (ptr_mono (cks := [c8, [bx b2 #[.i6 0, .i6 0] 26]]) (fr := fr) hp2 (Le.refl _))) F S rfl fun a F=>?_
          refine wE (ev_assign rfl) F S rfl fun a F=>?_
          refine wpList_nil ?_
          refine then_n ?_
          refine wp_dv [] mo S ?_; clear S; intro ok2 w S
          refine dv_et ok2 0 rfl (ev_move rfl) F rfl fun a F=>?_
          refine dv_et ok2 1 rfl (ev_move rfl) F rfl fun a F=>?_
          obtain ⟨y11, hy11, hm⟩ := bind_some hm
          refine dv_et ok2 2 rfl (ev_idxO h9 hy11 tu47 ts9 rfl rfl) F rfl fun a F=>?_
          obtain ⟨cs5, hr7, hq3⟩ := elemO h9 hy11
          obtain rfl := rep_str hr7
          refine dv_ev ok2 3 rfl (ev_load1 tu9 rfl rfl (hq3 _ _ 0 rfl)) F S rfl fun a F=>?_
          refine dv_et ok2 4 rfl (ev_move rfl) F rfl fun a F=>?_
          refine dv_et ok2 5 rfl (ev_move rfl) F rfl fun a F=>?_
          obtain ⟨y12, hy12, hm⟩ := bind_some hm
          refine dv_et ok2 6 rfl (ev_idxO h9 hy12 tu47 ts9 rfl rfl) F rfl fun a F=>?_
          obtain ⟨cs6, hr8, hq4⟩ := elemO h9 hy12
          obtain rfl := rep_str hr8
          refine dv_ev ok2 7 rfl (ev_load1 tu9 rfl rfl (hq4 _ _ 0 rfl)) F S rfl fun a F=>?_
          obtain ⟨z5, hz5, hm⟩ := bind_some hm
          refine dv_et ok2 8 rfl (ev_str rfl rfl (bs_add hz5)) F rfl fun a F=>?_
          obtain ⟨z6, hz6, hm⟩ := bind_some hm
          refine dv_et ok2 9 rfl (ev_str rfl rfl (bs_add hz6)) F rfl fun a F=>?_
          obtain ⟨y13, hy13, hm⟩ := bind_some hm
          refine dv_et ok2 10 rfl (ev_idxO h9 hy13 tu47 ts9 rfl rfl) F rfl fun a F=>?_
          refine dv_op ok2 11 rfl [] ?_
          obtain ⟨y14, hy14, hm⟩ := bind_some hm
          refine wl_storeW (z' := z6) (wn rfl) rfl F S h9 hy13 rfl rfl (us := [.string z6]) rfl ts9 (one_cons rfl one_nil) (k := 0) rfl rfl (show Rep.rep _ z6 _ from rfl) rfl ?_; clear S
          rintro c9 w h10 S; replace S : St g6 [c9, [bx b2 #[.i6 0, .i6 0] 26]] fr w := S; replace h10 : OwnS g6 y14 v7 c9 := sinj hy14 ▸ h10
          replace F := F.sub (e' := [(53, .string z6), (52, .string z5), (51, .string y12), (49, .i6 y10), (48, v7), (47, .string y11), (45, .i6 x2), (44, v7), (9, .i6 y10), (43, .i6 y10), (42, (elemP v5 x7 1)), (41, .bool (decide (x7 < (y4.Children.length : Int)))), (40, .i6 x7), (39, .i6 (y4.Children.length : Int)), (38, v5), (6, .i6 x2), (23, .i6 x2), (22, .i6 (t_.Nodes.length : Int)), (21, vt_1), (5, v7), (3, bp b2 0)]) ⟨rfl, rfl, rfl, rfl, rfl, rfl, rfl, rfl, rfl, rfl, rfl, rfl, rfl, rfl, rfl, rfl, rfl, rfl, rfl, rfl, rfl, trivial⟩
          refine dv_nx trivial ?_
          refine dv_fin ok2 ?_
          refine inb_n ?_
          refine then_n ?_
          refine wp_region_lit ?_
          obtain ⟨z7, hz7, hm⟩ := bind_some hm
          refine wE (ev_int rfl rfl (bo_add hz7)) F S rfl fun a F=>?_
          refine wE (ev_move rfl) F S rfl fun a F=>?_
          refine wpList_nil ?_
          refine then_n ?_
          obtain rfl := sinj hm
          refine ⟨_, rfl, ?_⟩
          dsimp only
          exact ⟨v7, c9, g6, F.sub ⟨rfl, rfl, rfl, rfl, rfl, rfl, rfl, rfl, rfl, trivial⟩, l6, S, h10⟩
         ·refine wp_condF F rfl hc4 ?_
          refine wp_exit ?_
          refine then_e ?_
          refine then_e ?_
          refine inb_x ?_
          refine then_n ?_
          obtain rfl := sinj hm
          obtain rfl := hfin2 _ rfl
          clear hm
          have hm : (syntax_Print.j3 x2 x8 : Option (Step (Int × (List ByteArray)) (List ByteArray))) = some _ := hmo2
          exact ⟨x8, v7, c8, g6, F.sub ⟨rfl, rfl, rfl, rfl, rfl, rfl, trivial⟩, l6, S, h9, hm⟩
       ·clear F S hm; rintro a w ⟨x6, v6, c6, g5, F, l5, S, h7, hm⟩
        refine wp_region_lit ?_
        refine wE (ev_move rfl) F S rfl fun a F=>?_
        refine wE (ev_move rfl) F S rfl fun a F=>?_
        refine wE (ev_move rfl) F S rfl fun a F=>?_
        refine wE (ev_move rfl) F S rfl fun a F=>?_
        obtain ⟨y7, hy7, hm⟩ := bind_some hm
        refine wE (ev_idxO h7 hy7 tu47 ts9 rfl rfl) F S rfl fun a F=>?_
        obtain ⟨cs3, hr4, hq2⟩ := elemO h7 hy7
        obtain rfl := rep_str hr4
        refine wE (ev_load1 tu9 rfl rfl (hq2 _ _ 0 rfl)) F S rfl fun a F=>?_
        obtain ⟨z3, hz3, hm⟩ := bind_some hm
        refine wE (ev_str rfl rfl (bs_add hz3)) F S rfl fun a F=>?_
        obtain ⟨z4, hz4, hm⟩ := bind_some hm
        refine wE (ev_str rfl rfl (bs_add hz4)) F S rfl fun a F=>?_
        obtain ⟨y8, hy8, hm⟩ := bind_some hm
        refine wE (ev_idxO h7 hy8 tu47 ts9 rfl rfl) F S rfl fun a F=>?_
        obtain ⟨y9, hy9, hm⟩ := bind_some hm
        refine wl_storeW (z' := z4) (wn rfl) rfl F S h7 hy8 rfl rfl (us := [.string z4]) rfl ts9 (one_cons rfl one_nil) (k := 0) rfl rfl (show Rep.rep _ z4 _ from rfl) rfl ?_; clear S
        rintro c7 w h8 S; replace S : St g5 [c7, [bx b2 #[.i6 0, .i6 0] 26]] fr w := S; replace h8 : OwnS g5 y9 v6 c7 := sinj hy9 ▸ h8
        replace F := F.sub (e' := [(63, .string z4), (62, .string z3), (61, .string y7), (59, .i6 x2), (58, v6), (57, .i6 x2), (56, v6), (6, .i6 x2), (23, .i6 x2), (22, .i6 (t_.Nodes.length : Int)), (21, vt_1), (5, v6), (3, bp b2 0)]) ⟨rfl, rfl, rfl, rfl, rfl, rfl, rfl, rfl, rfl, rfl, rfl, rfl, rfl, trivial⟩
        refine wpList_nil ?_
        refine inb_n ?_
        refine then_n ?_
        exact ⟨y9, v6, c7, g5, F.sub ⟨rfl, rfl, rfl, rfl, rfl, trivial⟩, l5, S, h8, hm⟩
     ·clear F S hm; rintro a w ⟨x5, v4, c4, g4, F, l4, S, h4, hm⟩
      refine wp_region_lit ?_
      obtain ⟨z2, hz2, hm⟩ := bind_some hm
      refine wE (ev_int rfl rfl (bo_add hz2)) F S rfl fun a F=>?_
      refine wE (ev_move rfl) F S rfl fun a F=>?_
      refine wpList_nil ?_
      refine then_n ?_
      obtain rfl := sinj hm
      refine ⟨_, rfl, ?_⟩
      dsimp only
      exact ⟨v4, c4, g4, F.sub ⟨rfl, rfl, rfl, rfl, rfl, trivial⟩, (l3.trans l4), S, h4⟩
    ·refine wp_condF F rfl hc2 ?_
     refine wp_exit ?_
     refine then_e ?_
     refine then_e ?_
     refine inb_x ?_
     refine then_n ?_
     obtain rfl := sinj hm
     obtain rfl := hfin1 _ rfl
     clear hm
     have hm : (syntax_Print.j1 x3 : Option (ByteArray × Fault)) = some _ := hmo1
     exact ⟨x3, v3, c3, g3, F.sub ⟨rfl, rfl, trivial⟩, l3, S, h3, hm⟩
  ·clear F S hm; rintro a w ⟨x1, v2, c2, g2, F, l2, S, h2, hm⟩
   refine wp_seq ?_
   refine wp_region_lit ?_
   refine wE (ev_move rfl) F S rfl fun a F=>?_
   refine wE (ev_move rfl) F S rfl fun a F=>?_
   refine wE (ev_lenOw h2 rfl tu47) F S rfl fun a F=>?_
   obtain ⟨z1, hz1, hm⟩ := bind_some hm
   refine wE (ev_int rfl rfl (bo_sub hz1)) F S rfl fun a F=>?_
   obtain ⟨y3, hy3, hm⟩ := bind_some hm
   refine wE (ev_idxO h2 hy3 tu47 ts9 rfl rfl) F S rfl fun a F=>?_
   obtain ⟨cs1, hr1, hq1⟩ := elemO h2 hy3
   obtain rfl := rep_str hr1
   refine wE (ev_load1 tu9 rfl rfl (hq1 _ _ 0 rfl)) F S rfl fun a F=>?_
   refine wE (ev_build (parts := []) (vs := []) rfl (fun w => tb26_  w)) F S rfl fun a F=>?_
   refine wE (ev_assign rfl) F S rfl fun a F=>?_
   refine wl_storeC (wn rfl) rfl F S rfl rfl (vs := [.i6 0, .i6 0]) rfl ts26 (one_cons rfl (one_cons rfl one_nil)) (k := 1) rfl (lb rfl) (c' := #[.i6 0, .i6 0]) rfl rfl ?_; clear S; intro w S
   refine wpList_nil ?_
   refine then_n ?_
   refine wp_ret ?_
   obtain rfl := sinj hm
   refine post_r _ F rfl (ar_cons (resT rfl) (ar_cons (resA rfl tu26 rfl (box_ptr (cells := [.i6 0, .i6 0]) 1 rfl 0 rfl (lb rfl) w S) ts26) ar_nil)) ?_
   replace S : St g2 [] fr w := St.tail [] _ S
   exact ⟨_, rfl, g2, (l1.trans l2), S, rfl⟩

theorem changeforgeequal_Ints_ok {g : Gh} {fr : Hl} {w : World} {r : Bool} (a_ : (List Int)) (va_1 : Value) (ha_1 : RepSl g a_ va_1) (b_ : (List Int)) (vb_1 : Value) (hb_1 : RepSl g b_ vb_1) (S : St g [] fr w) (hm : changeforgeequal_Ints a_ b_ = some r) :
  Calls Try.prog 20 [va_1, vb_1].toArray w (fun en w' => ∃ v, en = .returned v ∧ ∃ (g' : Gh), Le g g' ∧ St g' [] fr w' ∧ .bool r = v) := by
 unfold changeforgeequal_Ints at hm
 refine calls_enter (fn := Try.f20) Try.func20 rfl Try.ntmps20 (lb rfl) ?_
 intro a F
 replace F : Fr 26 a [(0, va_1), (1, vb_1)] := F
 refine wp_seq ?_
 refine wp_region_lit ?_
 refine wE (ev_assign rfl) F S rfl fun a F=>?_
 refine wpList_nil ?_
 refine then_n ?_
 refine wp_seq ?_
 refine wp_seq ?_
 refine wp_region_lit ?_
 refine wE (ev_move rfl) F S rfl fun a F=>?_
 refine wE (ev_lenSh ha_1 rfl tu38) F S rfl fun a F=>?_
 refine wE (ev_move rfl) F S rfl fun a F=>?_
 refine wE (ev_lenSh hb_1 rfl tu38) F S rfl fun a F=>?_
 refine wE (ev_int rfl rfl (bo_neq _ _ _ _)) F S rfl fun a F=>?_
 refine wpList_nil ?_
 refine then_n ?_
 obtain ⟨hc1, hm⟩ | ⟨hc1, hm⟩ := ite_or hm
 ·refine wp_condT F rfl hc1 ?_
  refine wp_seq ?_
  refine wp_region_lit ?_
  refine wE (ev_assign rfl) F S rfl fun a F=>?_
  refine wpList_nil ?_
  refine then_n ?_
  refine wp_ret ?_
  refine then_r ?_
  obtain rfl := sinj hm
  refine post_r _ F rfl (ar_cons (resT rfl) ar_nil) ?_
  exact ⟨_, rfl, g, (Le.refl _), S, rfl⟩
 ·refine wp_condF F rfl hc1 ?_
  refine wp_skip ?_
  refine then_n ?_
  refine wp_cut (fun a w => ∃ (g1 : Gh), Fr 26 a [] ∧ Le g g1 ∧ St g1 [] fr w ∧ changeforgeequal_Ints.j1 = some r) ?_ ?_
  ·refine wp_seq ?_
   refine wp_region_lit ?_
   refine wE (ev_assign rfl) F S rfl fun a F=>?_
   refine wpList_nil ?_
   refine then_n ?_
   refine wp_block ?_
   obtain ⟨r1, hr1, hm⟩ := bind_some hm
   have hmo1 := hm; clear hm
   refine wp_iter (σ := Int) (ρ := Bool ⊕ Unit) (m := fun s => changeforgeequal_Ints.l1 a_ b_ s) (I := fun x1 a w => ∃ (g2 : Gh), Fr 26 a [(5, .i6 x1), (0, va_1), (1, vb_1)] ∧ Le g g2 ∧ St g2 [] fr w) hr1 ?_ ?_
   ·exact ⟨g, F.sub ⟨rfl, rfl, rfl, trivial⟩, (Le.refl _), S⟩
   ·clear F S; rintro x1 a w x2 ⟨g2, F, l2, S⟩ hx1 hfin1
    have hm : changeforgeequal_Ints.l1 a_ b_ x1 = some x2 := hx1; clear hx1
    unfold changeforgeequal_Ints.l1 at hm
    refine wp_seq ?_
    refine wp_seq ?_
    refine wp_region_lit ?_
    refine wE (ev_move rfl) F S rfl fun a F=>?_
    refine wE (ev_move rfl) F S rfl fun a F=>?_
    refine wE (ev_lenSh ha_1 rfl tu38) F S rfl fun a F=>?_
    refine wE (ev_int rfl rfl (bo_lss _ _ _ _)) F S rfl fun a F=>?_
    refine wpList_nil ?_
    refine then_n ?_
    obtain ⟨hc2, hm⟩ | ⟨hc2, hm⟩ := ite_or hm
    ·refine wp_condT F rfl hc2 ?_
     refine wp_skip ?_
     refine then_n ?_
     refine wp_seq ?_
     refine wp_block ?_
     refine wp_seq ?_
     refine wp_quiet mo (by kernel_rfl) S ?_
     refine wq_ev (wn rfl) (ev_move rfl) F rfl rfl ?_; clear F a; intro a F
     refine wq_ev (wn rfl) (ev_move rfl) F rfl rfl ?_; clear F a; intro a F
     obtain ⟨y1, hy1, hm⟩ := bind_some hm
     obtain ⟨cs1, hr2, hp1⟩ := elemS (ha_1.mono l2) hy1
     obtain rfl := rep_int hr2
     refine wq_ev (wn rfl) (ev_idxS (ha_1.mono l2) hy1 tu38 ts3 rfl rfl) F rfl rfl ?_; clear F a; intro a F
     refine wq_ev (wn rfl) (ev_load1 tu3 rfl rfl (ptr_mono (cks := []) (fr := fr) hp1 (Le.refl _))) F rfl rfl ?_; clear F a; intro a F
     refine wq_ev (wn rfl) (ev_move rfl) F rfl rfl ?_; clear F a; intro a F
     refine wq_ev (wn rfl) (ev_move rfl) F rfl rfl ?_; clear F a; intro a F
     obtain ⟨y2, hy2, hm⟩ := bind_some hm
     obtain ⟨cs2, hr3, hp2⟩ := elemS (hb_1.mono l2) hy2
     obtain rfl := rep_int hr3
     refine wq_ev (wn rfl) (ev_idxS (hb_1.mono l2) hy2 tu38 ts3 rfl rfl) F rfl rfl ?_; clear F a; intro a F
     refine wq_ev (wn rfl) (ev_load1 tu3 rfl rfl (ptr_mono (cks := []) (fr := fr) hp2 (Le.refl _))) F rfl rfl ?_; clear F a; intro a F
     refine wq_ev (wn rfl) (ev_int rfl rfl (bo_neq _ _ _ _)) F rfl rfl ?_; clear F a; intro a F
     refine wq_nil ?_; clear S; intro w S
     refine then_n ?_
     obtain ⟨hc3, hm⟩ | ⟨hc3, hm⟩ := ite_or hm
     ·refine wp_condT F rfl hc3 ?_
      refine wp_seq ?_
      refine wp_region_lit ?_
      refine wE (ev_assign rfl) F S rfl fun a F=>?_
      refine wpList_nil ?_
      refine then_n ?_
      refine wp_ret ?_
      refine inb_r ?_
      refine then_r ?_
      refine then_r ?_
      refine inb_r ?_
      refine then_r ?_
      obtain rfl := sinj hm
      obtain rfl := hfin1 _ rfl
      clear hm
      have hm : (some false : Option Bool) = some _ := hmo1
      obtain rfl := sinj hm
      refine post_r _ F rfl (ar_cons (resT rfl) ar_nil) ?_
      exact ⟨_, rfl, g2, l2, S, rfl⟩
     ·refine wp_condF F rfl hc3 ?_
      refine wp_skip ?_
      refine inb_n ?_
      refine then_n ?_
      refine wp_region_lit ?_
      refine wE (ev_move rfl) F S rfl fun a F=>?_
      obtain ⟨z1, hz1, hm⟩ := bind_some hm
      refine wE (ev_int rfl rfl (bo_add hz1)) F S rfl fun a F=>?_
      refine wE (ev_assign rfl) F S rfl fun a F=>?_
      refine wpList_nil ?_
      refine then_n ?_
      obtain rfl := sinj hm
      refine ⟨_, rfl, ?_⟩
      exact ⟨g2, F.sub ⟨rfl, rfl, rfl, trivial⟩, l2, S⟩
    ·refine wp_condF F rfl hc2 ?_
     refine wp_exit ?_
     refine then_e ?_
     refine then_e ?_
     refine inb_x ?_
     refine then_n ?_
     obtain rfl := sinj hm
     obtain rfl := hfin1 _ rfl
     clear hm
     have hm : (changeforgeequal_Ints.j1 : Option Bool) = some _ := hmo1
     exact ⟨g2, F.sub trivial, l2, S, hm⟩
  ·clear F S hm; rintro a w ⟨g1, F, l1, S, hm⟩
   refine wp_seq ?_
   refine wp_region_lit ?_
   refine wE (ev_assign rfl) F S rfl fun a F=>?_
   refine wpList_nil ?_
   refine then_n ?_
   refine wp_ret ?_
   obtain rfl := sinj hm
   refine post_r _ F rfl (ar_cons (resT rfl) ar_nil) ?_
   exact ⟨_, rfl, g1, l1, S, rfl⟩

theorem changeforgeequal_Syntax_ok {g : Gh} {fr : Hl} {w : World} {r : Bool} (a_ : SyntaxTree) (va_1 : Value) (ha_1 : RepSl g a_.Nodes va_1) (b_ : SyntaxTree) (vb_1 : Value) (hb_1 : RepSl g b_.Nodes vb_1) (S : St g [] fr w) (hm : changeforgeequal_Syntax a_ b_ = some r) :
  Calls Try.prog 15 [.agg #[va_1], .agg #[vb_1]].toArray w (fun en w' => ∃ v, en = .returned v ∧ ∃ (g' : Gh), Le g g' ∧ St g' [] fr w' ∧ .bool r = v) := by
 unfold changeforgeequal_Syntax at hm
 refine calls_enter (fn := Try.f15) Try.func15 rfl Try.ntmps15 (lb rfl) ?_
 intro a F
 replace F : Fr 49 a [(0, .agg #[va_1]), (1, .agg #[vb_1])] := F
 refine wp_seq ?_
 refine wp_region_lit ?_
 refine wl_boxC (wn rfl) rfl rfl rfl F S rfl rfl ?_; clear F a S; rintro b1 a w F S
 refine wl_boxC (wn rfl) rfl rfl rfl F S rfl rfl ?_; clear F a S; rintro b2 a w F S
 refine wE (ev_assign rfl) F S rfl fun a F=>?_
 refine wpList_nil ?_
 refine then_n ?_
 refine wp_seq ?_
 refine wp_seq ?_
 refine wp_region_lit ?_
 refine wE (ev_fieldAddr' tu24 tf24_0 (z := 0) ts22 rfl ⟨_, rfl⟩ rfl) F S rfl fun a F=>?_
 refine wE (ev_load1 tu22 rfl rfl (box_ptr (cells := [va_1]) 1 rfl 0 rfl (lb rfl))) F S rfl fun a F=>?_
 refine wE (ev_lenSh ha_1 rfl tu22) F S rfl fun a F=>?_
 refine wE (ev_fieldAddr' tu24 tf24_0 (z := 0) ts22 rfl ⟨_, rfl⟩ rfl) F S rfl fun a F=>?_
 refine wE (ev_load1 tu22 rfl rfl (box_ptr (cells := [vb_1]) 0 rfl 0 rfl (lb rfl))) F S rfl fun a F=>?_
 refine wE (ev_lenSh hb_1 rfl tu22) F S rfl fun a F=>?_
 refine wE (ev_int rfl rfl (bo_neq _ _ _ _)) F S rfl fun a F=>?_
 refine wpList_nil ?_
 refine then_n ?_
 obtain ⟨hc1, hm⟩ | ⟨hc1, hm⟩ := ite_or hm
 ·refine wp_condT F rfl hc1 ?_
  refine wp_seq ?_
  refine wp_region_lit ?_
  refine wE (ev_assign rfl) F S rfl fun a F=>?_
  refine wpList_nil ?_
  refine then_n ?_
  refine wp_ret ?_
  refine then_r ?_
  obtain rfl := sinj hm
  refine post_r _ F rfl (ar_cons (resT rfl) ar_nil) ?_
  replace S : St g [] fr w := St.tail [] _ S
  exact ⟨_, rfl, g, (Le.refl _), S, rfl⟩
 ·refine wp_condF F rfl hc1 ?_
  refine wp_skip ?_
  refine then_n ?_
  refine wp_cut (fun a w => ∃ (g1 : Gh), Fr 49 a [] ∧ Le g g1 ∧ St g1 [] fr w ∧ changeforgeequal_Syntax.j1 = some r) ?_ ?_
  ·refine wp_seq ?_
   refine wp_region_lit ?_
   refine wE (ev_assign rfl) F S rfl fun a F=>?_
   refine wpList_nil ?_
   refine then_n ?_
   refine wp_block ?_
   obtain ⟨r1, hr1, hm⟩ := bind_some hm
   have hmo1 := hm; clear hm
   refine wp_iter (σ := Int) (ρ := Bool ⊕ Unit) (m := fun s => changeforgeequal_Syntax.l1 a_ b_ s) (I := fun x1 a w => ∃ (g2 : Gh), Fr 49 a [(5, .i6 x1), (3, bp b2 0), (2, bp b1 0)] ∧ Le g g2 ∧ St g2 [[bx b2 #[vb_1] 24], [bx b1 #[va_1] 24]] fr w) hr1 ?_ ?_
   ·exact ⟨g, F.sub ⟨rfl, rfl, rfl, trivial⟩, (Le.refl _), S⟩
   ·clear F S; rintro x1 a w x2 ⟨g2, F, l2, S⟩ hx1 hfin1
    have hm : changeforgeequal_Syntax.l1 a_ b_ x1 = some x2 := hx1; clear hx1
    unfold changeforgeequal_Syntax.l1 at hm
    refine wp_seq ?_
    refine wp_seq ?_
    refine wp_region_lit ?_
    refine wE (ev_move rfl) F S rfl fun a F=>?_
    refine wE (ev_fieldAddr' tu24 tf24_0 (z := 0) ts22 rfl ⟨_, rfl⟩ rfl) F S rfl fun a F=>?_
    refine wE (ev_load1 tu22 rfl rfl (box_ptr (cells := [va_1]) 1 rfl 0 rfl (lb rfl))) F S rfl fun a F=>?_
    refine wE (ev_lenSh ha_1 rfl tu22) F S rfl fun a F=>?_
    refine wE (ev_int rfl rfl (bo_lss _ _ _ _)) F S rfl fun a F=>?_
    refine wpList_nil ?_
    refine then_n ?_
    obtain ⟨hc2, hm⟩ | ⟨hc2, hm⟩ := ite_or hm
    ·refine wp_condT F rfl hc2 ?_
     refine wp_skip ?_
     refine then_n ?_
     refine wp_seq ?_
     refine wp_block ?_
     refine wp_seq ?_
     refine wp_quiet mo (by kernel_rfl) S ?_
     refine wq_ev (wn rfl) (ev_fieldAddr' tu24 tf24_0 (z := 0) ts22 rfl ⟨_, rfl⟩ rfl) F rfl rfl ?_; clear F a; intro a F
     refine wq_ev (wn rfl) (ev_load1 tu22 rfl rfl (box_ptr (cells := [va_1]) 1 rfl 0 rfl (lb rfl))) F rfl rfl ?_; clear F a; intro a F
     refine wq_ev (wn rfl) (ev_move rfl) F rfl rfl ?_; clear F a; intro a F
     obtain ⟨y1, hy1, hm⟩ := bind_some hm
     obtain ⟨cs1, hr2, hp1⟩ := elemS (ha_1.mono l2) hy1
     obtain ⟨v1, rfl, h1⟩ := rep_Node hr2
     refine wq_ev (wn rfl) (ev_idxS (ha_1.mono l2) hy1 tu22 ts50 rfl rfl) F rfl rfl ?_; clear F a; intro a F
     have hp2 := PtrC.field hp1 0 1 (lb rfl)
     have hp2 : PtrC g2 (addP (elemP va_1 x1 2) 0) [.string y1.Label] := hp2
     refine wq_ev (wn rfl) (ev_fieldAddr' tu50 tf50_0 (z := 0) ts9 rfl hp1.ptr rfl) F rfl rfl ?_; clear F a; intro a F
     refine wq_ev (wn rfl) (ev_load1 tu9 rfl rfl (ptr_mono (cks := [[bx b2 #[vb_1] 24], [bx b1 #[va_1] 24]]) (fr := fr) hp2 (Le.refl _))) F rfl rfl ?_; clear F a; intro a F
     refine wq_ev (wn rfl) (ev_fieldAddr' tu24 tf24_0 (z := 0) ts22 rfl ⟨_, rfl⟩ rfl) F rfl rfl ?_; clear F a; intro a F
     refine wq_ev (wn rfl) (ev_load1 tu22 rfl rfl (box_ptr (cells := [vb_1]) 0 rfl 0 rfl (lb rfl))) F rfl rfl ?_; clear F a; intro a F
     refine wq_ev (wn rfl) (ev_move rfl) F rfl rfl ?_; clear F a; intro a F
     obtain ⟨y2, hy2, hm⟩ := bind_some hm
     obtain ⟨cs2, hr3, hp3⟩ := elemS (hb_1.mono l2) hy2
     obtain ⟨v2, rfl, h2⟩ := rep_Node hr3
     refine wq_ev (wn rfl) (ev_idxS (hb_1.mono l2) hy2 tu22 ts50 rfl rfl) F rfl rfl ?_; clear F a; intro a F
     have hp4 := PtrC.field hp3 0 1 (lb rfl)
     have hp4 : PtrC g2 (addP (elemP vb_1 x1 2) 0) [.string y2.Label] := hp4
     refine wq_ev (wn rfl) (ev_fieldAddr' tu50 tf50_0 (z := 0) ts9 rfl hp3.ptr rfl) F rfl rfl ?_; clear F a; intro a F
     refine wq_ev (wn rfl) (ev_load1 tu9 rfl rfl (ptr_mono (cks := [[bx b2 #[vb_1] 24], [bx b1 #[va_1] 24]]) (fr := fr) hp4 (Le.refl _))) F rfl rfl ?_; clear F a; intro a F
     refine wq_ev (wn rfl) (ev_str rfl rfl (bs_neq _ _ _)) F rfl rfl ?_; clear F a; intro a F
     refine wq_ev (wn rfl) (ev_move rfl) F rfl rfl ?_; clear F a; intro a F
     obtain ⟨x3, hx2, hm⟩ := bind_some hm
     refine wq_cut 15 (fun a => Fr 49 a [(48, .bool x3), (5, .i6 x1), (3, bp b2 0), (2, bp b1 0)]) ?_ ?_
     ·clear hm; obtain ⟨hc3, hm⟩ | ⟨hc3, hm⟩ := ite_or hx2
      ·refine wq_skip rfl rfl rfl rfl (ne_ft hc3) F rfl rfl ?_; clear F a; intro a F
       refine wq_skip rfl rfl rfl rfl (ne_ft hc3) F rfl rfl ?_; clear F a; intro a F
       refine wq_skip rfl rfl rfl rfl (ne_ft hc3) F rfl rfl ?_; clear F a; intro a F
       refine wq_skip rfl rfl rfl rfl (ne_ft hc3) F rfl rfl ?_; clear F a; intro a F
       refine wq_skip rfl rfl rfl rfl (ne_ft hc3) F rfl rfl ?_; clear F a; intro a F
       refine wq_skip rfl rfl rfl rfl (ne_ft hc3) F rfl rfl ?_; clear F a; intro a F
       refine wq_skip rfl rfl rfl rfl (ne_ft hc3) F rfl rfl ?_; clear F a; intro a F
       refine wq_skip rfl rfl rfl rfl (ne_ft hc3) F rfl rfl ?_; clear F a; intro a F
       refine wq_skip rfl rfl rfl rfl (ne_ft hc3) F rfl rfl ?_; clear F a; intro a F
       refine wq_skip rfl rfl rfl rfl (ne_ft hc3) F rfl rfl ?_; clear F a; intro a F
       refine wq_skip rfl rfl rfl rfl (ne_ft hc3) F rfl rfl ?_; clear F a; intro a F
       refine wq_skip rfl rfl rfl rfl (ne_ft hc3) F rfl rfl ?_; clear F a; intro a F
       refine wq_skip rfl rfl rfl rfl (ne_ft hc3) F rfl rfl ?_; clear F a; intro a F
       refine wq_skip rfl rfl rfl rfl (ne_ft hc3) F rfl rfl ?_; clear F a; intro a F
       refine wq_ev (wn rfl) (ev_pickT rfl hc3 rfl) F rfl rfl ?_; clear F a; intro a F
       obtain rfl := sinj hm
       refine wq_nil ?_; exact F.sub ⟨rfl, rfl, rfl, rfl, trivial⟩
      ·refine wq_ev (wg F rfl rfl rfl rfl hc3) (ev_fieldAddr' tu24 tf24_0 (z := 0) ts22 rfl ⟨_, rfl⟩ rfl) F rfl rfl ?_; clear F a; intro a F
       refine wq_ev (wg F rfl rfl rfl rfl hc3) (ev_load1 tu22 rfl rfl (box_ptr (cells := [va_1]) 1 rfl 0 rfl (lb rfl))) F rfl rfl ?_; clear F a; intro a F
       refine wq_ev (wg F rfl rfl rfl rfl hc3) (ev_move rfl) F rfl rfl ?_; clear F a; intro a F
       obtain ⟨y3, hy3, hm⟩ := bind_some hm
       obtain ⟨cs3, hr4, hp5⟩ := elemS (ha_1.mono l2) hy3
       obtain ⟨v3, rfl, h3⟩ := rep_Node hr4
       refine wq_ev (wg F rfl rfl rfl rfl hc3) (ev_idxS (ha_1.mono l2) hy3 tu22 ts50 rfl rfl) F rfl rfl ?_; clear F a; intro a F
       have hp6 := PtrC.field hp5 1 1 (lb rfl)
       have hp6 : PtrC g2 (addP (elemP va_1 x1 2) 1) [v3] := hp6
       refine wq_ev (wg F rfl rfl rfl rfl hc3) (ev_fieldAddr' tu50 tf50_1 (z := 0) ts38 rfl hp5.ptr rfl) F rfl rfl ?_; clear F a; intro a F
       refine wq_ev (wg F rfl rfl rfl rfl hc3) (ev_load1 tu38 rfl rfl (ptr_mono (cks := [[bx b2 #[vb_1] 24], [bx b1 #[va_1] 24]]) (fr := fr) hp6 (Le.refl _))) F rfl rfl ?_; clear F a; intro a F
       refine wq_ev (wg F rfl rfl rfl rfl hc3) (ev_fieldAddr' tu24 tf24_0 (z := 0) ts22 rfl ⟨_, rfl⟩ rfl) F rfl rfl ?_; clear F a; intro a F
       refine wq_ev (wg F rfl rfl rfl rfl hc3) (ev_load1 tu22 rfl rfl (box_ptr (cells := [vb_1]) 0 rfl 0 rfl (lb rfl))) F rfl rfl ?_; clear F a; intro a F
       refine wq_ev (wg F rfl rfl rfl rfl hc3) (ev_move rfl) F rfl rfl ?_; clear F a; intro a F
       obtain ⟨y4, hy4, hm⟩ := bind_some hm
       obtain ⟨cs4, hr5, hp7⟩ := elemS (hb_1.mono l2) hy4
       obtain ⟨v4, rfl, h4⟩ := rep_Node hr5
       refine wq_ev (wg F rfl rfl rfl rfl hc3) (ev_idxS (hb_1.mono l2) hy4 tu22 ts50 rfl rfl) F rfl rfl ?_; clear F a; intro a F
       have hp8 := PtrC.field hp7 1 1 (lb rfl)
       have hp8 : PtrC g2 (addP (elemP vb_1 x1 2) 1) [v4] := hp8
       refine wq_ev (wg F rfl rfl rfl rfl hc3) (ev_fieldAddr' tu50 tf50_1 (z := 0) ts38 rfl hp7.ptr rfl) F rfl rfl ?_; clear F a; intro a F
       refine wq_ev (wg F rfl rfl rfl rfl hc3) (ev_load1 tu38 rfl rfl (ptr_mono (cks := [[bx b2 #[vb_1] 24], [bx b1 #[va_1] 24]]) (fr := fr) hp8 (Le.refl _))) F rfl rfl ?_; clear F a; intro a F
       obtain ⟨y5, hy5, hm⟩ := bind_some hm
       refine wq_call (wg F rfl rfl rfl rfl hc3) rfl (xs := [.tmp 39, .tmp 45]) (vs := [v3, v4]) (cap := []) F rfl rfl tc20 (v := .bool y5) (fun w S => (changeforgeequal_Ints_ok (g := g2) (fr := (fl [[bx b2 #[vb_1] 24], [bx b1 #[va_1] 24]] fr)) (w := w) y3.Children v3 h3 y4.Children v4 h4 S hy5).mono (by rintro en w' ⟨_, rfl, g2, l2, S2, rfl⟩; exact ⟨rfl, S2.weak l2⟩)) rfl rfl ?_; clear F a; intro a F
       refine wq_ev (wg F rfl rfl rfl rfl hc3) (ev_not rfl) F rfl rfl ?_; clear F a; intro a F
       refine wq_ev (wn rfl) (ev_pickF rfl hc3 rfl) F rfl rfl ?_; clear F a; intro a F
       obtain rfl := sinj hm
       refine wq_nil ?_; exact F.sub ⟨rfl, rfl, rfl, rfl, trivial⟩
     clear F; intro a F
     refine wq_nil ?_; clear S; intro w S
     refine then_n ?_
     obtain ⟨hc4, hm⟩ | ⟨hc4, hm⟩ := ite_or hm
     ·refine wp_condT F rfl hc4 ?_
      refine wp_seq ?_
      refine wp_region_lit ?_
      refine wE (ev_assign rfl) F S rfl fun a F=>?_
      refine wpList_nil ?_
      refine then_n ?_
      refine wp_ret ?_
      refine inb_r ?_
      refine then_r ?_
      refine then_r ?_
      refine inb_r ?_
      refine then_r ?_
      obtain rfl := sinj hm
      obtain rfl := hfin1 _ rfl
      clear hm
      have hm : (some false : Option Bool) = some _ := hmo1
      obtain rfl := sinj hm
      refine post_r _ F rfl (ar_cons (resT rfl) ar_nil) ?_
      replace S : St g2 [] fr w := St.tail [] _ S
      exact ⟨_, rfl, g2, l2, S, rfl⟩
     ·refine wp_condF F rfl hc4 ?_
      refine wp_skip ?_
      refine inb_n ?_
      refine then_n ?_
      refine wp_region_lit ?_
      refine wE (ev_move rfl) F S rfl fun a F=>?_
      obtain ⟨z1, hz1, hm⟩ := bind_some hm
      refine wE (ev_int rfl rfl (bo_add hz1)) F S rfl fun a F=>?_
      refine wE (ev_assign rfl) F S rfl fun a F=>?_
      refine wpList_nil ?_
      refine then_n ?_
      obtain rfl := sinj hm
      refine ⟨_, rfl, ?_⟩
      exact ⟨g2, F.sub ⟨rfl, rfl, rfl, trivial⟩, l2, S⟩
    ·refine wp_condF F rfl hc2 ?_
     refine wp_exit ?_
     refine then_e ?_
     refine then_e ?_
     refine inb_x ?_
     refine then_n ?_
     obtain rfl := sinj hm
     obtain rfl := hfin1 _ rfl
     clear hm
     have hm : (changeforgeequal_Syntax.j1 : Option Bool) = some _ := hmo1
     replace S : St g2 [] fr w := St.tail [] _ S
     exact ⟨g2, F.sub trivial, l2, S, hm⟩
  ·clear F S hm; rintro a w ⟨g1, F, l1, S, hm⟩
   refine wp_seq ?_
   refine wp_region_lit ?_
   refine wE (ev_assign rfl) F S rfl fun a F=>?_
   refine wpList_nil ?_
   refine then_n ?_
   refine wp_ret ?_
   obtain rfl := sinj hm
   refine post_r _ F rfl (ar_cons (resT rfl) ar_nil) ?_
   exact ⟨_, rfl, g1, l1, S, rfl⟩

theorem changeforgelaw2_leaf_ok {g : Gh} {fr : Hl} {w : World} {r : Node} (label : ByteArray) (S : St g [] fr w) (hm : changeforgelaw2_leaf label = some r) :
  Calls Try.prog 29 [.string label].toArray w (fun en w' => ∃ v, en = .returned v ∧ ∃ (g' : Gh) (v1 : Value), Le g g' ∧ St g' [] fr w' ∧ RepSl g' r.Children v1 ∧ .agg #[.string r.Label, v1] = v) := by
 unfold changeforgelaw2_leaf at hm
 refine calls_enter (fn := Try.f29) Try.func29 rfl Try.ntmps29 (lb rfl) ?_
 intro a F
 replace F : Fr 5 a [(0, .string label)] := F
 refine wp_seq ?_
 refine wp_region_lit ?_
 refine wl_alloc (wn rfl) rfl tz50 (cs := [.string ByteArray.empty, nilS]) rfl F S rfl rfl ?_; clear F a S; rintro b1 a w F S
 refine wpList_nil ?_
 refine then_n ?_
 refine wp_seq ?_
 refine wp_region_lit ?_
 refine wE (ev_move rfl) F S rfl fun a F=>?_
 refine wE (ev_build (parts := [(0, .tmp 3)]) (vs := [(0, .string label)]) rfl (fun w => tb50_0 label w)) F S rfl fun a F=>?_
 refine wl_storeC (wn rfl) rfl F S rfl rfl (vs := [.string label, nilS]) rfl ts50 (one_cons rfl (one_cons rfl one_nil)) (k := 0) rfl (lb rfl) (c' := #[.string label, nilS]) rfl rfl ?_; clear S; intro w S
 refine wpList_nil ?_
 refine then_n ?_
 refine wp_ret ?_
 obtain rfl := sinj hm
 refine post_r _ F rfl (ar_cons (resA rfl tu50 rfl (box_ptr (cells := [.string label, nilS]) 0 rfl 0 rfl (lb rfl) w S) ts50) ar_nil) ?_
 replace S : St g [] fr w := St.tail [] _ S
 exact ⟨_, rfl, g, (nilS), (Le.refl _), S, (RepSl.nil _), rfl⟩

theorem changeforgelaw2_parsed_ok {g : Gh} {fr : Hl} {w : World} {r : Bool}  (S : St g [] fr w) (hm : changeforgelaw2_parsed = some r) :
  Calls Try.prog 16 [].toArray w (fun en w' => ∃ v, en = .returned v ∧ ∃ (g' : Gh), Le g g' ∧ St g' [] fr w' ∧ .bool r = v) := by
 unfold changeforgelaw2_parsed at hm
 refine calls_enter (fn := Try.f16) Try.func16 rfl Try.ntmps16 (lb rfl) ?_
 intro a F
 replace F : Fr 36 a [] := F
 refine wp_seq ?_
 refine wp_region_lit ?_
 refine wE (ev_assign rfl) F S rfl fun a F=>?_
 refine wpList_nil ?_
 refine then_n ?_
 refine wp_seq ?_
 refine wp_region_lit ?_
 obtain ⟨y1, hy1, hm⟩ := bind_some hm
 refine wl_call0 (wn rfl) rfl F rfl (syntax_Parse_ok (⟨#[40, 102, 32, 120, 32, 40, 103, 41, 41]⟩ : ByteArray) S hy1) rfl tc10 rfl rfl ?_; clear F a S
 rintro _ a w ⟨g1, v1, c1, l1, S, h1, rfl⟩ F; replace S : St g1 [c1] fr w := S
 refine wE (ev_move rfl) F S rfl fun a F=>?_
 refine wE (ev_extract rfl rfl) F S rfl fun a F=>?_
 refine wE (ev_extract rfl rfl) F S rfl fun a F=>?_
 refine wl_alloc (wn rfl) rfl tz24 (cs := [nilS]) rfl F S rfl rfl ?_; clear F a S; rintro b1 a w F S
 refine wl_alloc (wn rfl) rfl tz26 (cs := [.i6 0, .i6 0]) rfl F S rfl rfl ?_; clear F a S; rintro b2 a w F S
 refine wl_storeC (wn rfl) rfl F S rfl rfl (vs := [v1]) rfl ts24 (one_cons (OwnS.one h1) one_nil) (k := 1) rfl (lb rfl) (c' := #[v1]) rfl rfl ?_; clear S; intro w S
 refine wl_storeC (wn rfl) rfl F S rfl rfl (vs := [.i6 y1.2.Code, .i6 y1.2.Index]) rfl ts26 (one_cons rfl (one_cons rfl one_nil)) (k := 0) rfl (lb rfl) (c' := #[.i6 y1.2.Code, .i6 y1.2.Index]) rfl rfl ?_; clear S; intro w S
 refine wpList_nil ?_
 refine then_n ?_
 refine wp_seq ?_
 refine wp_region_lit ?_
 refine wE (ev_loadA tu24 rfl (cs := [v1]) ts24 rfl (box_ptr (cells := [v1]) 1 rfl 0 rfl (lb rfl))) F S rfl fun a F=>?_
 obtain ⟨g2, l2, S, h2⟩ : ∃ gz, Le g1 gz ∧ St gz [[bx b2 #[.i6 y1.2.Code, .i6 y1.2.Index] 26], [bx b1 #[v1] 24]] fr w ∧ RepSl gz y1.1.Nodes v1 := ⟨_, Le.add _ _, S.freeze 2 rfl, OwnS.freeze (S.front 2 rfl) h1⟩
 obtain ⟨y2, hy2, hm⟩ := bind_some hm
 refine wl_call0 (wn rfl) rfl F rfl (syntax_Print_ok (fr := (fl [[bx b2 #[.i6 y1.2.Code, .i6 y1.2.Index] 26], [bx b1 #[v1] 24]] fr)) y1.1 v1 h2 S hy2) rfl tc12 rfl rfl ?_; clear F a S
 rintro _ a w ⟨g3, l3, S, rfl⟩ F; replace S : St g3 [[bx b2 #[.i6 y1.2.Code, .i6 y1.2.Index] 26], [bx b1 #[v1] 24]] fr w := S
 refine wE (ev_move rfl) F S rfl fun a F=>?_
 refine wE (ev_extract rfl rfl) F S rfl fun a F=>?_
 refine wE (ev_extract rfl rfl) F S rfl fun a F=>?_
 refine wl_alloc (wn rfl) rfl tz26 (cs := [.i6 0, .i6 0]) rfl F S rfl rfl ?_; clear F a S; rintro b3 a w F S
 refine wE (ev_assign rfl) F S rfl fun a F=>?_
 refine wl_storeC (wn rfl) rfl F S rfl rfl (vs := [.i6 y2.2.Code, .i6 y2.2.Index]) rfl ts26 (one_cons rfl (one_cons rfl one_nil)) (k := 0) rfl (lb rfl) (c' := #[.i6 y2.2.Code, .i6 y2.2.Index]) rfl rfl ?_; clear S; intro w S
 refine wpList_nil ?_
 refine then_n ?_
 refine wp_seq ?_
 refine wp_cut1 (fun a w => ∃ (x1 : Bool) (g4 : Gh), Fr 36 a [(0, .bool x1)] ∧ Le g3 g4 ∧ St g4 [] fr w ∧ changeforgelaw2_parsed.j1 x1 = some r) ?_ ?_
 ·refine wp_dv [] mo S ?_; clear S; intro ok1 w S
  refine dv_et ok1 0 rfl (ev_fieldAddr' tu26 tf26_0 (z := 0) ts3 rfl ⟨_, rfl⟩ rfl) F rfl fun a F=>?_
  refine dv_ev ok1 1 rfl (ev_load1 tu3 rfl rfl (box_ptr (cells := [.i6 y1.2.Code]) 1 rfl 0 rfl (lb rfl))) F S rfl fun a F=>?_
  refine dv_et ok1 2 rfl (ev_int rfl rfl (bo_eql _ _ _ _)) F rfl fun a F=>?_
  refine dv_et ok1 3 rfl (ev_move rfl) F rfl fun a F=>?_
  obtain ⟨hc1, hm⟩ | ⟨hc1, hm⟩ := ite_or hm
  ·refine dv_etg ok1 4 rfl rfl rfl rfl rfl hc1 (ev_fieldAddr' tu26 tf26_0 (z := 0) ts3 rfl ⟨_, rfl⟩ rfl) F rfl rfl fun a F=>?_
   refine dv_evg ok1 5 rfl rfl rfl rfl rfl hc1 (ev_load1 tu3 rfl rfl (box_ptr (cells := [.i6 y2.2.Code]) 0 rfl 0 rfl (lb rfl))) F S rfl rfl fun a F=>?_
   refine dv_etg ok1 6 rfl rfl rfl rfl rfl hc1 (ev_int rfl rfl (bo_eql _ _ _ _)) F rfl rfl fun a F=>?_
   refine dv_et ok1 7 rfl (ev_pickT rfl hc1 rfl) F rfl fun a F=>?_
   refine dv_et ok1 8 rfl (ev_move rfl) F rfl fun a F=>?_
   obtain ⟨hc2, hm⟩ | ⟨hc2, hm⟩ := ite_or hm
   ·refine dv_etg ok1 9 rfl rfl rfl rfl rfl hc2 (ev_move rfl) F rfl rfl fun a F=>?_
    refine dv_etg ok1 10 rfl rfl rfl rfl rfl hc2 (ev_str rfl rfl (bs_eql _ _ _)) F rfl rfl fun a F=>?_
    refine dv_et ok1 11 rfl (ev_pickT rfl hc2 rfl) F rfl fun a F=>?_
    refine dv_et ok1 12 rfl (ev_move rfl) F rfl fun a F=>?_
    obtain ⟨hc3, hm⟩ | ⟨hc3, hm⟩ := ite_or hm
    ·refine dv_evg ok1 13 rfl rfl rfl rfl rfl hc3 (ev_loadA tu24 rfl (cs := [v1]) ts24 rfl (box_ptr (cells := [v1]) 2 rfl 0 rfl (lb rfl))) F S rfl rfl fun a F=>?_
     obtain ⟨y3, hy3, hm⟩ := bind_some hm
     obtain ⟨y4, hy4, hm⟩ := bind_some hm
     refine dv_cut [0, 1, 2, 3, 4, 5, 6, 7, 8, 9, 10, 11, 12, 13, 14, 15, 16, 17] [(13, .agg #[v1])] (fun a w => ∃ (v5 v6 v7 : Value) (c3 : Hl) (g7 : Gh), Fr 36 a [(31, .agg #[.string (⟨#[102]⟩ : ByteArray), v5]), (29, .agg #[.string y4.Label, v6]), (28, .agg #[.string y3.Label, v7]), (27, .agg #[v1]), (26, .bool (decide (y2.1 = (⟨#[40, 102, 32, 120, 32, 103, 41]⟩ : ByteArray)))), (1, bp b1 0), (0, .bool false)] ∧ Le g3 g7 ∧ St g7 [c3, [bx b1 #[v1] 24]] fr w ∧ OwnS g7 ([0, 1] : List Int) v5 c3 ∧ RepSl g7 y4.Children v6 ∧ RepSl g7 y3.Children v7 ∧ changeforgelaw2_parsed.j2 y1 y3 y4 = some r) ?_ ?_
     ·intro HJ
      refine dv_fork ok1 14 [16] (fk 14 rfl [(13, .agg #[v1])] ?_ (fk 16 rfl [(13, .agg #[v1])] ?_ trivial))
      ·refine wl_call0 (wg F rfl rfl rfl rfl hc3) rfl F rfl (changeforgelaw2_leaf_ok (fr := (fl [[bx b3 #[.i6 y2.2.Code, .i6 y2.2.Index] 26], [bx b2 #[.i6 y1.2.Code, .i6 y1.2.Index] 26], [bx b1 #[v1] 24]] fr)) (⟨#[120]⟩ : ByteArray) S hy3) rfl tc29 rfl rfl ?_; clear F a S
       rintro _ a w ⟨g5, v2, l5, S, h3, rfl⟩ F; replace S : St g5 [[bx b3 #[.i6 y2.2.Code, .i6 y2.2.Index] 26], [bx b2 #[.i6 y1.2.Code, .i6 y1.2.Index] 26], [bx b1 #[v1] 24]] fr w := S
       refine dv_nx ⟨yl_evg rfl rfl rfl rfl rfl hc3 (ev_loadA tu24 rfl (cs := [v1]) ts24 rfl (box_ptr (cells := [v1]) 2 rfl 0 rfl (lb rfl))) F S, trivial⟩ ?_
       refine dv_fork ok1 15 [16] (fk 15 rfl [(13, .agg #[v1])] ?_ (fk 16 rfl [(13, .agg #[v1])] ?_ trivial))
       ·refine wl_call0 (wg F rfl rfl rfl rfl hc3) rfl F rfl (changeforgelaw2_leaf_ok (fr := (fl [[bx b3 #[.i6 y2.2.Code, .i6 y2.2.Index] 26], [bx b2 #[.i6 y1.2.Code, .i6 y1.2.Index] 26], [bx b1 #[v1] 24]] fr)) (⟨#[103]⟩ : ByteArray) S hy4) rfl tc29 rfl rfl ?_; clear F a S
        rintro _ a w ⟨g6, v3, l6, S, h4, rfl⟩ F; replace S : St g6 [[bx b3 #[.i6 y2.2.Code, .i6 y2.2.Index] 26], [bx b2 #[.i6 y1.2.Code, .i6 y1.2.Index] 26], [bx b1 #[v1] 24]] fr w := S
        refine dv_nx ⟨yl_evg rfl rfl rfl rfl rfl hc3 (ev_loadA tu24 rfl (cs := [v1]) ts24 rfl (box_ptr (cells := [v1]) 2 rfl 0 rfl (lb rfl))) F S, trivial⟩ ?_
        refine dv_op ok1 16 rfl [(13, .agg #[v1])] ?_
        refine wl_lit (l := ([0, 1] : List Int)) (vs := [.i6 0, .i6 1]) (parts := [(0, .const (.i6 0)), (1, .const (.i6 1))]) (wg F rfl rfl rfl rfl hc3) rfl rfl rfl tu38 te3 (sz_cons rfl (sz_cons rfl sz_nil)) rfl (Cat.cons (show Rep.rep _ 0 _ from rfl) (Cat.cons (show Rep.rep _ 1 _ from rfl) (Cat.nil _))) (coa_cons rfl (coa_cons rfl coa_nil)) rfl F S rfl rfl ?_; clear F a S
        rintro v4 c2 a w h5 F S
        refine dv_nx ⟨yl_evg rfl rfl rfl rfl rfl hc3 (ev_loadA tu24 rfl (cs := [v1]) ts24 rfl (box_ptr (cells := [v1]) 3 rfl 0 rfl (lb rfl))) F S, trivial⟩ ?_
        refine dv_etg ok1 17 rfl rfl rfl rfl rfl hc3 (ev_build (parts := [(0, .const (.string (⟨#[102]⟩ : ByteArray))), (1, .tmp 30)]) (vs := [(0, .string (⟨#[102]⟩ : ByteArray)), (1, v4)]) rfl (fun w => tb50_0_1 (⟨#[102]⟩ : ByteArray) v4 (OwnS.isSl h5) w)) F rfl rfl fun a F=>?_
        refine dv_join (HJ _ _ ?_)
        replace S : St g6 [c2, [bx b1 #[v1] 24]] fr w := St.tail [c2, [bx b1 #[v1] 24]] _ ((S.frontC 3 rfl).frontC 1 rfl)
        exact ⟨v4, v3, v2, c2, g6, F.sub ⟨rfl, rfl, rfl, rfl, rfl, rfl, rfl, trivial⟩, (l5.trans l6), S, h5, h4, (h3.mono l6), hm⟩
       ·refine wl_lit (l := ([0, 1] : List Int)) (vs := [.i6 0, .i6 1]) (parts := [(0, .const (.i6 0)), (1, .const (.i6 1))]) (wg F rfl rfl rfl rfl hc3) rfl rfl rfl tu38 te3 (sz_cons rfl (sz_cons rfl sz_nil)) rfl (Cat.cons (show Rep.rep _ 0 _ from rfl) (Cat.cons (show Rep.rep _ 1 _ from rfl) (Cat.nil _))) (coa_cons rfl (coa_cons rfl coa_nil)) rfl F S rfl rfl ?_; clear F a S
        rintro v4 c2 a w h5 F S
        refine dv_nx ⟨yl_evg rfl rfl rfl rfl rfl hc3 (ev_loadA tu24 rfl (cs := [v1]) ts24 rfl (box_ptr (cells := [v1]) 3 rfl 0 rfl (lb rfl))) F S, trivial⟩ ?_
        refine dv_etg ok1 17 rfl rfl rfl rfl rfl hc3 (ev_build (parts := [(0, .const (.string (⟨#[102]⟩ : ByteArray))), (1, .tmp 30)]) (vs := [(0, .string (⟨#[102]⟩ : ByteArray)), (1, v4)]) rfl (fun w => tb50_0_1 (⟨#[102]⟩ : ByteArray) v4 (OwnS.isSl h5) w)) F rfl rfl fun a F=>?_
        refine dv_op ok1 15 rfl [(13, .agg #[v1])] ?_
        refine wl_call0 (wg F rfl rfl rfl rfl hc3) rfl F rfl (changeforgelaw2_leaf_ok (fr := (fl [c2, [bx b3 #[.i6 y2.2.Code, .i6 y2.2.Index] 26], [bx b2 #[.i6 y1.2.Code, .i6 y1.2.Index] 26], [bx b1 #[v1] 24]] fr)) (⟨#[103]⟩ : ByteArray) S hy4) rfl tc29 rfl rfl ?_; clear F a S
        rintro _ a w ⟨g6, v3, l6, S, h4, rfl⟩ F; replace S : St g6 [c2, [bx b3 #[.i6 y2.2.Code, .i6 y2.2.Index] 26], [bx b2 #[.i6 y1.2.Code, .i6 y1.2.Index] 26], [bx b1 #[v1] 24]] fr w := S
        refine dv_nx ⟨yl_evg rfl rfl rfl rfl rfl hc3 (ev_loadA tu24 rfl (cs := [v1]) ts24 rfl (box_ptr (cells := [v1]) 3 rfl 0 rfl (lb rfl))) F S, trivial⟩ ?_
        refine dv_join (HJ _ _ ?_)
        replace S : St g6 [c2, [bx b1 #[v1] 24]] fr w := St.tail [c2, [bx b1 #[v1] 24]] _ ((S.frontC 3 rfl).frontC 1 rfl)
        exact ⟨v4, v3, v2, c2, g6, F.sub ⟨rfl, rfl, rfl, rfl, rfl, rfl, rfl, trivial⟩, (l5.trans l6), S, (h5.mono l6), h4, (h3.mono l6), hm⟩
      ·refine wl_lit (l := ([0, 1] : List Int)) (vs := [.i6 0, .i6 1]) (parts := [(0, .const (.i6 0)), (1, .const (.i6 1))]) (wg F rfl rfl rfl rfl hc3) rfl rfl rfl tu38 te3 (sz_cons rfl (sz_cons rfl sz_nil)) rfl (Cat.cons (show Rep.rep _ 0 _ from rfl) (Cat.cons (show Rep.rep _ 1 _ from rfl) (Cat.nil _))) (coa_cons rfl (coa_cons rfl coa_nil)) rfl F S rfl rfl ?_; clear F a S
       rintro v4 c2 a w h5 F S
       refine dv_nx ⟨yl_evg rfl rfl rfl rfl rfl hc3 (ev_loadA tu24 rfl (cs := [v1]) ts24 rfl (box_ptr (cells := [v1]) 3 rfl 0 rfl (lb rfl))) F S, trivial⟩ ?_
       refine dv_etg ok1 17 rfl rfl rfl rfl rfl hc3 (ev_build (parts := [(0, .const (.string (⟨#[102]⟩ : ByteArray))), (1, .tmp 30)]) (vs := [(0, .string (⟨#[102]⟩ : ByteArray)), (1, v4)]) rfl (fun w => tb50_0_1 (⟨#[102]⟩ : ByteArray) v4 (OwnS.isSl h5) w)) F rfl rfl fun a F=>?_
       refine dv_op ok1 14 rfl [(13, .agg #[v1])] ?_
       refine wl_call0 (wg F rfl rfl rfl rfl hc3) rfl F rfl (changeforgelaw2_leaf_ok (fr := (fl [c2, [bx b3 #[.i6 y2.2.Code, .i6 y2.2.Index] 26], [bx b2 #[.i6 y1.2.Code, .i6 y1.2.Index] 26], [bx b1 #[v1] 24]] fr)) (⟨#[120]⟩ : ByteArray) S hy3) rfl tc29 rfl rfl ?_; clear F a S
       rintro _ a w ⟨g5, v2, l5, S, h3, rfl⟩ F; replace S : St g5 [c2, [bx b3 #[.i6 y2.2.Code, .i6 y2.2.Index] 26], [bx b2 #[.i6 y1.2.Code, .i6 y1.2.Index] 26], [bx b1 #[v1] 24]] fr w := S
       refine dv_nx ⟨yl_evg rfl rfl rfl rfl rfl hc3 (ev_loadA tu24 rfl (cs := [v1]) ts24 rfl (box_ptr (cells := [v1]) 3 rfl 0 rfl (lb rfl))) F S, trivial⟩ ?_
       refine dv_op ok1 15 rfl [(13, .agg #[v1])] ?_
       refine wl_call0 (wg F rfl rfl rfl rfl hc3) rfl F rfl (changeforgelaw2_leaf_ok (fr := (fl [c2, [bx b3 #[.i6 y2.2.Code, .i6 y2.2.Index] 26], [bx b2 #[.i6 y1.2.Code, .i6 y1.2.Index] 26], [bx b1 #[v1] 24]] fr)) (⟨#[103]⟩ : ByteArray) S hy4) rfl tc29 rfl rfl ?_; clear F a S
       rintro _ a w ⟨g6, v3, l6, S, h4, rfl⟩ F; replace S : St g6 [c2, [bx b3 #[.i6 y2.2.Code, .i6 y2.2.Index] 26], [bx b2 #[.i6 y1.2.Code, .i6 y1.2.Index] 26], [bx b1 #[v1] 24]] fr w := S
       refine dv_nx ⟨yl_evg rfl rfl rfl rfl rfl hc3 (ev_loadA tu24 rfl (cs := [v1]) ts24 rfl (box_ptr (cells := [v1]) 3 rfl 0 rfl (lb rfl))) F S, trivial⟩ ?_
       refine dv_join (HJ _ _ ?_)
       replace S : St g6 [c2, [bx b1 #[v1] 24]] fr w := St.tail [c2, [bx b1 #[v1] 24]] _ ((S.frontC 3 rfl).frontC 1 rfl)
       exact ⟨v4, v3, v2, c2, g6, F.sub ⟨rfl, rfl, rfl, rfl, rfl, rfl, rfl, trivial⟩, (l5.trans l6), S, (h5.mono (l5.trans l6)), h4, (h3.mono l6), hm⟩
     ·clear F S hm; rintro a w ⟨v5, v6, v7, c3, g7, F, l7, S, h6, h7, h8, hm⟩
      refine dv_op ok1 18 rfl [(13, .agg #[v1])] ?_
      obtain ⟨g8, l8, S, h9⟩ : ∃ gz, Le g7 gz ∧ St gz [[bx b1 #[v1] 24]] fr w ∧ RepSl gz ([0, 1] : List Int) v5 := ⟨_, Le.add _ _, S.freeze 0 rfl, OwnS.freeze (S.front 0 rfl) h6⟩
      refine wl_lit (l := ([y3, y4, ({ Label := (⟨#[102]⟩ : ByteArray), Children := ([0, 1] : List Int) } : Node)] : List Node)) (vs := [.agg #[.string y3.Label, v7], .agg #[.string y4.Label, v6], .agg #[.string (⟨#[102]⟩ : ByteArray), v5]]) (parts := [(0, .tmp 28), (1, .tmp 29), (2, .tmp 31)]) (wg F rfl rfl rfl rfl hc3) rfl rfl rfl tu22 te50 (sz_cons rfl (sz_cons rfl (sz_cons rfl sz_nil))) rfl (Cat.cons (rep_Node_mk (x := y3) (h8.mono l8)) (Cat.cons (rep_Node_mk (x := y4) (h7.mono l8)) (Cat.cons (rep_Node_mk (x := ({ Label := (⟨#[102]⟩ : ByteArray), Children := ([0, 1] : List Int) } : Node)) h9) (Cat.nil _)))) (coa_cons rfl (coa_cons rfl (coa_cons rfl coa_nil))) rfl F S rfl rfl ?_; clear F a S
      rintro v8 c4 a w h10 F S
      refine dv_nx ⟨yl_evg rfl rfl rfl rfl rfl hc3 (ev_loadA tu24 rfl (cs := [v1]) ts24 rfl (box_ptr (cells := [v1]) 1 rfl 0 rfl (lb rfl))) F S, trivial⟩ ?_
      refine dv_etg ok1 19 rfl rfl rfl rfl rfl hc3 (ev_build (parts := [(0, .tmp 32)]) (vs := [(0, v8)]) rfl (fun w => tb24_0 v8 (OwnS.isSl h10) w)) F rfl rfl fun a F=>?_
      refine dv_op ok1 20 rfl [] ?_
      obtain ⟨g9, l9, S, h11⟩ : ∃ gz, Le g8 gz ∧ St gz [[bx b1 #[v1] 24]] fr w ∧ RepSl gz ([y3, y4, ({ Label := (⟨#[102]⟩ : ByteArray), Children := ([0, 1] : List Int) } : Node)] : List Node) v8 := ⟨_, Le.add _ _, S.freeze 0 rfl, OwnS.freeze (S.front 0 rfl) h10⟩
      obtain ⟨y5, hy5, hm⟩ := bind_some hm
      refine wl_call0 (wg F rfl rfl rfl rfl hc3) rfl F rfl (changeforgeequal_Syntax_ok (fr := (fl [[bx b1 #[v1] 24]] fr)) y1.1 v1 (h2.mono (((l3.trans l7).trans l8).trans l9)) ({ Nodes := ([y3, y4, ({ Label := (⟨#[102]⟩ : ByteArray), Children := ([0, 1] : List Int) } : Node)] : List Node) } : SyntaxTree) v8 h11 S hy5) rfl tc15 rfl rfl ?_; clear F a S
      rintro _ a w ⟨g10, l10, S, rfl⟩ F; replace S : St g10 [[bx b1 #[v1] 24]] fr w := S
      refine dv_nx trivial ?_
      refine dv_et ok1 21 rfl (ev_pickT rfl hc3 rfl) F rfl fun a F=>?_
      refine dv_et ok1 22 rfl (ev_assign rfl) F rfl fun a F=>?_
      refine dv_fin ok1 ?_
      refine then_n ?_
      replace S : St g10 [] fr w := St.tail [] _ S
      exact ⟨y5, g10, F.sub ⟨rfl, trivial⟩, (((l7.trans l8).trans l9).trans l10), S, hm⟩
    ·refine dv_skip ok1 13 rfl rfl rfl rfl rfl (ne_tf hc3) F rfl rfl fun a F=>?_
     refine dv_skip ok1 14 rfl rfl rfl rfl rfl (ne_tf hc3) F rfl rfl fun a F=>?_
     refine dv_skip ok1 15 rfl rfl rfl rfl rfl (ne_tf hc3) F rfl rfl fun a F=>?_
     refine dv_skip ok1 16 rfl rfl rfl rfl rfl (ne_tf hc3) F rfl rfl fun a F=>?_
     refine dv_skip ok1 17 rfl rfl rfl rfl rfl (ne_tf hc3) F rfl rfl fun a F=>?_
     refine dv_skip ok1 18 rfl rfl rfl rfl rfl (ne_tf hc3) F rfl rfl fun a F=>?_
     refine dv_skip ok1 19 rfl rfl rfl rfl rfl (ne_tf hc3) F rfl rfl fun a F=>?_
     refine dv_skip ok1 20 rfl rfl rfl rfl rfl (ne_tf hc3) F rfl rfl fun a F=>?_
     refine dv_et ok1 21 rfl (ev_pickF rfl hc3 rfl) F rfl fun a F=>?_
     refine dv_et ok1 22 rfl (ev_assign rfl) F rfl fun a F=>?_
     refine dv_fin ok1 ?_
     refine then_n ?_
     replace S : St g3 [] fr w := St.tail [] _ S
     exact ⟨false, g3, F.sub ⟨rfl, trivial⟩, (Le.refl _), S, hm⟩
   ·refine dv_skip ok1 9 rfl rfl rfl rfl rfl (ne_tf hc2) F rfl rfl fun a F=>?_
    refine dv_skip ok1 10 rfl rfl rfl rfl rfl (ne_tf hc2) F rfl rfl fun a F=>?_
    refine dv_et ok1 11 rfl (ev_pickF rfl hc2 rfl) F rfl fun a F=>?_
    refine dv_et ok1 12 rfl (ev_move rfl) F rfl fun a F=>?_
    refine dv_skip ok1 13 rfl rfl rfl rfl rfl (ne_tf rfl) F rfl rfl fun a F=>?_
    refine dv_skip ok1 14 rfl rfl rfl rfl rfl (ne_tf rfl) F rfl rfl fun a F=>?_
    refine dv_skip ok1 15 rfl rfl rfl rfl rfl (ne_tf rfl) F rfl rfl fun a F=>?_
    refine dv_skip ok1 16 rfl rfl rfl rfl rfl (ne_tf rfl) F rfl rfl fun a F=>?_
    refine dv_skip ok1 17 rfl rfl rfl rfl rfl (ne_tf rfl) F rfl rfl fun a F=>?_
    refine dv_skip ok1 18 rfl rfl rfl rfl rfl (ne_tf rfl) F rfl rfl fun a F=>?_
    refine dv_skip ok1 19 rfl rfl rfl rfl rfl (ne_tf rfl) F rfl rfl fun a F=>?_
    refine dv_skip ok1 20 rfl rfl rfl rfl rfl (ne_tf rfl) F rfl rfl fun a F=>?_
    refine dv_et ok1 21 rfl (ev_pickF rfl rfl rfl) F rfl fun a F=>?_
    refine dv_et ok1 22 rfl (ev_assign rfl) F rfl fun a F=>?_
    refine dv_fin ok1 ?_
    refine then_n ?_
    replace S : St g3 [] fr w := St.tail [] _ S
    exact ⟨false, g3, F.sub ⟨rfl, trivial⟩, (Le.refl _), S, hm⟩
  ·refine dv_skip ok1 4 rfl rfl rfl rfl rfl (ne_tf hc1) F rfl rfl fun a F=>?_
   refine dv_skip ok1 5 rfl rfl rfl rfl rfl (ne_tf hc1) F rfl rfl fun a F=>?_
   refine dv_skip ok1 6 rfl rfl rfl rfl rfl (ne_tf hc1) F rfl rfl fun a F=>?_
   refine dv_et ok1 7 rfl (ev_pickF rfl hc1 rfl) F rfl fun a F=>?_
   refine dv_et ok1 8 rfl (ev_move rfl) F rfl fun a F=>?_
   refine dv_skip ok1 9 rfl rfl rfl rfl rfl (ne_tf rfl) F rfl rfl fun a F=>?_
   refine dv_skip ok1 10 rfl rfl rfl rfl rfl (ne_tf rfl) F rfl rfl fun a F=>?_
   refine dv_et ok1 11 rfl (ev_pickF rfl rfl rfl) F rfl fun a F=>?_
   refine dv_et ok1 12 rfl (ev_move rfl) F rfl fun a F=>?_
   refine dv_skip ok1 13 rfl rfl rfl rfl rfl (ne_tf rfl) F rfl rfl fun a F=>?_
   refine dv_skip ok1 14 rfl rfl rfl rfl rfl (ne_tf rfl) F rfl rfl fun a F=>?_
   refine dv_skip ok1 15 rfl rfl rfl rfl rfl (ne_tf rfl) F rfl rfl fun a F=>?_
   refine dv_skip ok1 16 rfl rfl rfl rfl rfl (ne_tf rfl) F rfl rfl fun a F=>?_
   refine dv_skip ok1 17 rfl rfl rfl rfl rfl (ne_tf rfl) F rfl rfl fun a F=>?_
   refine dv_skip ok1 18 rfl rfl rfl rfl rfl (ne_tf rfl) F rfl rfl fun a F=>?_
   refine dv_skip ok1 19 rfl rfl rfl rfl rfl (ne_tf rfl) F rfl rfl fun a F=>?_
   refine dv_skip ok1 20 rfl rfl rfl rfl rfl (ne_tf rfl) F rfl rfl fun a F=>?_
   refine dv_et ok1 21 rfl (ev_pickF rfl rfl rfl) F rfl fun a F=>?_
   refine dv_et ok1 22 rfl (ev_assign rfl) F rfl fun a F=>?_
   refine dv_fin ok1 ?_
   refine then_n ?_
   replace S : St g3 [] fr w := St.tail [] _ S
   exact ⟨false, g3, F.sub ⟨rfl, trivial⟩, (Le.refl _), S, hm⟩
 ·clear F S hm; rintro a w ⟨x1, g4, F, l4, S, hm⟩
  refine then_n ?_
  refine wp_ret ?_
  obtain rfl := sinj hm
  refine post_r _ F rfl (ar_cons (resT rfl) ar_nil) ?_
  exact ⟨_, rfl, g4, (((l1.trans l2).trans l3).trans l4), S, rfl⟩
end Go.Dc
