/- Walks: each function comes to what its model says. -/
import Derived.Test.YtibigfejalemjaaDoorDcTab
import Derived.Test.YtibigfejalemjaaDoorDcM
import Derived.Test.YtibigfejalemjaaDoorDcW1
namespace Go.Dc
open Go Go.Proofs
set_option maxRecDepth 100000
set_option maxHeartbeats 4000000
set_option linter.unusedVariables false
theorem treepatch_ValidPath_ok {g : Gh} {fr : Hl} {w : World} {r : Bool} (path : ByteArray) (S : St g [] fr w) (hm : treepatch_ValidPath path = some r) :
  Calls Tryd.prog 62 [.string path].toArray w (fun en w' => ∃ v, en = .returned v ∧ ∃ (g' : Gh), Le g g' ∧ St g' [] fr w' ∧ .bool r = v) := by
 unfold treepatch_ValidPath at hm
 refine calls_enterM (fn := Tryd.f62) Tryd.func62 rfl Tryd.ntmps62 (lb rfl) ?_
 intro a F
 replace F : Fr 32 a [(0, .string path)] := F
 refine wp_seq ?_
 refine wp_region_lit ?_
 refine wl_alloc (wn rfl) rfl tz4 (cs := [.bool false]) rfl F S rfl rfl ?_; clear F a S; rintro b1 a w F S
 refine wpList_nil ?_
 refine then_n ?_
 refine wp_seq ?_
 refine wp_seq ?_
 refine wp_region_lit ?_
 refine wE (ev_move rfl) F S rfl fun a F=>?_
 refine wE (ev_lenS rfl tu9) F S rfl fun a F=>?_
 refine wE (ev_int rfl rfl (bo_gtr _ _ _ _)) F S rfl fun a F=>?_
 refine wpList_nil ?_
 refine then_n ?_
 obtain ⟨hc1, hm⟩ | ⟨hc1, hm⟩ := ite_or hm
 ·refine wp_condT F rfl hc1 ?_
  refine wp_seq ?_
  refine wp_region_lit ?_
  refine wl_storeC (wn rfl) rfl F S rfl rfl (vs := [.bool false]) rfl ts4 (one_cons rfl one_nil) (k := 0) rfl (lb rfl) (c' := #[.bool false]) rfl rfl ?_; clear S; intro w S
  refine wpList_nil ?_
  refine then_n ?_
  refine wp_ret ?_
  refine then_r ?_
  obtain rfl := sinj hm
  refine post_r0 _ F rfl (ar_cons (res1 rfl tu4 rfl (box_ptr (cells := [.bool false]) 0 rfl 0 rfl (lb rfl) w S)) ar_nil) ?_
  replace S : St g [] fr w := St.tail [] _ S
  exact ⟨_, rfl, g, (Le.refl _), S, rfl⟩
 ·refine wp_condF F rfl hc1 ?_
  refine wp_skip ?_
  refine then_n ?_
  refine wp_seq ?_
  refine wp_seq ?_
  refine wp_region_lit ?_
  refine wE (ev_move rfl) F S rfl fun a F=>?_
  replace F := F.sub (e' := [(8, .string path), (2, bp b1 0)]) ⟨rfl, rfl, trivial⟩
  refine wl_callK (wn rfl) rfl (xs := [.tmp 8, .const (.string (⟨#[47]⟩ : ByteArray))]) (vs := [.string path, .string (⟨#[47]⟩ : ByteArray)]) (cap := []) (e' := [(2, bp b1 0)]) ⟨rfl, trivial⟩ F rfl rfl tc73 rfl rfl (calls_enter (fn := Tryd.f73) Tryd.func73 rfl Tryd.ntmps73 (lb rfl) ?_); clear F a; intro a F
  replace F : Fr 8 a [(0, .string path), (1, .string (⟨#[47]⟩ : ByteArray))] := F
  refine wp_seq ?_
  refine wp_region_lit ?_
  refine wE (ev_assign rfl) F S rfl fun a F=>?_
  refine wpList_nil ?_
  refine then_n ?_
  refine wp_seq ?_
  refine wp_region_lit ?_
  refine wE (ev_move rfl) F S rfl fun a F=>?_
  refine wE (ev_move rfl) F S rfl fun a F=>?_
  replace F := F.sub (e' := [(6, .string (⟨#[47]⟩ : ByteArray)), (5, .string path)]) ⟨rfl, rfl, trivial⟩
  refine wl_callK (wn rfl) rfl (xs := [.tmp 5, .tmp 6, .const (.i6 0)]) (vs := [.string path, .string (⟨#[47]⟩ : ByteArray), .i6 0]) (cap := []) (e' := []) trivial F rfl rfl tc80 rfl rfl (calls_enter (fn := Tryd.f80) Tryd.func80 rfl Tryd.ntmps80 (lb rfl) ?_); clear F a; intro a F
  replace F : Fr 8 a [(0, .string path), (1, .string (⟨#[47]⟩ : ByteArray)), (2, .i6 0)] := F
  refine wp_seq ?_
  refine wp_region_lit ?_
  refine wl_boxC (wn rfl) rfl rfl rfl F S rfl rfl ?_; clear F a S; rintro b2 a w F S
  refine wl_boxC (wn rfl) rfl rfl rfl F S rfl rfl ?_; clear F a S; rintro b3 a w F S
  refine wl_boxC (wn rfl) rfl rfl rfl F S rfl rfl ?_; clear F a S; rintro b4 a w F S
  refine wE (ev_assign rfl) F S rfl fun a F=>?_
  refine wpList_nil ?_
  refine then_n ?_
  refine wp_seq ?_
  refine wp_region_lit ?_
  refine wE (ev_makeFunc (xs := [.tmp 4, .tmp 3, .tmp 5]) (vs := [bp b3 0, bp b2 0, bp b4 0]) rfl) F S rfl fun a F=>?_
  refine wE (ev_assign rfl) F S rfl fun a F=>?_
  refine wpList_nil ?_
  refine then_n ?_
  refine wp_ret ?_
  refine post_r _ F rfl (ar_cons (resT rfl) ar_nil) ?_
  refine ⟨_, rfl, ?_⟩; clear F a; intro a F
  replace F : Fr 8 a [(7, .func (.func 84) #[] #[bp b3 0, bp b2 0, bp b4 0])] := F
  refine wE (ev_assign rfl) F S rfl fun a F=>?_
  refine wpList_nil ?_
  refine then_n ?_
  refine wp_ret ?_
  refine post_r _ F rfl (ar_cons (resT rfl) ar_nil) ?_
  refine ⟨_, rfl, ?_⟩; clear F a; intro a F
  replace F : Fr 32 a [(9, .func (.func 84) #[] #[bp b3 0, bp b2 0, bp b4 0]), (2, bp b1 0)] := F
  refine wpList_nil ?_
  refine then_n ?_
  refine wp_block ?_
  refine wp_range (ps := [10]) (cap := [bp b3 0, bp b2 0, bp b4 0]) (e0 := [(2, bp b1 0)]) F ⟨rfl, trivial⟩ S rfl tc84 ?_; clear F S a; intro R1 l1 D1 w hR1 S
  replace S : St g [[(l1, .loop (R1 .ready Option.none))], [(D1, .deferred (some []))], [bx b4 #[.i6 0] 3], [(b3, .cells #[.string (⟨#[47]⟩ : ByteArray)] 9 (0, 0))], [bx b2 #[.string path] 9], [bx b1 #[.bool false] 4]] fr w := S
  refine calls_enter (fn := Tryd.f84) Tryd.func84 rfl Tryd.ntmps84 (lb rfl) ?_; intro a F
  replace F : Fr 52 a [(0, .func (.yield l1) #[] #[]), (1, bp b3 0), (2, bp b2 0), (3, bp b4 0)] := F
  refine wp_seq ?_
  refine wp_seq ?_
  refine wp_region_lit ?_
  refine wE (ev_load1 tu9 rfl rfl (box_ptr (cells := [.string (⟨#[47]⟩ : ByteArray)]) 3 rfl 0 rfl (lb rfl))) F S rfl fun a F=>?_
  refine wE (ev_lenS rfl tu9) F S rfl fun a F=>?_
  refine wE (ev_int rfl rfl (bo_eql _ _ _ _)) F S rfl fun a F=>?_
  refine wpList_nil ?_
  refine then_n ?_
  refine wp_condF F rfl rfl ?_
  refine wp_skip ?_
  refine then_n ?_
  refine wp_cut (fun a w => ∃ (x1 : ByteArray) (g1 : Gh), Fr 52 a [(0, .func (.yield l1) #[] #[]), (2, bp b2 0)] ∧ Le g g1 ∧ St g1 [[(l1, .loop (R1 .ready Option.none))], [(D1, .deferred (some []))], [bx b2 #[.string x1] 9], [bx b1 #[.bool false] 4]] fr w ∧ treepatch_ValidPath.j1 x1 = some r) ?_ ?_
  ·refine wp_block ?_
   obtain ⟨r2, hr2, hm⟩ := bind_some hm
   have hmo2 := hm; clear hm
   refine wp_iter (σ := ByteArray) (ρ := Bool ⊕ ByteArray) (m := fun s => treepatch_ValidPath.l2 s) (I := fun x6 a w => ∃ (g7 : Gh), Fr 52 a [(0, .func (.yield l1) #[] #[]), (1, bp b3 0), (2, bp b2 0), (3, bp b4 0)] ∧ Le g g7 ∧ St g7 [[(l1, .loop (R1 .ready Option.none))], [(D1, .deferred (some []))], [(b3, .cells #[.string (⟨#[47]⟩ : ByteArray)] 9 (0, 0))], [bx b2 #[.string x6] 9], [bx b4 #[.i6 0] 3], [bx b1 #[.bool false] 4]] fr w) hr2 ?_ ?_
   ·replace S : St g [[(l1, .loop (R1 .ready Option.none))], [(D1, .deferred (some []))], [(b3, .cells #[.string (⟨#[47]⟩ : ByteArray)] 9 (0, 0))], [bx b2 #[.string path] 9], [bx b4 #[.i6 0] 3], [bx b1 #[.bool false] 4]] fr w := St.tail [[(l1, .loop (R1 .ready Option.none))], [(D1, .deferred (some []))], [(b3, .cells #[.string (⟨#[47]⟩ : ByteArray)] 9 (0, 0))], [bx b2 #[.string path] 9], [bx b4 #[.i6 0] 3], [bx b1 #[.bool false] 4]] _ ((((((S.frontC 5 rfl).frontC 3 rfl).frontC 6 rfl).frontC 6 rfl).frontC 5 rfl).frontC 5 rfl)
    exact ⟨g, F.sub ⟨rfl, rfl, rfl, rfl, trivial⟩, (Le.refl _), S⟩
   ·clear F S; rintro x6 a w x7 ⟨g7, F, l8, S⟩ hx4 hfin2
    have hm : treepatch_ValidPath.l2 x6 = some x7 := hx4; clear hx4
    unfold treepatch_ValidPath.l2 at hm
    refine wp_block ?_
    refine wp_seq ?_
    refine wp_region_lit ?_
    refine wE (ev_load1 tu9 rfl rfl (box_ptr (cells := [.string x6]) 3 rfl 0 rfl (lb rfl))) F S rfl fun a F=>?_
    refine wE (ev_load1 tu9 rfl rfl (box_ptr (cells := [.string (⟨#[47]⟩ : ByteArray)]) 2 rfl 0 rfl (lb rfl))) F S rfl fun a F=>?_
    obtain ⟨y3, hy3, hm⟩ := bind_some hm
    refine wl_call0 (wn rfl) rfl F rfl (strings_Index_ok (fr := (fl [[(l1, .loop (R1 .ready Option.none))], [(D1, .deferred (some []))], [(b3, .cells #[.string (⟨#[47]⟩ : ByteArray)] 9 (0, 0))], [bx b2 #[.string x6] 9], [bx b4 #[.i6 0] 3], [bx b1 #[.bool false] 4]] fr)) x6 S hy3) rfl tc86 rfl rfl ?_; clear F a S
    rintro _ a w ⟨g8, l9, S, rfl⟩ F; replace S : St g8 [[(l1, .loop (R1 .ready Option.none))], [(D1, .deferred (some []))], [(b3, .cells #[.string (⟨#[47]⟩ : ByteArray)] 9 (0, 0))], [bx b2 #[.string x6] 9], [bx b4 #[.i6 0] 3], [bx b1 #[.bool false] 4]] fr w := S
    refine wE (ev_assign rfl) F S rfl fun a F=>?_
    refine wpList_nil ?_
    refine then_n ?_
    refine wp_seq ?_
    refine wp_seq ?_
    refine wp_region_lit ?_
    refine wE (ev_move rfl) F S rfl fun a F=>?_
    refine wE (ev_int rfl rfl (bo_lss _ _ _ _)) F S rfl fun a F=>?_
    refine wpList_nil ?_
    refine then_n ?_
    obtain ⟨hc8, hm⟩ | ⟨hc8, hm⟩ := ite_or hm
    ·refine wp_condT F rfl hc8 ?_
     refine wp_exit ?_
     refine then_e ?_
     refine inb_e rfl ?_
     refine then_e ?_
     refine inb_x ?_
     refine then_n ?_
     obtain rfl := sinj hm
     obtain rfl := hfin2 _ rfl
     clear hm
     have hm : (treepatch_ValidPath.j1 x6 : Option Bool) = some _ := hmo2
     replace S : St g8 [[(l1, .loop (R1 .ready Option.none))], [(D1, .deferred (some []))], [bx b2 #[.string x6] 9], [bx b1 #[.bool false] 4]] fr w := St.tail [[(l1, .loop (R1 .ready Option.none))], [(D1, .deferred (some []))], [bx b2 #[.string x6] 9], [bx b1 #[.bool false] 4]] _ ((((S.frontC 5 rfl).frontC 4 rfl).frontC 3 rfl).frontC 3 rfl)
     exact ⟨x6, g8, F.sub ⟨rfl, rfl, trivial⟩, (l8.trans l9), S, hm⟩
    ·refine wp_condF F rfl hc8 ?_
     refine wp_skip ?_
     refine then_n ?_
     refine wp_seq ?_
     refine wp_region_lit ?_
     refine wE (ev_load1 tu9 rfl rfl (box_ptr (cells := [.string x6]) 3 rfl 0 rfl (lb rfl))) F S rfl fun a F=>?_
     refine wE (ev_move rfl) F S rfl fun a F=>?_
     refine wE (ev_load1 tu3 rfl rfl (box_ptr (cells := [.i6 0]) 4 rfl 0 rfl (lb rfl))) F S rfl fun a F=>?_
     obtain ⟨z2, hz2, hm⟩ := bind_some hm
     refine wE (ev_int rfl rfl (bo_add hz2)) F S rfl fun a F=>?_
     obtain ⟨y4, hy4, hm⟩ := bind_some hm
     refine wE (ev_scut hy4 tu9 rfl (bnd0 _) (bndV rfl)) F S rfl fun a F=>?_
     refine wE (ev_assign rfl) F S rfl fun a F=>?_
     refine wpList_nil ?_
     refine then_n ?_
     refine wp_seq ?_
     refine wp_seq ?_
     refine wp_region_lit ?_
     refine wE (ev_move rfl) F S rfl fun a F=>?_
     refine wE (ev_move rfl) F S rfl fun a F=>?_
     refine wl_yield (wn rfl) rfl (xs := [.tmp 40]) (vs := [.string y4]) (e' := [(7, .i6 y3), (0, .func (.yield l1) #[] #[]), (1, bp b3 0), (2, bp b2 0), (3, bp b4 0)]) ⟨rfl, rfl, rfl, rfl, rfl, trivial⟩ F S rfl rfl rfl rfl 0 rfl hR1 rfl rfl ?_; clear F a; intro a F
     replace F : Fr 32 a [(10, .string y4), (2, bp b1 0)] := F
     refine wp_region_lit ?_
     refine wE (ev_assign rfl) F S rfl fun a F=>?_
     refine wpList_nil ?_
     refine then_n ?_
     refine begin_round S 0 rfl hR1 ?_; clear S; intro w S
     replace S : St g8 [[(l1, .loop (R1 .busy Option.none))], [(D1, .deferred (some []))], [(b3, .cells #[.string (⟨#[47]⟩ : ByteArray)] 9 (0, 0))], [bx b2 #[.string x6] 9], [bx b4 #[.i6 0] 3], [bx b1 #[.bool false] 4]] fr w := S
     refine wp_cutR (fun a w => ∃ (g9 : Gh), Fr 32 a [] ∧ Le g8 g9 ∧ St g9 [[(l1, .loop (R1 .busy Option.none))], [(D1, .deferred (some []))], [bx b1 #[.bool false] 4], [(b3, .cells #[.string (⟨#[47]⟩ : ByteArray)] 9 (0, 0))], [bx b2 #[.string x6] 9], [bx b4 #[.i6 0] 3]] fr w ∧ treepatch_ValidPath.j5 = some x7) ?_ ?_
     ·refine wp_cut1 (fun a w => ∃ (g10 : Gh), Fr 32 a [] ∧ Le g8 g10 ∧ St g10 [[(l1, .loop (R1 .busy Option.none))], [(D1, .deferred (some []))], [bx b1 #[.bool false] 4], [(b3, .cells #[.string (⟨#[47]⟩ : ByteArray)] 9 (0, 0))], [bx b2 #[.string x6] 9], [bx b4 #[.i6 0] 3]] fr w ∧ treepatch_ValidPath.j6 x6 y3 = some x7) ?_ ?_
      ·refine wp_block ?_
       refine wp_seq ?_
       refine wp_seq ?_
       refine wp_region_lit ?_
       refine wE (ev_move rfl) F S rfl fun a F=>?_
       refine wE (ev_str rfl rfl (bs_eql _ _ _)) F S rfl fun a F=>?_
       refine wE (ev_move rfl) F S rfl fun a F=>?_
       obtain ⟨x8, hx5, hm⟩ := bind_some hm
       refine wl_cut 3 (fun a w' => w = w' ∧ Fr 32 a [(16, .bool x8), (3, .string y4), (2, bp b1 0)]) ?_ ?_
       ·clear hm; obtain ⟨hc11, hm⟩ | ⟨hc11, hm⟩ := ite_or hx5
        ·refine wl_skip rfl rfl rfl rfl (ne_ft hc11) F rfl rfl ?_; clear F a; intro a F
         refine wl_skip rfl rfl rfl rfl (ne_ft hc11) F rfl rfl ?_; clear F a; intro a F
         refine wE (ev_pickT rfl hc11 rfl) F S rfl fun a F=>?_
         obtain rfl := sinj hm
         refine wpList_nil (then_n ?_); exact ⟨rfl, F.sub ⟨rfl, rfl, rfl, trivial⟩⟩
        ·refine wl_ev (wg F rfl rfl rfl rfl hc11) (ev_move rfl) F S rfl rfl ?_; clear F a; intro a F
         refine wl_ev (wg F rfl rfl rfl rfl hc11) (ev_str rfl rfl (bs_eql _ _ _)) F S rfl rfl ?_; clear F a; intro a F
         refine wE (ev_pickF rfl hc11 rfl) F S rfl fun a F=>?_
         obtain rfl := sinj hm
         refine wpList_nil (then_n ?_); exact ⟨rfl, F.sub ⟨rfl, rfl, rfl, trivial⟩⟩
       clear F; rintro a w' ⟨rfl, F⟩
       refine wE (ev_move rfl) F S rfl fun a F=>?_
       obtain ⟨x9, hx6, hm⟩ := bind_some hm
       refine wl_cut 3 (fun a w' => w = w' ∧ Fr 32 a [(20, .bool x9), (3, .string y4), (2, bp b1 0)]) ?_ ?_
       ·clear hm; obtain ⟨hc12, hm⟩ | ⟨hc12, hm⟩ := ite_or hx6
        ·refine wl_skip rfl rfl rfl rfl (ne_ft hc12) F rfl rfl ?_; clear F a; intro a F
         refine wl_skip rfl rfl rfl rfl (ne_ft hc12) F rfl rfl ?_; clear F a; intro a F
         refine wE (ev_pickT rfl hc12 rfl) F S rfl fun a F=>?_
         obtain rfl := sinj hm
         refine wpList_nil (then_n ?_); exact ⟨rfl, F.sub ⟨rfl, rfl, rfl, trivial⟩⟩
        ·refine wl_ev (wg F rfl rfl rfl rfl hc12) (ev_move rfl) F S rfl rfl ?_; clear F a; intro a F
         refine wl_ev (wg F rfl rfl rfl rfl hc12) (ev_str rfl rfl (bs_eql _ _ _)) F S rfl rfl ?_; clear F a; intro a F
         refine wE (ev_pickF rfl hc12 rfl) F S rfl fun a F=>?_
         obtain rfl := sinj hm
         refine wpList_nil (then_n ?_); exact ⟨rfl, F.sub ⟨rfl, rfl, rfl, trivial⟩⟩
       clear F; rintro a w' ⟨rfl, F⟩
       refine wpList_nil ?_
       refine then_n ?_
       obtain ⟨hc13, hm⟩ | ⟨hc13, hm⟩ := ite_or hm
       ·refine wp_condT F rfl hc13 ?_
        refine wp_seq ?_
        refine wp_region_lit ?_
        refine wl_storeC (wn rfl) rfl F S rfl rfl (vs := [.bool false]) rfl ts4 (one_cons rfl one_nil) (k := 5) rfl (lb rfl) (c' := #[.bool false]) rfl rfl ?_; clear S; intro w S
        refine wpList_nil ?_
        refine then_n ?_
        refine wp_ret ?_
        refine then_r ?_
        refine inb_r ?_
        refine then_r ?_
        refine rj_r ?_
        replace S : St g8 [[(l1, .loop (R1 .busy Option.none))], [(D1, .deferred (some []))], [bx b1 #[.bool false] 4], [(b3, .cells #[.string (⟨#[47]⟩ : ByteArray)] 9 (0, 0))], [bx b2 #[.string x6] 9], [bx b4 #[.i6 0] 3]] fr w := St.tail [[(l1, .loop (R1 .busy Option.none))], [(D1, .deferred (some []))], [bx b1 #[.bool false] 4], [(b3, .cells #[.string (⟨#[47]⟩ : ByteArray)] 9 (0, 0))], [bx b2 #[.string x6] 9], [bx b4 #[.i6 0] 3]] _ ((((((S.frontC 4 rfl).frontC 4 rfl).frontC 4 rfl).frontC 8 rfl).frontC 5 rfl).frontC 5 rfl)
        exact ⟨g8, F.sub trivial, (Le.refl _), S, hm⟩
       ·refine wp_condF F rfl hc13 ?_
        refine wp_skip ?_
        refine then_n ?_
        refine wp_seq ?_
        refine wp_region_lit ?_
        refine wE (ev_move rfl) F S rfl fun a F=>?_
        refine wE (ev_lenS rfl tu9) F S rfl fun a F=>?_
        refine wE (ev_move rfl) F S rfl fun a F=>?_
        refine wpList_nil ?_
        refine then_n ?_
        refine wp_cut1 (fun a w => ∃ (g11 : Gh), Fr 32 a [] ∧ Le g8 g11 ∧ St g11 [[(l1, .loop (R1 .busy Option.none))], [(D1, .deferred (some []))], [bx b1 #[.bool false] 4], [(b3, .cells #[.string (⟨#[47]⟩ : ByteArray)] 9 (0, 0))], [bx b2 #[.string x6] 9], [bx b4 #[.i6 0] 3]] fr w ∧ treepatch_ValidPath.j7 x6 y3 = some x7) ?_ ?_
        ·refine wp_block ?_
         obtain ⟨r3, hr3, hm⟩ := bind_some hm
         have hmo3 := hm; clear hm
         refine wp_iter (σ := Int) (ρ := Unit ⊕ Unit) (m := fun s => treepatch_ValidPath.l3 y4 s) (I := fun x10 a w => ∃ (g12 : Gh), Fr 32 a [(23, .i6 x10), (22, .i6 (y4.size : Int)), (3, .string y4), (2, bp b1 0)] ∧ Le g8 g12 ∧ St g12 [[(l1, .loop (R1 .busy Option.none))], [(D1, .deferred (some []))], [bx b1 #[.bool false] 4], [(b3, .cells #[.string (⟨#[47]⟩ : ByteArray)] 9 (0, 0))], [bx b2 #[.string x6] 9], [bx b4 #[.i6 0] 3]] fr w) hr3 ?_ ?_
         ·replace S : St g8 [[(l1, .loop (R1 .busy Option.none))], [(D1, .deferred (some []))], [bx b1 #[.bool false] 4], [(b3, .cells #[.string (⟨#[47]⟩ : ByteArray)] 9 (0, 0))], [bx b2 #[.string x6] 9], [bx b4 #[.i6 0] 3]] fr w := St.tail [[(l1, .loop (R1 .busy Option.none))], [(D1, .deferred (some []))], [bx b1 #[.bool false] 4], [(b3, .cells #[.string (⟨#[47]⟩ : ByteArray)] 9 (0, 0))], [bx b2 #[.string x6] 9], [bx b4 #[.i6 0] 3]] _ ((((((S.frontC 4 rfl).frontC 4 rfl).frontC 4 rfl).frontC 8 rfl).frontC 5 rfl).frontC 5 rfl)
          exact ⟨g8, F.sub ⟨rfl, rfl, rfl, rfl, trivial⟩, (Le.refl _), S⟩
         ·clear F S; rintro x10 a w x11 ⟨g12, F, l13, S⟩ hx7 hfin3
          have hm : treepatch_ValidPath.l3 y4 x10 = some x11 := hx7; clear hx7
          unfold treepatch_ValidPath.l3 at hm
          refine wp_seq ?_
          refine wp_region_lit ?_
          refine wE (ev_int rfl rfl (bo_lss _ _ _ _)) F S rfl fun a F=>?_
          refine wpList_nil ?_
          refine then_n ?_
          refine wp_seq ?_
          obtain ⟨hc14, hm⟩ | ⟨hc14, hm⟩ := ite_or hm
          ·refine wp_condT F rfl hc14 ?_
           refine wp_skip ?_
           refine then_n ?_
           refine wp_seq ?_
           refine wp_block ?_
           refine wp_seq ?_
           refine wp_region_lit ?_
           refine wE (ev_move rfl) F S rfl fun a F=>?_
           refine wE (ev_assign rfl) F S rfl fun a F=>?_
           refine wpList_nil ?_
           refine then_n ?_
           refine wp_seq ?_
           refine wp_region_lit ?_
           refine wE (ev_move rfl) F S rfl fun a F=>?_
           refine wE (ev_move rfl) F S rfl fun a F=>?_
           obtain ⟨y6, hy6, hm⟩ := bind_some hm
           refine wE (ev_sAt hy6 tu9 rfl rfl) F S rfl fun a F=>?_
           obtain ⟨y7, hy7, hm⟩ := bind_some hm
           refine wl_call0 (wn rfl) rfl F rfl (treepatch_Letter_ok (fr := (fl [[(l1, .loop (R1 .busy Option.none))], [(D1, .deferred (some []))], [bx b1 #[.bool false] 4], [(b3, .cells #[.string (⟨#[47]⟩ : ByteArray)] 9 (0, 0))], [bx b2 #[.string x6] 9], [bx b4 #[.i6 0] 3]] fr)) y6 S hy7) rfl tc74 rfl rfl ?_; clear F a S
           rintro _ a w ⟨g13, l14, S, rfl⟩ F; replace S : St g13 [[(l1, .loop (R1 .busy Option.none))], [(D1, .deferred (some []))], [bx b1 #[.bool false] 4], [(b3, .cells #[.string (⟨#[47]⟩ : ByteArray)] 9 (0, 0))], [bx b2 #[.string x6] 9], [bx b4 #[.i6 0] 3]] fr w := S
           refine wE (ev_not rfl) F S rfl fun a F=>?_
           refine wpList_nil ?_
           refine then_n ?_
           obtain ⟨hc15, hm⟩ | ⟨hc15, hm⟩ := ite_or hm
           ·refine wp_condT F rfl hc15 ?_
            refine wp_seq ?_
            refine wp_region_lit ?_
            refine wl_storeC (wn rfl) rfl F S rfl rfl (vs := [.bool false]) rfl ts4 (one_cons rfl one_nil) (k := 2) rfl (lb rfl) (c' := #[.bool false]) rfl rfl ?_; clear S; intro w S
            refine wpList_nil ?_
            refine then_n ?_
            refine wp_ret ?_
            refine inb_r ?_
            refine then_r ?_
            refine then_r ?_
            refine inb_r ?_
            refine then_r ?_
            refine inb_r ?_
            refine then_r ?_
            refine rj_r ?_
            obtain rfl := sinj hm
            obtain rfl := hfin3 _ rfl
            clear hm
            have hm : (treepatch_ValidPath.j5 : Option (Step ByteArray (Bool ⊕ ByteArray))) = some _ := hmo3
            exact ⟨g13, F.sub trivial, (l13.trans l14), S, hm⟩
           ·refine wp_condF F rfl hc15 ?_
            refine wp_skip ?_
            refine inb_n ?_
            refine then_n ?_
            refine wp_region_lit ?_
            obtain ⟨z4, hz4, hm⟩ := bind_some hm
            refine wE (ev_int rfl rfl (bo_add hz4)) F S rfl fun a F=>?_
            refine wE (ev_move rfl) F S rfl fun a F=>?_
            refine wpList_nil ?_
            refine then_n ?_
            obtain rfl := sinj hm
            refine ⟨_, rfl, ?_⟩
            exact ⟨g13, F.sub ⟨rfl, rfl, rfl, rfl, trivial⟩, (l13.trans l14), S⟩
          ·refine wp_condF F rfl hc14 ?_
           refine wp_exit ?_
           refine then_e ?_
           refine then_e ?_
           refine inb_x ?_
           refine then_n ?_
           obtain rfl := sinj hm
           obtain rfl := hfin3 _ rfl
           clear hm
           have hm : (treepatch_ValidPath.j7 x6 y3 : Option (Step ByteArray (Bool ⊕ ByteArray))) = some _ := hmo3
           exact ⟨g12, F.sub trivial, l13, S, hm⟩
        ·clear F S hm; rintro a w ⟨g11, F, l12, S, hm⟩
         refine inb_n ?_
         refine then_n ?_
         exact ⟨g11, F.sub trivial, l12, S, hm⟩
      ·clear F S hm; rintro a w ⟨g10, F, l11, S, hm⟩
       refine rj_n ?_
       refine round_n S 0 rfl hR1 ?_; clear F S a; intro w S; refine ⟨_, rfl, ?_⟩; intro a F
       replace S : St g10 [[(l1, .loop (R1 .ready Option.none))], [(D1, .deferred (some []))], [bx b1 #[.bool false] 4], [(b3, .cells #[.string (⟨#[47]⟩ : ByteArray)] 9 (0, 0))], [bx b2 #[.string x6] 9], [bx b4 #[.i6 0] 3]] fr w := S
       replace F : Fr 52 a [(41, .bool true), (7, .i6 y3), (0, .func (.yield l1) #[] #[]), (1, bp b3 0), (2, bp b2 0), (3, bp b4 0)] := F
       refine wE (ev_not rfl) F S rfl fun a F=>?_
       refine wpList_nil ?_
       refine then_n ?_
       refine wp_condF F rfl rfl ?_
       refine wp_skip ?_
       refine then_n ?_
       refine wp_region_lit ?_
       refine wE (ev_load1 tu9 rfl rfl (box_ptr (cells := [.string x6]) 4 rfl 0 rfl (lb rfl))) F S rfl fun a F=>?_
       refine wE (ev_move rfl) F S rfl fun a F=>?_
       refine wE (ev_load1 tu9 rfl rfl (box_ptr (cells := [.string (⟨#[47]⟩ : ByteArray)]) 3 rfl 0 rfl (lb rfl))) F S rfl fun a F=>?_
       refine wE (ev_lenS rfl tu9) F S rfl fun a F=>?_
       obtain ⟨z3, hz3, hm⟩ := bind_some hm
       refine wE (ev_int rfl rfl (bo_add hz3)) F S rfl fun a F=>?_
       obtain ⟨y5, hy5, hm⟩ := bind_some hm
       refine wE (ev_scut hy5 tu9 rfl (bndV rfl) (bnd0 _)) F S rfl fun a F=>?_
       refine wl_storeC (wn rfl) rfl F S rfl rfl (vs := [.string y5]) rfl ts9 (one_cons rfl one_nil) (k := 4) rfl (lb rfl) (c' := #[.string y5]) rfl rfl ?_; clear S; intro w S
       refine wpList_nil ?_
       refine inb_n ?_
       refine then_n ?_
       obtain rfl := sinj hm
       refine ⟨_, rfl, ?_⟩
       replace S : St g10 [[(l1, .loop (R1 .ready Option.none))], [(D1, .deferred (some []))], [(b3, .cells #[.string (⟨#[47]⟩ : ByteArray)] 9 (0, 0))], [bx b2 #[.string y5] 9], [bx b4 #[.i6 0] 3], [bx b1 #[.bool false] 4]] fr w := St.tail [[(l1, .loop (R1 .ready Option.none))], [(D1, .deferred (some []))], [(b3, .cells #[.string (⟨#[47]⟩ : ByteArray)] 9 (0, 0))], [bx b2 #[.string y5] 9], [bx b4 #[.i6 0] 3], [bx b1 #[.bool false] 4]] _ ((((((S.frontC 2 rfl).frontC 6 rfl).frontC 6 rfl).frontC 6 rfl).frontC 5 rfl).frontC 5 rfl)
       exact ⟨g10, F.sub ⟨rfl, rfl, rfl, rfl, trivial⟩, ((l8.trans l9).trans l11), S⟩
     ·clear F S hm; rintro a w ⟨g9, F, l10, S, hm⟩
      refine round_r S 0 rfl hR1 ?_; clear F S a; intro w S; refine ⟨_, rfl, ?_⟩; intro a F
      replace S : St g9 [[(l1, .loop (R1 .done (some .ret)))], [(D1, .deferred (some []))], [bx b1 #[.bool false] 4], [(b3, .cells #[.string (⟨#[47]⟩ : ByteArray)] 9 (0, 0))], [bx b2 #[.string x6] 9], [bx b4 #[.i6 0] 3]] fr w := S
      replace F : Fr 52 a [(41, .bool false), (7, .i6 y3), (0, .func (.yield l1) #[] #[]), (1, bp b3 0), (2, bp b2 0), (3, bp b4 0)] := F
      refine wE (ev_not rfl) F S rfl fun a F=>?_
      refine wpList_nil ?_
      refine then_n ?_
      refine wp_condT F rfl rfl ?_
      refine wp_ret ?_
      refine then_r ?_
      refine inb_r ?_
      refine then_r ?_
      refine inb_r ?_
      refine then_r ?_
      obtain rfl := sinj hm
      obtain rfl := hfin2 _ rfl
      clear hm
      have hm : (some false : Option Bool) = some _ := hmo2
      refine post_r _ F rfl ar_nil ?_
      refine ⟨_, rfl, ?_⟩; refine rp_r S 0 rfl hR1 ?_; clear F S; intro w S a F
      replace S : St g9 [[(D1, .deferred (some []))], [bx b1 #[.bool false] 4], [(b3, .cells #[.string (⟨#[47]⟩ : ByteArray)] 9 (0, 0))], [bx b2 #[.string x6] 9], [bx b4 #[.i6 0] 3]] fr w := S
      replace F : Fr ⟨32, [mkD D1]⟩ a [(2, bp b1 0)] := F
      refine inb_r ?_
      refine then_r ?_
      obtain rfl := sinj hm
      refine post_rM (fn := Tryd.f62) (rs := [.cell 2 4]) [.bool false] F S 0 rfl rfl (fun w S => (ar_cons (res1 rfl tu4 rfl (box_ptr (cells := [.bool false]) 1 rfl 0 rfl (lb rfl) w S)) ar_nil)) ?_; clear S; intro w S; replace S : St g9 [[bx b1 #[.bool false] 4], [(b3, .cells #[.string (⟨#[47]⟩ : ByteArray)] 9 (0, 0))], [bx b2 #[.string x6] 9], [bx b4 #[.i6 0] 3]] fr w := S
      replace S : St g9 [] fr w := St.tail [] _ S
      exact ⟨_, rfl, g9, ((l8.trans l9).trans l10), S, rfl⟩
  ·clear F S hm; rintro a w ⟨x1, g1, F, l2, S, hm⟩
   refine wp_region_lit ?_
   refine wE (ev_move rfl) F S rfl fun a F=>?_
   refine wE (ev_load1 tu9 rfl rfl (box_ptr (cells := [.string x1]) 2 rfl 0 rfl (lb rfl))) F S rfl fun a F=>?_
   refine wl_yield (wn rfl) rfl (xs := [.tmp 50]) (vs := [.string x1]) (e' := []) trivial F S rfl rfl rfl rfl 0 rfl hR1 rfl rfl ?_; clear F a; intro a F
   replace F : Fr 32 a [(10, .string x1), (2, bp b1 0)] := F
   refine wp_region_lit ?_
   refine wE (ev_assign rfl) F S rfl fun a F=>?_
   refine wpList_nil ?_
   refine then_n ?_
   refine begin_round S 0 rfl hR1 ?_; clear S; intro w S
   replace S : St g1 [[(l1, .loop (R1 .busy Option.none))], [(D1, .deferred (some []))], [bx b2 #[.string x1] 9], [bx b1 #[.bool false] 4]] fr w := S
   refine wp_cutR (fun a w => ∃ (g2 : Gh), Fr 32 a [] ∧ Le g1 g2 ∧ St g2 [[(l1, .loop (R1 .busy Option.none))], [(D1, .deferred (some []))], [bx b1 #[.bool false] 4]] fr w ∧ treepatch_ValidPath.j2 = some r) ?_ ?_
   ·refine wp_cut1 (fun a w => ∃ (g3 : Gh), Fr 32 a [] ∧ Le g1 g3 ∧ St g3 [[(l1, .loop (R1 .busy Option.none))], [(D1, .deferred (some []))], [bx b1 #[.bool false] 4]] fr w ∧ treepatch_ValidPath.j3 = some r) ?_ ?_
    ·refine wp_block ?_
     refine wp_seq ?_
     refine wp_seq ?_
     refine wp_region_lit ?_
     refine wE (ev_move rfl) F S rfl fun a F=>?_
     refine wE (ev_str rfl rfl (bs_eql _ _ _)) F S rfl fun a F=>?_
     refine wE (ev_move rfl) F S rfl fun a F=>?_
     obtain ⟨x2, hx1, hm⟩ := bind_some hm
     refine wl_cut 3 (fun a w' => w = w' ∧ Fr 32 a [(16, .bool x2), (3, .string x1), (2, bp b1 0)]) ?_ ?_
     ·clear hm; obtain ⟨hc3, hm⟩ | ⟨hc3, hm⟩ := ite_or hx1
      ·refine wl_skip rfl rfl rfl rfl (ne_ft hc3) F rfl rfl ?_; clear F a; intro a F
       refine wl_skip rfl rfl rfl rfl (ne_ft hc3) F rfl rfl ?_; clear F a; intro a F
       refine wE (ev_pickT rfl hc3 rfl) F S rfl fun a F=>?_
       obtain rfl := sinj hm
       refine wpList_nil (then_n ?_); exact ⟨rfl, F.sub ⟨rfl, rfl, rfl, trivial⟩⟩
      ·refine wl_ev (wg F rfl rfl rfl rfl hc3) (ev_move rfl) F S rfl rfl ?_; clear F a; intro a F
       refine wl_ev (wg F rfl rfl rfl rfl hc3) (ev_str rfl rfl (bs_eql _ _ _)) F S rfl rfl ?_; clear F a; intro a F
       refine wE (ev_pickF rfl hc3 rfl) F S rfl fun a F=>?_
       obtain rfl := sinj hm
       refine wpList_nil (then_n ?_); exact ⟨rfl, F.sub ⟨rfl, rfl, rfl, trivial⟩⟩
     clear F; rintro a w' ⟨rfl, F⟩
     refine wE (ev_move rfl) F S rfl fun a F=>?_
     obtain ⟨x3, hx2, hm⟩ := bind_some hm
     refine wl_cut 3 (fun a w' => w = w' ∧ Fr 32 a [(20, .bool x3), (3, .string x1), (2, bp b1 0)]) ?_ ?_
     ·clear hm; obtain ⟨hc4, hm⟩ | ⟨hc4, hm⟩ := ite_or hx2
      ·refine wl_skip rfl rfl rfl rfl (ne_ft hc4) F rfl rfl ?_; clear F a; intro a F
       refine wl_skip rfl rfl rfl rfl (ne_ft hc4) F rfl rfl ?_; clear F a; intro a F
       refine wE (ev_pickT rfl hc4 rfl) F S rfl fun a F=>?_
       obtain rfl := sinj hm
       refine wpList_nil (then_n ?_); exact ⟨rfl, F.sub ⟨rfl, rfl, rfl, trivial⟩⟩
      ·refine wl_ev (wg F rfl rfl rfl rfl hc4) (ev_move rfl) F S rfl rfl ?_; clear F a; intro a F
       refine wl_ev (wg F rfl rfl rfl rfl hc4) (ev_str rfl rfl (bs_eql _ _ _)) F S rfl rfl ?_; clear F a; intro a F
       refine wE (ev_pickF rfl hc4 rfl) F S rfl fun a F=>?_
       obtain rfl := sinj hm
       refine wpList_nil (then_n ?_); exact ⟨rfl, F.sub ⟨rfl, rfl, rfl, trivial⟩⟩
     clear F; rintro a w' ⟨rfl, F⟩
     refine wpList_nil ?_
     refine then_n ?_
     obtain ⟨hc5, hm⟩ | ⟨hc5, hm⟩ := ite_or hm
     ·refine wp_condT F rfl hc5 ?_
      refine wp_seq ?_
      refine wp_region_lit ?_
      refine wl_storeC (wn rfl) rfl F S rfl rfl (vs := [.bool false]) rfl ts4 (one_cons rfl one_nil) (k := 3) rfl (lb rfl) (c' := #[.bool false]) rfl rfl ?_; clear S; intro w S
      refine wpList_nil ?_
      refine then_n ?_
      refine wp_ret ?_
      refine then_r ?_
      refine inb_r ?_
      refine then_r ?_
      refine rj_r ?_
      replace S : St g1 [[(l1, .loop (R1 .busy Option.none))], [(D1, .deferred (some []))], [bx b1 #[.bool false] 4]] fr w := St.tail [[(l1, .loop (R1 .busy Option.none))], [(D1, .deferred (some []))], [bx b1 #[.bool false] 4]] _ (((S.frontC 3 rfl).frontC 2 rfl).frontC 2 rfl)
      exact ⟨g1, F.sub trivial, (Le.refl _), S, hm⟩
     ·refine wp_condF F rfl hc5 ?_
      refine wp_skip ?_
      refine then_n ?_
      refine wp_seq ?_
      refine wp_region_lit ?_
      refine wE (ev_move rfl) F S rfl fun a F=>?_
      refine wE (ev_lenS rfl tu9) F S rfl fun a F=>?_
      refine wE (ev_move rfl) F S rfl fun a F=>?_
      refine wpList_nil ?_
      refine then_n ?_
      refine wp_cut1 (fun a w => ∃ (g4 : Gh), Fr 32 a [] ∧ Le g1 g4 ∧ St g4 [[(l1, .loop (R1 .busy Option.none))], [(D1, .deferred (some []))], [bx b1 #[.bool false] 4]] fr w ∧ treepatch_ValidPath.j4 = some r) ?_ ?_
      ·refine wp_block ?_
       obtain ⟨r1, hr1, hm⟩ := bind_some hm
       have hmo1 := hm; clear hm
       refine wp_iter (σ := Int) (ρ := Unit ⊕ Unit) (m := fun s => treepatch_ValidPath.l1 x1 s) (I := fun x4 a w => ∃ (g5 : Gh), Fr 32 a [(23, .i6 x4), (22, .i6 (x1.size : Int)), (3, .string x1), (2, bp b1 0)] ∧ Le g1 g5 ∧ St g5 [[(l1, .loop (R1 .busy Option.none))], [(D1, .deferred (some []))], [bx b1 #[.bool false] 4]] fr w) hr1 ?_ ?_
       ·replace S : St g1 [[(l1, .loop (R1 .busy Option.none))], [(D1, .deferred (some []))], [bx b1 #[.bool false] 4]] fr w := St.tail [[(l1, .loop (R1 .busy Option.none))], [(D1, .deferred (some []))], [bx b1 #[.bool false] 4]] _ (((S.frontC 3 rfl).frontC 2 rfl).frontC 2 rfl)
        exact ⟨g1, F.sub ⟨rfl, rfl, rfl, rfl, trivial⟩, (Le.refl _), S⟩
       ·clear F S; rintro x4 a w x5 ⟨g5, F, l6, S⟩ hx3 hfin1
        have hm : treepatch_ValidPath.l1 x1 x4 = some x5 := hx3; clear hx3
        unfold treepatch_ValidPath.l1 at hm
        refine wp_seq ?_
        refine wp_region_lit ?_
        refine wE (ev_int rfl rfl (bo_lss _ _ _ _)) F S rfl fun a F=>?_
        refine wpList_nil ?_
        refine then_n ?_
        refine wp_seq ?_
        obtain ⟨hc6, hm⟩ | ⟨hc6, hm⟩ := ite_or hm
        ·refine wp_condT F rfl hc6 ?_
         refine wp_skip ?_
         refine then_n ?_
         refine wp_seq ?_
         refine wp_block ?_
         refine wp_seq ?_
         refine wp_region_lit ?_
         refine wE (ev_move rfl) F S rfl fun a F=>?_
         refine wE (ev_assign rfl) F S rfl fun a F=>?_
         refine wpList_nil ?_
         refine then_n ?_
         refine wp_seq ?_
         refine wp_region_lit ?_
         refine wE (ev_move rfl) F S rfl fun a F=>?_
         refine wE (ev_move rfl) F S rfl fun a F=>?_
         obtain ⟨y1, hy1, hm⟩ := bind_some hm
         refine wE (ev_sAt hy1 tu9 rfl rfl) F S rfl fun a F=>?_
         obtain ⟨y2, hy2, hm⟩ := bind_some hm
         refine wl_call0 (wn rfl) rfl F rfl (treepatch_Letter_ok (fr := (fl [[(l1, .loop (R1 .busy Option.none))], [(D1, .deferred (some []))], [bx b1 #[.bool false] 4]] fr)) y1 S hy2) rfl tc74 rfl rfl ?_; clear F a S
         rintro _ a w ⟨g6, l7, S, rfl⟩ F; replace S : St g6 [[(l1, .loop (R1 .busy Option.none))], [(D1, .deferred (some []))], [bx b1 #[.bool false] 4]] fr w := S
         refine wE (ev_not rfl) F S rfl fun a F=>?_
         refine wpList_nil ?_
         refine then_n ?_
         obtain ⟨hc7, hm⟩ | ⟨hc7, hm⟩ := ite_or hm
         ·refine wp_condT F rfl hc7 ?_
          refine wp_seq ?_
          refine wp_region_lit ?_
          refine wl_storeC (wn rfl) rfl F S rfl rfl (vs := [.bool false]) rfl ts4 (one_cons rfl one_nil) (k := 2) rfl (lb rfl) (c' := #[.bool false]) rfl rfl ?_; clear S; intro w S
          refine wpList_nil ?_
          refine then_n ?_
          refine wp_ret ?_
          refine inb_r ?_
          refine then_r ?_
          refine then_r ?_
          refine inb_r ?_
          refine then_r ?_
          refine inb_r ?_
          refine then_r ?_
          refine rj_r ?_
          obtain rfl := sinj hm
          obtain rfl := hfin1 _ rfl
          clear hm
          have hm : (treepatch_ValidPath.j2 : Option Bool) = some _ := hmo1
          exact ⟨g6, F.sub trivial, (l6.trans l7), S, hm⟩
         ·refine wp_condF F rfl hc7 ?_
          refine wp_skip ?_
          refine inb_n ?_
          refine then_n ?_
          refine wp_region_lit ?_
          obtain ⟨z1, hz1, hm⟩ := bind_some hm
          refine wE (ev_int rfl rfl (bo_add hz1)) F S rfl fun a F=>?_
          refine wE (ev_move rfl) F S rfl fun a F=>?_
          refine wpList_nil ?_
          refine then_n ?_
          obtain rfl := sinj hm
          refine ⟨_, rfl, ?_⟩
          exact ⟨g6, F.sub ⟨rfl, rfl, rfl, rfl, trivial⟩, (l6.trans l7), S⟩
        ·refine wp_condF F rfl hc6 ?_
         refine wp_exit ?_
         refine then_e ?_
         refine then_e ?_
         refine inb_x ?_
         refine then_n ?_
         obtain rfl := sinj hm
         obtain rfl := hfin1 _ rfl
         clear hm
         have hm : (treepatch_ValidPath.j4 : Option Bool) = some _ := hmo1
         exact ⟨g5, F.sub trivial, l6, S, hm⟩
      ·clear F S hm; rintro a w ⟨g4, F, l5, S, hm⟩
       refine inb_n ?_
       refine then_n ?_
       exact ⟨g4, F.sub trivial, l5, S, hm⟩
    ·clear F S hm; rintro a w ⟨g3, F, l4, S, hm⟩
     refine rj_n ?_
     refine round_n S 0 rfl hR1 ?_; clear F S a; intro w S; refine ⟨_, rfl, ?_⟩; intro a F
     replace S : St g3 [[(l1, .loop (R1 .ready Option.none))], [(D1, .deferred (some []))], [bx b1 #[.bool false] 4]] fr w := S
     replace F : Fr 52 a [(51, .bool true)] := F
     refine wpList_nil ?_
     refine post_n _ F rfl ar_nil ?_
     refine ⟨_, rfl, ?_⟩; refine rp_n S 0 rfl hR1 ?_; clear F S; intro w S a F
     replace S : St g3 [[(D1, .deferred (some []))], [bx b1 #[.bool false] 4]] fr w := S
     replace F : Fr ⟨32, [mkD D1]⟩ a [(2, bp b1 0)] := F
     refine inb_n ?_
     refine then_n ?_
     refine wp_seq ?_
     refine wp_region_lit ?_
     refine wl_storeC (wn rfl) rfl F S rfl rfl (vs := [.bool true]) rfl ts4 (one_cons rfl one_nil) (k := 1) rfl (lb rfl) (c' := #[.bool true]) rfl rfl ?_; clear S; intro w S
     refine wpList_nil ?_
     refine then_n ?_
     refine wp_ret ?_
     obtain rfl := sinj hm
     refine post_rM (fn := Tryd.f62) (rs := [.cell 2 4]) [.bool true] F S 0 rfl rfl (fun w S => (ar_cons (res1 rfl tu4 rfl (box_ptr (cells := [.bool true]) 1 rfl 0 rfl (lb rfl) w S)) ar_nil)) ?_; clear S; intro w S; replace S : St g3 [[bx b1 #[.bool true] 4]] fr w := S
     replace S : St g3 [] fr w := St.tail [] _ S
     exact ⟨_, rfl, g3, (l2.trans l4), S, rfl⟩
   ·clear F S hm; rintro a w ⟨g2, F, l3, S, hm⟩
    refine round_r S 0 rfl hR1 ?_; clear F S a; intro w S; refine ⟨_, rfl, ?_⟩; intro a F
    replace S : St g2 [[(l1, .loop (R1 .done (some .ret)))], [(D1, .deferred (some []))], [bx b1 #[.bool false] 4]] fr w := S
    replace F : Fr 52 a [(51, .bool false)] := F
    refine wpList_nil ?_
    refine post_n _ F rfl ar_nil ?_
    refine ⟨_, rfl, ?_⟩; refine rp_r S 0 rfl hR1 ?_; clear F S; intro w S a F
    replace S : St g2 [[(D1, .deferred (some []))], [bx b1 #[.bool false] 4]] fr w := S
    replace F : Fr ⟨32, [mkD D1]⟩ a [(2, bp b1 0)] := F
    refine inb_r ?_
    refine then_r ?_
    obtain rfl := sinj hm
    refine post_rM (fn := Tryd.f62) (rs := [.cell 2 4]) [.bool false] F S 0 rfl rfl (fun w S => (ar_cons (res1 rfl tu4 rfl (box_ptr (cells := [.bool false]) 1 rfl 0 rfl (lb rfl) w S)) ar_nil)) ?_; clear S; intro w S; replace S : St g2 [[bx b1 #[.bool false] 4]] fr w := S
    replace S : St g2 [] fr w := St.tail [] _ S
    exact ⟨_, rfl, g2, (l2.trans l3), S, rfl⟩

theorem stringslite_HasPrefix_ok {g : Gh} {fr : Hl} {w : World} {r : Bool} (s_ : ByteArray) (prefix_ : ByteArray) (S : St g [] fr w) (hm : stringslite_HasPrefix s_ prefix_ = some r) :
  Calls Tryd.prog 81 [.string s_, .string prefix_].toArray w (fun en w' => ∃ v, en = .returned v ∧ ∃ (g' : Gh), Le g g' ∧ St g' [] fr w' ∧ .bool r = v) := by
 unfold stringslite_HasPrefix at hm
 refine calls_enter (fn := Tryd.f81) Tryd.func81 rfl Tryd.ntmps81 (lb rfl) ?_
 intro a F
 replace F : Fr 18 a [(0, .string s_), (1, .string prefix_)] := F
 refine wp_seq ?_
 refine wp_region_lit ?_
 refine wE (ev_assign rfl) F S rfl fun a F=>?_
 refine wpList_nil ?_
 refine then_n ?_
 refine wp_seq ?_
 refine wp_region_lit ?_
 refine wE (ev_move rfl) F S rfl fun a F=>?_
 refine wE (ev_lenS rfl tu9) F S rfl fun a F=>?_
 refine wE (ev_move rfl) F S rfl fun a F=>?_
 refine wE (ev_lenS rfl tu9) F S rfl fun a F=>?_
 refine wE (ev_int rfl rfl (bo_geq _ _ _ _)) F S rfl fun a F=>?_
 refine wE (ev_move rfl) F S rfl fun a F=>?_
 obtain ⟨x1, hx1, hm⟩ := bind_some hm
 refine wl_cut 7 (fun a w' => w = w' ∧ Fr 18 a [(17, .bool x1), (4, .bool false)]) ?_ ?_
 ·clear hm; obtain ⟨hc1, hm⟩ | ⟨hc1, hm⟩ := ite_or hx1
  ·refine wl_ev (wg F rfl rfl rfl rfl hc1) (ev_move rfl) F S rfl rfl ?_; clear F a; intro a F
   refine wl_ev (wg F rfl rfl rfl rfl hc1) (ev_move rfl) F S rfl rfl ?_; clear F a; intro a F
   refine wl_ev (wg F rfl rfl rfl rfl hc1) (ev_lenS rfl tu9) F S rfl rfl ?_; clear F a; intro a F
   obtain ⟨y1, hy1, hm⟩ := bind_some hm
   refine wl_ev (wg F rfl rfl rfl rfl hc1) (ev_scut hy1 tu9 rfl (bnd0 _) (bndV rfl)) F S rfl rfl ?_; clear F a; intro a F
   refine wl_ev (wg F rfl rfl rfl rfl hc1) (ev_move rfl) F S rfl rfl ?_; clear F a; intro a F
   refine wl_ev (wg F rfl rfl rfl rfl hc1) (ev_str rfl rfl (bs_eql _ _ _)) F S rfl rfl ?_; clear F a; intro a F
   refine wE (ev_pickT rfl hc1 rfl) F S rfl fun a F=>?_
   obtain rfl := sinj hm
   refine wpList_nil (then_n ?_); exact ⟨rfl, F.sub ⟨rfl, rfl, trivial⟩⟩
  ·refine wl_skip rfl rfl rfl rfl (ne_tf hc1) F rfl rfl ?_; clear F a; intro a F
   refine wl_skip rfl rfl rfl rfl (ne_tf hc1) F rfl rfl ?_; clear F a; intro a F
   refine wl_skip rfl rfl rfl rfl (ne_tf hc1) F rfl rfl ?_; clear F a; intro a F
   refine wl_skip rfl rfl rfl rfl (ne_tf hc1) F rfl rfl ?_; clear F a; intro a F
   refine wl_skip rfl rfl rfl rfl (ne_tf hc1) F rfl rfl ?_; clear F a; intro a F
   refine wl_skip rfl rfl rfl rfl (ne_tf hc1) F rfl rfl ?_; clear F a; intro a F
   refine wE (ev_pickF rfl hc1 rfl) F S rfl fun a F=>?_
   obtain rfl := sinj hm
   refine wpList_nil (then_n ?_); exact ⟨rfl, F.sub ⟨rfl, rfl, trivial⟩⟩
 clear F; rintro a w' ⟨rfl, F⟩
 refine wE (ev_assign rfl) F S rfl fun a F=>?_
 refine wpList_nil ?_
 refine then_n ?_
 refine wp_ret ?_
 obtain rfl := sinj hm
 refine post_r _ F rfl (ar_cons (resT rfl) ar_nil) ?_
 exact ⟨_, rfl, g, (Le.refl _), S, rfl⟩

theorem strings_HasPrefix_ok {g : Gh} {fr : Hl} {w : World} {r : Bool} (s_ : ByteArray) (prefix_ : ByteArray) (S : St g [] fr w) (hm : strings_HasPrefix s_ prefix_ = some r) :
  Calls Tryd.prog 75 [.string s_, .string prefix_].toArray w (fun en w' => ∃ v, en = .returned v ∧ ∃ (g' : Gh), Le g g' ∧ St g' [] fr w' ∧ .bool r = v) := by
 unfold strings_HasPrefix at hm
 refine calls_enter (fn := Tryd.f75) Tryd.func75 rfl Tryd.ntmps75 (lb rfl) ?_
 intro a F
 replace F : Fr 8 a [(0, .string s_), (1, .string prefix_)] := F
 refine wp_seq ?_
 refine wp_region_lit ?_
 refine wE (ev_assign rfl) F S rfl fun a F=>?_
 refine wpList_nil ?_
 refine then_n ?_
 refine wp_seq ?_
 refine wp_region_lit ?_
 refine wE (ev_move rfl) F S rfl fun a F=>?_
 refine wE (ev_move rfl) F S rfl fun a F=>?_
 obtain ⟨y1, hy1, hm⟩ := bind_some hm
 refine wl_call0 (wn rfl) rfl F rfl (stringslite_HasPrefix_ok s_ prefix_ S hy1) rfl tc81 rfl rfl ?_; clear F a S
 rintro _ a w ⟨g1, l1, S, rfl⟩ F; replace S : St g1 [] fr w := S
 refine wE (ev_assign rfl) F S rfl fun a F=>?_
 refine wpList_nil ?_
 refine then_n ?_
 refine wp_ret ?_
 obtain rfl := sinj hm
 refine post_r _ F rfl (ar_cons (resT rfl) ar_nil) ?_
 exact ⟨_, rfl, g1, l1, S, rfl⟩

theorem treepatch_Related_ok {g : Gh} {fr : Hl} {w : World} {r : Bool} (a_ : ByteArray) (b_ : ByteArray) (S : St g [] fr w) (hm : treepatch_Related a_ b_ = some r) :
  Calls Tryd.prog 63 [.string a_, .string b_].toArray w (fun en w' => ∃ v, en = .returned v ∧ ∃ (g' : Gh), Le g g' ∧ St g' [] fr w' ∧ .bool r = v) := by
 unfold treepatch_Related at hm
 refine calls_enter (fn := Tryd.f63) Tryd.func63 rfl Tryd.ntmps63 (lb rfl) ?_
 intro a F
 replace F : Fr 20 a [(0, .string a_), (1, .string b_)] := F
 refine wp_seq ?_
 refine wp_region_lit ?_
 refine wE (ev_assign rfl) F S rfl fun a F=>?_
 refine wpList_nil ?_
 refine then_n ?_
 refine wp_seq ?_
 refine wp_region_lit ?_
 refine wE (ev_move rfl) F S rfl fun a F=>?_
 refine wE (ev_move rfl) F S rfl fun a F=>?_
 refine wE (ev_str rfl rfl (bs_eql _ _ _)) F S rfl fun a F=>?_
 refine wE (ev_move rfl) F S rfl fun a F=>?_
 obtain ⟨x1, hx1, hm⟩ := bind_some hm
 refine wl_cut 5 (fun a w => ∃ g1, Fr 20 a [(13, .bool x1), (4, .bool false), (0, .string a_), (1, .string b_)] ∧ Le g g1 ∧ St g1 [] fr w) ?_ ?_
 ·clear hm; obtain ⟨hc1, hm⟩ | ⟨hc1, hm⟩ := ite_or hx1
  ·refine wl_skip rfl rfl rfl rfl (ne_ft hc1) F rfl rfl ?_; clear F a; intro a F
   refine wl_skip rfl rfl rfl rfl (ne_ft hc1) F rfl rfl ?_; clear F a; intro a F
   refine wl_skip rfl rfl rfl rfl (ne_ft hc1) F rfl rfl ?_; clear F a; intro a F
   refine wl_skip rfl rfl rfl rfl (ne_ft hc1) F rfl rfl ?_; clear F a; intro a F
   refine wE (ev_pickT rfl hc1 rfl) F S rfl fun a F=>?_
   obtain rfl := sinj hm
   refine wpList_nil (then_n ?_); exact ⟨g, F.sub ⟨rfl, rfl, rfl, rfl, trivial⟩, (Le.refl _), S⟩
  ·refine wl_ev (wg F rfl rfl rfl rfl hc1) (ev_move rfl) F S rfl rfl ?_; clear F a; intro a F
   refine wl_ev (wg F rfl rfl rfl rfl hc1) (ev_move rfl) F S rfl rfl ?_; clear F a; intro a F
   obtain ⟨z1, hz1, hm⟩ := bind_some hm
   refine wl_ev (wg F rfl rfl rfl rfl hc1) (ev_str rfl rfl (bs_add hz1)) F S rfl rfl ?_; clear F a; intro a F
   obtain ⟨y1, hy1, hm⟩ := bind_some hm
   refine wl_call0 (wg F rfl rfl rfl rfl hc1) rfl F rfl (strings_HasPrefix_ok a_ z1 S hy1) rfl tc75 rfl rfl ?_; clear F a S
   rintro _ a w ⟨g2, l2, S, rfl⟩ F; replace S : St g2 [] fr w := S
   refine wE (ev_pickF rfl hc1 rfl) F S rfl fun a F=>?_
   obtain rfl := sinj hm
   refine wpList_nil (then_n ?_); exact ⟨g2, F.sub ⟨rfl, rfl, rfl, rfl, trivial⟩, l2, S⟩
 clear F S; rintro a w ⟨g1, F, l1, S⟩
 refine wE (ev_move rfl) F S rfl fun a F=>?_
 obtain ⟨x2, hx2, hm⟩ := bind_some hm
 refine wl_cut 5 (fun a w => ∃ g3, Fr 20 a [(19, .bool x2), (4, .bool false)] ∧ Le g1 g3 ∧ St g3 [] fr w) ?_ ?_
 ·clear hm; obtain ⟨hc2, hm⟩ | ⟨hc2, hm⟩ := ite_or hx2
  ·refine wl_skip rfl rfl rfl rfl (ne_ft hc2) F rfl rfl ?_; clear F a; intro a F
   refine wl_skip rfl rfl rfl rfl (ne_ft hc2) F rfl rfl ?_; clear F a; intro a F
   refine wl_skip rfl rfl rfl rfl (ne_ft hc2) F rfl rfl ?_; clear F a; intro a F
   refine wl_skip rfl rfl rfl rfl (ne_ft hc2) F rfl rfl ?_; clear F a; intro a F
   refine wE (ev_pickT rfl hc2 rfl) F S rfl fun a F=>?_
   obtain rfl := sinj hm
   refine wpList_nil (then_n ?_); exact ⟨g1, F.sub ⟨rfl, rfl, trivial⟩, (Le.refl _), S⟩
  ·refine wl_ev (wg F rfl rfl rfl rfl hc2) (ev_move rfl) F S rfl rfl ?_; clear F a; intro a F
   refine wl_ev (wg F rfl rfl rfl rfl hc2) (ev_move rfl) F S rfl rfl ?_; clear F a; intro a F
   obtain ⟨z2, hz2, hm⟩ := bind_some hm
   refine wl_ev (wg F rfl rfl rfl rfl hc2) (ev_str rfl rfl (bs_add hz2)) F S rfl rfl ?_; clear F a; intro a F
   obtain ⟨y2, hy2, hm⟩ := bind_some hm
   refine wl_call0 (wg F rfl rfl rfl rfl hc2) rfl F rfl (strings_HasPrefix_ok b_ z2 S hy2) rfl tc75 rfl rfl ?_; clear F a S
   rintro _ a w ⟨g4, l4, S, rfl⟩ F; replace S : St g4 [] fr w := S
   refine wE (ev_pickF rfl hc2 rfl) F S rfl fun a F=>?_
   obtain rfl := sinj hm
   refine wpList_nil (then_n ?_); exact ⟨g4, F.sub ⟨rfl, rfl, trivial⟩, l4, S⟩
 clear F S; rintro a w ⟨g3, F, l3, S⟩
 refine wE (ev_assign rfl) F S rfl fun a F=>?_
 refine wpList_nil ?_
 refine then_n ?_
 refine wp_ret ?_
 obtain rfl := sinj hm
 refine post_r _ F rfl (ar_cons (resT rfl) ar_nil) ?_
 exact ⟨_, rfl, g3, (l1.trans l3), S, rfl⟩

theorem treepatch_check_ok {g : Gh} {fr : Hl} {w : World} {r : Int} (c_ : TreeChange) (vc_1 : Value) (hc_1 : RepSl g c_.Lines vc_1) (vc_2 : Value) (hc_2 : RepSl g c_.Patch.Hunks vc_2) (S : St g [] fr w) (hm : treepatch_check c_ = some r) :
  Calls Tryd.prog 42 [.agg #[.i6 c_.Kind, .string c_.Path, .string c_.To, vc_1, vc_2]].toArray w (fun en w' => ∃ v, en = .returned v ∧ ∃ (g' : Gh), Le g g' ∧ St g' [] fr w' ∧ .i6 r = v) := by
 unfold treepatch_check at hm
 refine calls_enter (fn := Tryd.f42) Tryd.func42 rfl Tryd.ntmps42 (lb rfl) ?_
 intro a F
 replace F : Fr 84 a [(0, .agg #[.i6 c_.Kind, .string c_.Path, .string c_.To, vc_1, vc_2])] := F
 refine wp_seq ?_
 refine wp_region_lit ?_
 refine wl_boxC (wn rfl) rfl rfl rfl F S rfl rfl ?_; clear F a S; rintro b1 a w F S
 refine wE (ev_assign rfl) F S rfl fun a F=>?_
 refine wpList_nil ?_
 refine then_n ?_
 refine wp_seq ?_
 refine wp_quiet mo (by kernel_rfl) S ?_
 refine wq_ev (wn rfl) (ev_fieldAddr' tu77 tf77_0 (z := 0) ts3 rfl ⟨_, rfl⟩ rfl) F rfl rfl ?_; clear F a; intro a F
 refine wq_ev (wn rfl) (ev_load1 tu3 rfl rfl (box_ptr (cells := [.i6 c_.Kind]) 0 rfl 0 rfl (lb rfl))) F rfl rfl ?_; clear F a; intro a F
 refine wq_ev (wn rfl) (ev_int rfl rfl (bo_eql _ _ _ _)) F rfl rfl ?_; clear F a; intro a F
 refine wq_ev (wn rfl) (ev_fieldAddr' tu77 tf77_0 (z := 0) ts3 rfl ⟨_, rfl⟩ rfl) F rfl rfl ?_; clear F a; intro a F
 refine wq_ev (wn rfl) (ev_load1 tu3 rfl rfl (box_ptr (cells := [.i6 c_.Kind]) 0 rfl 0 rfl (lb rfl))) F rfl rfl ?_; clear F a; intro a F
 refine wq_ev (wn rfl) (ev_int rfl rfl (bo_eql _ _ _ _)) F rfl rfl ?_; clear F a; intro a F
 refine wq_ev (wn rfl) (ev_assign rfl) F rfl rfl ?_; clear F a; intro a F
 refine wq_ev (wn rfl) (ev_assign rfl) F rfl rfl ?_; clear F a; intro a F
 refine wq_nil ?_; clear S; intro w S
 refine then_n ?_
 refine wp_seq ?_
 refine wp_block ?_
 refine wp_seq ?_
 refine wp_region_lit ?_
 refine wE (ev_fieldAddr' tu77 tf77_0 (z := 0) ts3 rfl ⟨_, rfl⟩ rfl) F S rfl fun a F=>?_
 refine wE (ev_load1 tu3 rfl rfl (box_ptr (cells := [.i6 c_.Kind]) 0 rfl 0 rfl (lb rfl))) F S rfl fun a F=>?_
 refine wE (ev_int rfl rfl (bo_lss _ _ _ _)) F S rfl fun a F=>?_
 refine wE (ev_move rfl) F S rfl fun a F=>?_
 obtain ⟨x1, hx1, hm⟩ := bind_some hm
 refine wl_cut 4 (fun a w' => w = w' ∧ Fr 84 a [(20, .bool x1), (4, .bool (decide (c_.Kind = 3))), (3, .bool (decide (c_.Kind = 4))), (1, bp b1 0)]) ?_ ?_
 ·clear hm; obtain ⟨hc1, hm⟩ | ⟨hc1, hm⟩ := ite_or hx1
  ·refine wl_skip rfl rfl rfl rfl (ne_ft hc1) F rfl rfl ?_; clear F a; intro a F
   refine wl_skip rfl rfl rfl rfl (ne_ft hc1) F rfl rfl ?_; clear F a; intro a F
   refine wl_skip rfl rfl rfl rfl (ne_ft hc1) F rfl rfl ?_; clear F a; intro a F
   refine wE (ev_pickT rfl hc1 rfl) F S rfl fun a F=>?_
   obtain rfl := sinj hm
   refine wpList_nil (then_n ?_); exact ⟨rfl, F.sub ⟨rfl, rfl, rfl, rfl, trivial⟩⟩
  ·refine wl_ev (wg F rfl rfl rfl rfl hc1) (ev_fieldAddr' tu77 tf77_0 (z := 0) ts3 rfl ⟨_, rfl⟩ rfl) F S rfl rfl ?_; clear F a; intro a F
   refine wl_ev (wg F rfl rfl rfl rfl hc1) (ev_load1 tu3 rfl rfl (box_ptr (cells := [.i6 c_.Kind]) 0 rfl 0 rfl (lb rfl))) F S rfl rfl ?_; clear F a; intro a F
   refine wl_ev (wg F rfl rfl rfl rfl hc1) (ev_int rfl rfl (bo_gtr _ _ _ _)) F S rfl rfl ?_; clear F a; intro a F
   refine wE (ev_pickF rfl hc1 rfl) F S rfl fun a F=>?_
   obtain rfl := sinj hm
   refine wpList_nil (then_n ?_); exact ⟨rfl, F.sub ⟨rfl, rfl, rfl, rfl, trivial⟩⟩
 clear F; rintro a w' ⟨rfl, F⟩
 refine wE (ev_assign rfl) F S rfl fun a F=>?_
 refine wpList_nil ?_
 refine then_n ?_
 obtain ⟨hc2, hm⟩ | ⟨hc2, hm⟩ := ite_or hm
 ·refine wp_condT F rfl hc2 ?_
  refine wp_seq ?_
  refine wp_region_lit ?_
  refine wE (ev_assign rfl) F S rfl fun a F=>?_
  refine wpList_nil ?_
  refine then_n ?_
  refine wp_ret ?_
  refine inb_r ?_
  refine then_r ?_
  obtain rfl := sinj hm
  refine post_r _ F rfl (ar_cons (resT rfl) ar_nil) ?_
  replace S : St g [] fr w := St.tail [] _ S
  exact ⟨_, rfl, g, (Le.refl _), S, rfl⟩
 ·refine wp_condF F rfl hc2 ?_
  refine wp_seq ?_
  refine wp_region_lit ?_
  refine wE (ev_fieldAddr' tu77 tf77_1 (z := 0) ts9 rfl ⟨_, rfl⟩ rfl) F S rfl fun a F=>?_
  refine wE (ev_load1 tu9 rfl rfl (box_ptr (cells := [.string c_.Path]) 0 rfl 1 rfl (lb rfl))) F S rfl fun a F=>?_
  obtain ⟨y1, hy1, hm⟩ := bind_some hm
  refine wl_call0 (wn rfl) rfl F rfl (treepatch_ValidPath_ok (fr := (fl [[bx b1 #[.i6 c_.Kind, .string c_.Path, .string c_.To, vc_1, vc_2] 77]] fr)) c_.Path S hy1) rfl tc62 rfl rfl ?_; clear F a S
  rintro _ a w ⟨g1, l1, S, rfl⟩ F; replace S : St g1 [[bx b1 #[.i6 c_.Kind, .string c_.Path, .string c_.To, vc_1, vc_2] 77]] fr w := S
  refine wE (ev_not rfl) F S rfl fun a F=>?_
  refine wE (ev_move rfl) F S rfl fun a F=>?_
  obtain ⟨x2, hx2, hm⟩ := bind_some hm
  refine wl_cut 8 (fun a w => ∃ g2, Fr 84 a [(34, .bool x2), (4, .bool (decide (c_.Kind = 3))), (3, .bool (decide (c_.Kind = 4))), (1, bp b1 0)] ∧ Le g1 g2 ∧ St g2 [[bx b1 #[.i6 c_.Kind, .string c_.Path, .string c_.To, vc_1, vc_2] 77]] fr w) ?_ ?_
  ·clear hm; obtain ⟨hc3, hm⟩ | ⟨hc3, hm⟩ := ite_or hx2
   ·refine wl_skip rfl rfl rfl rfl (ne_ft hc3) F rfl rfl ?_; clear F a; intro a F
    refine wl_skip rfl rfl rfl rfl (ne_ft hc3) F rfl rfl ?_; clear F a; intro a F
    refine wl_skipu rfl rfl rfl rfl F rfl rfl ?_; clear F a; intro a F
    refine wl_skipu rfl rfl rfl rfl F rfl rfl ?_; clear F a; intro a F
    refine wl_skipu rfl rfl rfl rfl F rfl rfl ?_; clear F a; intro a F
    refine wl_skipu rfl rfl rfl rfl F rfl rfl ?_; clear F a; intro a F
    refine wl_skip rfl rfl rfl rfl (ne_ft hc3) F rfl rfl ?_; clear F a; intro a F
    refine wE (ev_pickT rfl hc3 rfl) F S rfl fun a F=>?_
    obtain rfl := sinj hm
    refine wpList_nil (then_n ?_); exact ⟨g1, F.sub ⟨rfl, rfl, rfl, rfl, trivial⟩, (Le.refl _), S⟩
   ·refine wl_ev (wg F rfl rfl rfl rfl hc3) (ev_move rfl) F S rfl rfl ?_; clear F a; intro a F
    refine wl_ev (wg F rfl rfl rfl rfl hc3) (ev_move rfl) F S rfl rfl ?_; clear F a; intro a F
    obtain ⟨x3, hx3, hm⟩ := bind_some hm
    refine wl_cut 5 (fun a w => ∃ g3, Fr 84 a [(33, .bool x3), (26, .bool !y1), (4, .bool (decide (c_.Kind = 3))), (3, .bool (decide (c_.Kind = 4))), (1, bp b1 0)] ∧ Le g1 g3 ∧ St g3 [[bx b1 #[.i6 c_.Kind, .string c_.Path, .string c_.To, vc_1, vc_2] 77]] fr w) ?_ ?_
    ·clear hm; obtain ⟨hc4, hm⟩ | ⟨hc4, hm⟩ := ite_or hx3
     ·refine wl_ev (wg F rfl rfl rfl rfl hc4) (ev_fieldAddr' tu77 tf77_2 (z := 0) ts9 rfl ⟨_, rfl⟩ rfl) F S rfl rfl ?_; clear F a; intro a F
      refine wl_ev (wg F rfl rfl rfl rfl hc4) (ev_load1 tu9 rfl rfl (box_ptr (cells := [.string c_.To]) 0 rfl 2 rfl (lb rfl))) F S rfl rfl ?_; clear F a; intro a F
      obtain ⟨y2, hy2, hm⟩ := bind_some hm
      refine wl_call0 (wg F rfl rfl rfl rfl hc4) rfl F rfl (treepatch_ValidPath_ok (fr := (fl [[bx b1 #[.i6 c_.Kind, .string c_.Path, .string c_.To, vc_1, vc_2] 77]] fr)) c_.To S hy2) rfl tc62 rfl rfl ?_; clear F a S
      rintro _ a w ⟨g4, l4, S, rfl⟩ F; replace S : St g4 [[bx b1 #[.i6 c_.Kind, .string c_.Path, .string c_.To, vc_1, vc_2] 77]] fr w := S
      refine wl_ev (wg F rfl rfl rfl rfl hc4) (ev_not rfl) F S rfl rfl ?_; clear F a; intro a F
      refine wl_ev (wg F rfl rfl rfl rfl hc3) (ev_pickT rfl hc4 rfl) F S rfl rfl ?_; clear F a; intro a F
      obtain rfl := sinj hm
      refine wpList_nil (then_n ?_); exact ⟨g4, F.sub ⟨rfl, rfl, rfl, rfl, rfl, trivial⟩, l4, S⟩
     ·refine wl_skip rfl rfl rfl rfl (ne_tf hc4) F rfl rfl ?_; clear F a; intro a F
      refine wl_skip rfl rfl rfl rfl (ne_tf hc4) F rfl rfl ?_; clear F a; intro a F
      refine wl_skip rfl rfl rfl rfl (ne_tf hc4) F rfl rfl ?_; clear F a; intro a F
      refine wl_skip rfl rfl rfl rfl (ne_tf hc4) F rfl rfl ?_; clear F a; intro a F
      refine wl_ev (wg F rfl rfl rfl rfl hc3) (ev_pickF rfl hc4 rfl) F S rfl rfl ?_; clear F a; intro a F
      obtain rfl := sinj hm
      refine wpList_nil (then_n ?_); exact ⟨g1, F.sub ⟨rfl, rfl, rfl, rfl, rfl, trivial⟩, (Le.refl _), S⟩
    clear F S; rintro a w ⟨g3, F, l3, S⟩
    refine wE (ev_pickF rfl hc3 rfl) F S rfl fun a F=>?_
    obtain rfl := sinj hm
    refine wpList_nil (then_n ?_); exact ⟨g3, F.sub ⟨rfl, rfl, rfl, rfl, trivial⟩, l3, S⟩
  clear F S; rintro a w ⟨g2, F, l2, S⟩
  refine wE (ev_assign rfl) F S rfl fun a F=>?_
  refine wpList_nil ?_
  refine then_n ?_
  obtain ⟨hc5, hm⟩ | ⟨hc5, hm⟩ := ite_or hm
  ·refine wp_condT F rfl hc5 ?_
   refine wp_seq ?_
   refine wp_region_lit ?_
   refine wE (ev_assign rfl) F S rfl fun a F=>?_
   refine wpList_nil ?_
   refine then_n ?_
   refine wp_ret ?_
   refine inb_r ?_
   refine then_r ?_
   obtain rfl := sinj hm
   refine post_r _ F rfl (ar_cons (resT rfl) ar_nil) ?_
   replace S : St g2 [] fr w := St.tail [] _ S
   exact ⟨_, rfl, g2, (l1.trans l2), S, rfl⟩
  ·refine wp_condF F rfl hc5 ?_
   refine wp_seq ?_
   refine wp_region_lit ?_
   refine wE (ev_move rfl) F S rfl fun a F=>?_
   refine wE (ev_not rfl) F S rfl fun a F=>?_
   refine wE (ev_move rfl) F S rfl fun a F=>?_
   obtain ⟨x4, hx4, hm⟩ := bind_some hm
   refine wl_cut 4 (fun a w' => w = w' ∧ Fr 84 a [(42, .bool x4), (4, .bool (decide (c_.Kind = 3))), (3, .bool (decide (c_.Kind = 4))), (1, bp b1 0)]) ?_ ?_
   ·clear hm; obtain ⟨hc6, hm⟩ | ⟨hc6, hm⟩ := ite_or hx4
    ·refine wl_ev (wg F rfl rfl rfl rfl hc6) (ev_fieldAddr' tu77 tf77_2 (z := 0) ts9 rfl ⟨_, rfl⟩ rfl) F S rfl rfl ?_; clear F a; intro a F
     refine wl_ev (wg F rfl rfl rfl rfl hc6) (ev_load1 tu9 rfl rfl (box_ptr (cells := [.string c_.To]) 0 rfl 2 rfl (lb rfl))) F S rfl rfl ?_; clear F a; intro a F
     refine wl_ev (wg F rfl rfl rfl rfl hc6) (ev_str rfl rfl (bs_neq _ _ _)) F S rfl rfl ?_; clear F a; intro a F
     refine wE (ev_pickT rfl hc6 rfl) F S rfl fun a F=>?_
     obtain rfl := sinj hm
     refine wpList_nil (then_n ?_); exact ⟨rfl, F.sub ⟨rfl, rfl, rfl, rfl, trivial⟩⟩
    ·refine wl_skip rfl rfl rfl rfl (ne_tf hc6) F rfl rfl ?_; clear F a; intro a F
     refine wl_skip rfl rfl rfl rfl (ne_tf hc6) F rfl rfl ?_; clear F a; intro a F
     refine wl_skip rfl rfl rfl rfl (ne_tf hc6) F rfl rfl ?_; clear F a; intro a F
     refine wE (ev_pickF rfl hc6 rfl) F S rfl fun a F=>?_
     obtain rfl := sinj hm
     refine wpList_nil (then_n ?_); exact ⟨rfl, F.sub ⟨rfl, rfl, rfl, rfl, trivial⟩⟩
   clear F; rintro a w' ⟨rfl, F⟩
   refine wE (ev_move rfl) F S rfl fun a F=>?_
   obtain ⟨x5, hx5, hm⟩ := bind_some hm
   refine wl_cut 9 (fun a w => ∃ g5, Fr 84 a [(52, .bool x5), (4, .bool (decide (c_.Kind = 3))), (3, .bool (decide (c_.Kind = 4))), (1, bp b1 0)] ∧ Le g2 g5 ∧ St g5 [[bx b1 #[.i6 c_.Kind, .string c_.Path, .string c_.To, vc_1, vc_2] 77]] fr w) ?_ ?_
   ·clear hm; obtain ⟨hc7, hm⟩ | ⟨hc7, hm⟩ := ite_or hx5
    ·refine wl_skip rfl rfl rfl rfl (ne_ft hc7) F rfl rfl ?_; clear F a; intro a F
     refine wl_skip rfl rfl rfl rfl (ne_ft hc7) F rfl rfl ?_; clear F a; intro a F
     refine wl_skipu rfl rfl rfl rfl F rfl rfl ?_; clear F a; intro a F
     refine wl_skipu rfl rfl rfl rfl F rfl rfl ?_; clear F a; intro a F
     refine wl_skipu rfl rfl rfl rfl F rfl rfl ?_; clear F a; intro a F
     refine wl_skipu rfl rfl rfl rfl F rfl rfl ?_; clear F a; intro a F
     refine wl_skipu rfl rfl rfl rfl F rfl rfl ?_; clear F a; intro a F
     refine wl_skip rfl rfl rfl rfl (ne_ft hc7) F rfl rfl ?_; clear F a; intro a F
     refine wE (ev_pickT rfl hc7 rfl) F S rfl fun a F=>?_
     obtain rfl := sinj hm
     refine wpList_nil (then_n ?_); exact ⟨g2, F.sub ⟨rfl, rfl, rfl, rfl, trivial⟩, (Le.refl _), S⟩
    ·refine wl_ev (wg F rfl rfl rfl rfl hc7) (ev_move rfl) F S rfl rfl ?_; clear F a; intro a F
     refine wl_ev (wg F rfl rfl rfl rfl hc7) (ev_move rfl) F S rfl rfl ?_; clear F a; intro a F
     obtain ⟨x6, hx6, hm⟩ := bind_some hm
     refine wl_cut 6 (fun a w => ∃ g6, Fr 84 a [(51, .bool x6), (43, .bool x4), (4, .bool (decide (c_.Kind = 3))), (3, .bool (decide (c_.Kind = 4))), (1, bp b1 0)] ∧ Le g2 g6 ∧ St g6 [[bx b1 #[.i6 c_.Kind, .string c_.Path, .string c_.To, vc_1, vc_2] 77]] fr w) ?_ ?_
     ·clear hm; obtain ⟨hc8, hm⟩ | ⟨hc8, hm⟩ := ite_or hx6
      ·refine wl_ev (wg F rfl rfl rfl rfl hc8) (ev_fieldAddr' tu77 tf77_1 (z := 0) ts9 rfl ⟨_, rfl⟩ rfl) F S rfl rfl ?_; clear F a; intro a F
       refine wl_ev (wg F rfl rfl rfl rfl hc8) (ev_load1 tu9 rfl rfl (box_ptr (cells := [.string c_.Path]) 0 rfl 1 rfl (lb rfl))) F S rfl rfl ?_; clear F a; intro a F
       refine wl_ev (wg F rfl rfl rfl rfl hc8) (ev_fieldAddr' tu77 tf77_2 (z := 0) ts9 rfl ⟨_, rfl⟩ rfl) F S rfl rfl ?_; clear F a; intro a F
       refine wl_ev (wg F rfl rfl rfl rfl hc8) (ev_load1 tu9 rfl rfl (box_ptr (cells := [.string c_.To]) 0 rfl 2 rfl (lb rfl))) F S rfl rfl ?_; clear F a; intro a F
       obtain ⟨y3, hy3, hm⟩ := bind_some hm
       refine wl_call0 (wg F rfl rfl rfl rfl hc8) rfl F rfl (treepatch_Related_ok (fr := (fl [[bx b1 #[.i6 c_.Kind, .string c_.Path, .string c_.To, vc_1, vc_2] 77]] fr)) c_.Path c_.To S hy3) rfl tc63 rfl rfl ?_; clear F a S
       rintro _ a w ⟨g7, l7, S, rfl⟩ F; replace S : St g7 [[bx b1 #[.i6 c_.Kind, .string c_.Path, .string c_.To, vc_1, vc_2] 77]] fr w := S
       refine wl_ev (wg F rfl rfl rfl rfl hc7) (ev_pickT rfl hc8 rfl) F S rfl rfl ?_; clear F a; intro a F
       obtain rfl := sinj hm
       refine wpList_nil (then_n ?_); exact ⟨g7, F.sub ⟨rfl, rfl, rfl, rfl, rfl, trivial⟩, l7, S⟩
      ·refine wl_skip rfl rfl rfl rfl (ne_tf hc8) F rfl rfl ?_; clear F a; intro a F
       refine wl_skip rfl rfl rfl rfl (ne_tf hc8) F rfl rfl ?_; clear F a; intro a F
       refine wl_skip rfl rfl rfl rfl (ne_tf hc8) F rfl rfl ?_; clear F a; intro a F
       refine wl_skip rfl rfl rfl rfl (ne_tf hc8) F rfl rfl ?_; clear F a; intro a F
       refine wl_skip rfl rfl rfl rfl (ne_tf hc8) F rfl rfl ?_; clear F a; intro a F
       refine wl_ev (wg F rfl rfl rfl rfl hc7) (ev_pickF rfl hc8 rfl) F S rfl rfl ?_; clear F a; intro a F
       obtain rfl := sinj hm
       refine wpList_nil (then_n ?_); exact ⟨g2, F.sub ⟨rfl, rfl, rfl, rfl, rfl, trivial⟩, (Le.refl _), S⟩
     clear F S; rintro a w ⟨g6, F, l6, S⟩
     refine wE (ev_pickF rfl hc7 rfl) F S rfl fun a F=>?_
     obtain rfl := sinj hm
     refine wpList_nil (then_n ?_); exact ⟨g6, F.sub ⟨rfl, rfl, rfl, rfl, trivial⟩, l6, S⟩
   clear F S; rintro a w ⟨g5, F, l5, S⟩
   refine wE (ev_assign rfl) F S rfl fun a F=>?_
   refine wpList_nil ?_
   refine then_n ?_
   obtain ⟨hc9, hm⟩ | ⟨hc9, hm⟩ := ite_or hm
   ·refine wp_condT F rfl hc9 ?_
    refine wp_seq ?_
    refine wp_region_lit ?_
    refine wE (ev_assign rfl) F S rfl fun a F=>?_
    refine wpList_nil ?_
    refine then_n ?_
    refine wp_ret ?_
    refine inb_r ?_
    refine then_r ?_
    obtain rfl := sinj hm
    refine post_r _ F rfl (ar_cons (resT rfl) ar_nil) ?_
    replace S : St g5 [] fr w := St.tail [] _ S
    exact ⟨_, rfl, g5, ((l1.trans l2).trans l5), S, rfl⟩
   ·refine wp_condF F rfl hc9 ?_
    refine wp_seq ?_
    refine wp_region_lit ?_
    refine wE (ev_fieldAddr' tu77 tf77_3 (z := 0) ts22 rfl ⟨_, rfl⟩ rfl) F S rfl fun a F=>?_
    refine wE (ev_load1 tu22 rfl rfl (box_ptr (cells := [vc_1]) 0 rfl 3 rfl (lb rfl))) F S rfl fun a F=>?_
    refine wE (ev_lenSh hc_1 rfl tu22) F S rfl fun a F=>?_
    refine wE (ev_int rfl rfl (bo_gtr _ _ _ _)) F S rfl fun a F=>?_
    refine wE (ev_move rfl) F S rfl fun a F=>?_
    obtain ⟨x7, hx7, hm⟩ := bind_some hm
    refine wl_cut 5 (fun a w' => w = w' ∧ Fr 84 a [(63, .bool x7), (3, .bool (decide (c_.Kind = 4))), (1, bp b1 0)]) ?_ ?_
    ·clear hm; obtain ⟨hc10, hm⟩ | ⟨hc10, hm⟩ := ite_or hx7
     ·refine wl_ev (wg F rfl rfl rfl rfl hc10) (ev_move rfl) F S rfl rfl ?_; clear F a; intro a F
      refine wl_ev (wg F rfl rfl rfl rfl hc10) (ev_move rfl) F S rfl rfl ?_; clear F a; intro a F
      obtain ⟨x8, hx8, hm⟩ := bind_some hm
      refine wl_cut 2 (fun a w' => w = w' ∧ Fr 84 a [(62, .bool x8), (58, .bool (decide ((c_.Lines.length : Int) > 0))), (3, .bool (decide (c_.Kind = 4))), (1, bp b1 0)]) ?_ ?_
      ·clear hm; obtain ⟨hc11, hm⟩ | ⟨hc11, hm⟩ := ite_or hx8
       ·refine wl_skip rfl rfl rfl rfl (ne_ft hc11) F rfl rfl ?_; clear F a; intro a F
        refine wl_ev (wg F rfl rfl rfl rfl hc10) (ev_pickT rfl hc11 rfl) F S rfl rfl ?_; clear F a; intro a F
        obtain rfl := sinj hm
        refine wpList_nil (then_n ?_); exact ⟨rfl, F.sub ⟨rfl, rfl, rfl, rfl, trivial⟩⟩
       ·refine wl_ev (wg F rfl rfl rfl rfl hc11) (ev_move rfl) F S rfl rfl ?_; clear F a; intro a F
        refine wl_ev (wg F rfl rfl rfl rfl hc10) (ev_pickF rfl hc11 rfl) F S rfl rfl ?_; clear F a; intro a F
        obtain rfl := sinj hm
        refine wpList_nil (then_n ?_); exact ⟨rfl, F.sub ⟨rfl, rfl, rfl, rfl, trivial⟩⟩
      clear F; rintro a w' ⟨rfl, F⟩
      refine wE (ev_pickT rfl hc10 rfl) F S rfl fun a F=>?_
      obtain rfl := sinj hm
      refine wpList_nil (then_n ?_); exact ⟨rfl, F.sub ⟨rfl, rfl, rfl, trivial⟩⟩
     ·refine wl_skip rfl rfl rfl rfl (ne_tf hc10) F rfl rfl ?_; clear F a; intro a F
      refine wl_skip rfl rfl rfl rfl (ne_tf hc10) F rfl rfl ?_; clear F a; intro a F
      refine wl_skipu rfl rfl rfl rfl F rfl rfl ?_; clear F a; intro a F
      refine wl_skip rfl rfl rfl rfl (ne_tf hc10) F rfl rfl ?_; clear F a; intro a F
      refine wE (ev_pickF rfl hc10 rfl) F S rfl fun a F=>?_
      obtain rfl := sinj hm
      refine wpList_nil (then_n ?_); exact ⟨rfl, F.sub ⟨rfl, rfl, rfl, trivial⟩⟩
    clear F; rintro a w' ⟨rfl, F⟩
    refine wE (ev_assign rfl) F S rfl fun a F=>?_
    refine wpList_nil ?_
    refine then_n ?_
    obtain ⟨hc12, hm⟩ | ⟨hc12, hm⟩ := ite_or hm
    ·refine wp_condT F rfl hc12 ?_
     refine wp_seq ?_
     refine wp_region_lit ?_
     refine wE (ev_assign rfl) F S rfl fun a F=>?_
     refine wpList_nil ?_
     refine then_n ?_
     refine wp_ret ?_
     refine inb_r ?_
     refine then_r ?_
     obtain rfl := sinj hm
     refine post_r _ F rfl (ar_cons (resT rfl) ar_nil) ?_
     replace S : St g5 [] fr w := St.tail [] _ S
     exact ⟨_, rfl, g5, ((l1.trans l2).trans l5), S, rfl⟩
    ·refine wp_condF F rfl hc12 ?_
     refine wp_seq ?_
     refine wp_region_lit ?_
     refine wE (ev_move rfl) F S rfl fun a F=>?_
     refine wE (ev_fieldAddr' tu77 tf77_4 (z := 0) ts42 rfl ⟨_, rfl⟩ rfl) F S rfl fun a F=>?_
     refine wE (ev_fieldAddr' tu42 tf42_0 (z := 0) ts40 rfl ⟨_, rfl⟩ rfl) F S rfl fun a F=>?_
     refine wE (ev_load1 tu40 rfl rfl (box_ptr (cells := [vc_2]) 0 rfl 4 rfl (lb rfl))) F S rfl fun a F=>?_
     refine wE (ev_lenSh hc_2 rfl tu40) F S rfl fun a F=>?_
     refine wE (ev_int rfl rfl (bo_gtr _ _ _ _)) F S rfl fun a F=>?_
     refine wE (ev_neB tu4 rfl rfl) F S rfl fun a F=>?_
     refine wE (ev_assign rfl) F S rfl fun a F=>?_
     refine wpList_nil ?_
     refine then_n ?_
     obtain ⟨hc13, hm⟩ | ⟨hc13, hm⟩ := ite_or hm
     ·refine wp_condT F rfl hc13 ?_
      refine wp_seq ?_
      refine wp_region_lit ?_
      refine wE (ev_assign rfl) F S rfl fun a F=>?_
      refine wpList_nil ?_
      refine then_n ?_
      refine wp_ret ?_
      refine inb_r ?_
      refine then_r ?_
      obtain rfl := sinj hm
      refine post_r _ F rfl (ar_cons (resT rfl) ar_nil) ?_
      replace S : St g5 [] fr w := St.tail [] _ S
      exact ⟨_, rfl, g5, ((l1.trans l2).trans l5), S, rfl⟩
     ·refine wp_condF F rfl hc13 ?_
      refine wp_skip ?_
      refine inb_n ?_
      refine then_n ?_
      refine wp_seq ?_
      refine wp_seq ?_
      refine wp_region_lit ?_
      refine wE (ev_fieldAddr' tu77 tf77_3 (z := 0) ts22 rfl ⟨_, rfl⟩ rfl) F S rfl fun a F=>?_
      refine wE (ev_load1 tu22 rfl rfl (box_ptr (cells := [vc_1]) 0 rfl 3 rfl (lb rfl))) F S rfl fun a F=>?_
      obtain ⟨y4, hy4, hm⟩ := bind_some hm
      refine wl_call0 (wn rfl) rfl F rfl (lines_Validate_ok (fr := (fl [[bx b1 #[.i6 c_.Kind, .string c_.Path, .string c_.To, vc_1, vc_2] 77]] fr)) c_.Lines vc_1 (hc_1.mono ((l1.trans l2).trans l5)) S hy4) rfl tc4 rfl rfl ?_; clear F a S
      rintro _ a w ⟨g8, l8, S, rfl⟩ F; replace S : St g8 [[bx b1 #[.i6 c_.Kind, .string c_.Path, .string c_.To, vc_1, vc_2] 77]] fr w := S
      refine wl_alloc (wn rfl) rfl tz25 (cs := [.i6 0, .i6 0]) rfl F S rfl rfl ?_; clear F a S; rintro b2 a w F S
      refine wl_storeC (wn rfl) rfl F S rfl rfl (vs := [.i6 y4.Code, .i6 y4.Index]) rfl ts25 (one_cons rfl (one_cons rfl one_nil)) (k := 0) rfl (lb rfl) (c' := #[.i6 y4.Code, .i6 y4.Index]) rfl rfl ?_; clear S; intro w S
      refine wpList_nil ?_
      refine then_n ?_
      refine wp_seq ?_
      refine wp_region_lit ?_
      refine wE (ev_loadA tu25 rfl (cs := [.i6 y4.Code, .i6 y4.Index]) ts25 rfl (box_ptr (cells := [.i6 y4.Code, .i6 y4.Index]) 0 rfl 0 rfl (lb rfl))) F S rfl fun a F=>?_
      refine wE (ev_build (parts := []) (vs := []) rfl (fun w => tb25_  w)) F S rfl fun a F=>?_
      refine wE (ev_neS tu25 tqa25 tqb25 tqc25 (xs := [.i6 y4.Code, .i6 y4.Index]) (ys := [.i6 0, .i6 0]) rfl rfl ⟨_, _, rfl, by decide, ⟨_, _, rfl, rfl, leaf_int tu3⟩, ⟨_, _, rfl, by decide, ⟨_, _, rfl, rfl, leaf_int tu3⟩, rfl⟩⟩) F S rfl fun a F=>?_
      refine wpList_nil ?_
      refine then_n ?_
      obtain ⟨hc14, hm⟩ | ⟨hc14, hm⟩ := ite_or hm
      ·refine wp_condT F rfl hc14 ?_
       refine wp_seq ?_
       refine wp_region_lit ?_
       refine wE (ev_fieldAddr' tu25 tf25_0 (z := 0) ts3 rfl ⟨_, rfl⟩ rfl) F S rfl fun a F=>?_
       refine wE (ev_load1 tu3 rfl rfl (box_ptr (cells := [.i6 y4.Code]) 0 rfl 0 rfl (lb rfl))) F S rfl fun a F=>?_
       refine wE (ev_assign rfl) F S rfl fun a F=>?_
       refine wpList_nil ?_
       refine then_n ?_
       refine wp_ret ?_
       refine then_r ?_
       obtain rfl := sinj hm
       refine post_r _ F rfl (ar_cons (resT rfl) ar_nil) ?_
       replace S : St g8 [] fr w := St.tail [] _ S
       exact ⟨_, rfl, g8, (((l1.trans l2).trans l5).trans l8), S, rfl⟩
      ·refine wp_condF F rfl hc14 ?_
       refine wp_skip ?_
       refine then_n ?_
       refine wp_seq ?_
       refine wp_region_lit ?_
       refine wE (ev_fieldAddr' tu77 tf77_4 (z := 0) ts42 rfl ⟨_, rfl⟩ rfl) F S rfl fun a F=>?_
       refine wE (ev_loadA tu42 rfl (cs := [vc_2]) ts42 rfl (box_ptr (cells := [vc_2]) 1 rfl 4 rfl (lb rfl))) F S rfl fun a F=>?_
       obtain ⟨y5, hy5, hm⟩ := bind_some hm
       refine wl_call0 (wn rfl) rfl F rfl (textpatch_Validate_ok (fr := (fl [[bx b2 #[.i6 y4.Code, .i6 y4.Index] 25], [bx b1 #[.i6 c_.Kind, .string c_.Path, .string c_.To, vc_1, vc_2] 77]] fr)) c_.Patch vc_2 (hc_2.mono (((l1.trans l2).trans l5).trans l8)) S hy5) rfl tc24 rfl rfl ?_; clear F a S
       rintro _ a w ⟨g9, l9, S, rfl⟩ F; replace S : St g9 [[bx b2 #[.i6 y4.Code, .i6 y4.Index] 25], [bx b1 #[.i6 c_.Kind, .string c_.Path, .string c_.To, vc_1, vc_2] 77]] fr w := S
       refine wE (ev_field1 tu25 tf25_0 tu3 rfl (cs := [.i6 y5.Code, .i6 y5.Index]) rfl rfl) F S rfl fun a F=>?_
       refine wE (ev_assign rfl) F S rfl fun a F=>?_
       refine wpList_nil ?_
       refine then_n ?_
       refine wp_ret ?_
       obtain rfl := sinj hm
       refine post_r _ F rfl (ar_cons (resT rfl) ar_nil) ?_
       replace S : St g9 [] fr w := St.tail [] _ S
       exact ⟨_, rfl, g9, ((((l1.trans l2).trans l5).trans l8).trans l9), S, rfl⟩

theorem treepatch_ValidatePatch_ok {g : Gh} {fr : Hl} {w : World} {r : Fault} (p_ : TreePatch) (vp_1 : Value) (hp_1 : RepSl g p_.Changes vp_1) (S : St g [] fr w) (hm : treepatch_ValidatePatch p_ = some r) :
  Calls Tryd.prog 28 [.agg #[vp_1]].toArray w (fun en w' => ∃ v, en = .returned v ∧ ∃ (g' : Gh), Le g g' ∧ St g' [] fr w' ∧ .agg #[.i6 r.Code, .i6 r.Index] = v) := by
 unfold treepatch_ValidatePatch at hm
 refine calls_enter (fn := Tryd.f28) Tryd.func28 rfl Tryd.ntmps28 (lb rfl) ?_
 intro a F
 replace F : Fr 28 a [(0, .agg #[vp_1])] := F
 refine wp_seq ?_
 refine wp_region_lit ?_
 refine wl_boxC (wn rfl) rfl rfl rfl F S rfl rfl ?_; clear F a S; rintro b1 a w F S
 refine wl_alloc (wn rfl) rfl tz25 (cs := [.i6 0, .i6 0]) rfl F S rfl rfl ?_; clear F a S; rintro b2 a w F S
 refine wpList_nil ?_
 refine then_n ?_
 refine wp_seq ?_
 refine wp_seq ?_
 refine wp_region_lit ?_
 refine wE (ev_fieldAddr' tu51 tf51_0 (z := 0) ts49 rfl ⟨_, rfl⟩ rfl) F S rfl fun a F=>?_
 refine wE (ev_load1 tu49 rfl rfl (box_ptr (cells := [vp_1]) 1 rfl 0 rfl (lb rfl))) F S rfl fun a F=>?_
 refine wE (ev_lenSh hp_1 rfl tu49) F S rfl fun a F=>?_
 refine wE (ev_int rfl rfl (bo_gtr _ _ _ _)) F S rfl fun a F=>?_
 refine wpList_nil ?_
 refine then_n ?_
 obtain ⟨hc1, hm⟩ | ⟨hc1, hm⟩ := ite_or hm
 ·refine wp_condT F rfl hc1 ?_
  refine wp_seq ?_
  refine wp_region_lit ?_
  refine wE (ev_build (parts := [(0, .const (.i6 2)), (1, .const (.i6 (-1)))]) (vs := [(0, .i6 2), (1, .i6 (-1))]) rfl (fun w => tb25_0_1 2 (-1) w)) F S rfl fun a F=>?_
  refine wl_storeC (wn rfl) rfl F S rfl rfl (vs := [.i6 2, .i6 (-1)]) rfl ts25 (one_cons rfl (one_cons rfl one_nil)) (k := 0) rfl (lb rfl) (c' := #[.i6 2, .i6 (-1)]) rfl rfl ?_; clear S; intro w S
  refine wpList_nil ?_
  refine then_n ?_
  refine wp_ret ?_
  refine then_r ?_
  obtain rfl := sinj hm
  refine post_r _ F rfl (ar_cons (resA rfl tu25 rfl (box_ptr (cells := [.i6 2, .i6 (-1)]) 0 rfl 0 rfl (lb rfl) w S) ts25) ar_nil) ?_
  replace S : St g [] fr w := St.tail [] _ S
  exact ⟨_, rfl, g, (Le.refl _), S, rfl⟩
 ·refine wp_condF F rfl hc1 ?_
  refine wp_skip ?_
  refine then_n ?_
  refine wp_cut (fun a w => ∃ (g1 : Gh), Fr 28 a [(2, bp b2 0)] ∧ Le g g1 ∧ St g1 [[bx b2 #[.i6 0, .i6 0] 25]] fr w ∧ treepatch_ValidatePatch.j1 = some r) ?_ ?_
  ·refine wp_seq ?_
   refine wp_region_lit ?_
   refine wE (ev_fieldAddr' tu51 tf51_0 (z := 0) ts49 rfl ⟨_, rfl⟩ rfl) F S rfl fun a F=>?_
   refine wE (ev_load1 tu49 rfl rfl (box_ptr (cells := [vp_1]) 1 rfl 0 rfl (lb rfl))) F S rfl fun a F=>?_
   refine wE (ev_lenSh hp_1 rfl tu49) F S rfl fun a F=>?_
   refine wE (ev_move rfl) F S rfl fun a F=>?_
   refine wpList_nil ?_
   refine then_n ?_
   refine wp_block ?_
   obtain ⟨r1, hr1, hm⟩ := bind_some hm
   have hmo1 := hm; clear hm
   refine wp_iter (σ := Int) (ρ := Fault ⊕ Unit) (m := fun s => treepatch_ValidatePatch.l1 p_ s) (I := fun x1 a w => ∃ (g2 : Gh), Fr 28 a [(14, .i6 x1), (13, .i6 (p_.Changes.length : Int)), (12, vp_1), (2, bp b2 0)] ∧ Le g g2 ∧ St g2 [[bx b2 #[.i6 0, .i6 0] 25]] fr w) hr1 ?_ ?_
   ·replace S : St g [[bx b2 #[.i6 0, .i6 0] 25]] fr w := St.tail [[bx b2 #[.i6 0, .i6 0] 25]] _ (S.frontC 0 rfl)
    exact ⟨g, F.sub ⟨rfl, rfl, rfl, rfl, trivial⟩, (Le.refl _), S⟩
   ·clear F S; rintro x1 a w x2 ⟨g2, F, l2, S⟩ hx1 hfin1
    have hm : treepatch_ValidatePatch.l1 p_ x1 = some x2 := hx1; clear hx1
    unfold treepatch_ValidatePatch.l1 at hm
    refine wp_seq ?_
    refine wp_region_lit ?_
    refine wE (ev_int rfl rfl (bo_lss _ _ _ _)) F S rfl fun a F=>?_
    refine wpList_nil ?_
    refine then_n ?_
    refine wp_seq ?_
    obtain ⟨hc2, hm⟩ | ⟨hc2, hm⟩ := ite_or hm
    ·refine wp_condT F rfl hc2 ?_
     refine wp_skip ?_
     refine then_n ?_
     refine wp_seq ?_
     refine wp_block ?_
     refine wp_seq ?_
     refine wp_region_lit ?_
     refine wE (ev_move rfl) F S rfl fun a F=>?_
     obtain ⟨y1, hy1, hm⟩ := bind_some hm
     obtain ⟨cs1, hr2, hp1⟩ := elemS (hp_1.mono l2) hy1
     obtain ⟨v1, v2, rfl, h1, h2⟩ := rep_TreeChange hr2
     refine wE (ev_idxS (hp_1.mono l2) hy1 tu49 ts77 rfl rfl) F S rfl fun a F=>?_
     refine wE (ev_loadA tu77 rfl (cs := [.i6 y1.Kind, .string y1.Path, .string y1.To, v1, v2]) ts77 rfl (ptr_mono (cks := [[bx b2 #[.i6 0, .i6 0] 25]]) (fr := fr) hp1 (Le.refl _))) F S rfl fun a F=>?_
     refine wl_alloc (wn rfl) rfl tz77 (cs := [.i6 0, .string ByteArray.empty, .string ByteArray.empty, nilS, nilS]) rfl F S rfl rfl ?_; clear F a S; rintro b3 a w F S
     refine wE (ev_assign rfl) F S rfl fun a F=>?_
     refine wl_storeC (wn rfl) rfl F S rfl rfl (vs := [.i6 y1.Kind, .string y1.Path, .string y1.To, v1, v2]) rfl ts77 (one_cons rfl (one_cons rfl (one_cons rfl (one_cons h1.one (one_cons h2.one one_nil))))) (k := 0) rfl (lb rfl) (c' := #[.i6 y1.Kind, .string y1.Path, .string y1.To, v1, v2]) rfl rfl ?_; clear S; intro w S
     refine wpList_nil ?_
     refine then_n ?_
     refine wp_seq ?_
     refine wp_region_lit ?_
     refine wE (ev_loadA tu77 rfl (cs := [.i6 y1.Kind, .string y1.Path, .string y1.To, v1, v2]) ts77 rfl (box_ptr (cells := [.i6 y1.Kind, .string y1.Path, .string y1.To, v1, v2]) 0 rfl 0 rfl (lb rfl))) F S rfl fun a F=>?_
     obtain ⟨y2, hy2, hm⟩ := bind_some hm
     refine wl_call0 (wn rfl) rfl F rfl (treepatch_check_ok (fr := (fl [[bx b3 #[.i6 y1.Kind, .string y1.Path, .string y1.To, v1, v2] 77], [bx b2 #[.i6 0, .i6 0] 25]] fr)) y1 v1 h1 v2 h2 S hy2) rfl tc42 rfl rfl ?_; clear F a S
     rintro _ a w ⟨g3, l3, S, rfl⟩ F; replace S : St g3 [[bx b3 #[.i6 y1.Kind, .string y1.Path, .string y1.To, v1, v2] 77], [bx b2 #[.i6 0, .i6 0] 25]] fr w := S
     refine wE (ev_assign rfl) F S rfl fun a F=>?_
     refine wpList_nil ?_
     refine then_n ?_
     refine wp_seq ?_
     refine wp_region_lit ?_
     refine wE (ev_move rfl) F S rfl fun a F=>?_
     refine wE (ev_int rfl rfl (bo_neq _ _ _ _)) F S rfl fun a F=>?_
     refine wpList_nil ?_
     refine then_n ?_
     obtain ⟨hc3, hm⟩ | ⟨hc3, hm⟩ := ite_or hm
     ·refine wp_condT F rfl hc3 ?_
      refine wp_seq ?_
      refine wp_region_lit ?_
      refine wE (ev_move rfl) F S rfl fun a F=>?_
      refine wE (ev_move rfl) F S rfl fun a F=>?_
      refine wE (ev_build (parts := [(0, .tmp 23), (1, .tmp 24)]) (vs := [(0, .i6 y2), (1, .i6 x1)]) rfl (fun w => tb25_0_1 y2 x1 w)) F S rfl fun a F=>?_
      refine wl_storeC (wn rfl) rfl F S rfl rfl (vs := [.i6 y2, .i6 x1]) rfl ts25 (one_cons rfl (one_cons rfl one_nil)) (k := 1) rfl (lb rfl) (c' := #[.i6 y2, .i6 x1]) rfl rfl ?_; clear S; intro w S
      refine wpList_nil ?_
      refine then_n ?_
      refine wp_ret ?_
      refine inb_r ?_
      refine then_r ?_
      refine then_r ?_
      refine inb_r ?_
      refine then_r ?_
      obtain rfl := sinj hm
      obtain rfl := hfin1 _ rfl
      clear hm
      have hm : (some ({ Code := y2, Index := x1 } : Fault) : Option Fault) = some _ := hmo1
      obtain rfl := sinj hm
      refine post_r _ F rfl (ar_cons (resA rfl tu25 rfl (box_ptr (cells := [.i6 y2, .i6 x1]) 1 rfl 0 rfl (lb rfl) w S) ts25) ar_nil) ?_
      replace S : St g3 [] fr w := St.tail [] _ S
      exact ⟨_, rfl, g3, (l2.trans l3), S, rfl⟩
     ·refine wp_condF F rfl hc3 ?_
      refine wp_skip ?_
      refine inb_n ?_
      refine then_n ?_
      refine wp_region_lit ?_
      obtain ⟨z1, hz1, hm⟩ := bind_some hm
      refine wE (ev_int rfl rfl (bo_add hz1)) F S rfl fun a F=>?_
      refine wE (ev_move rfl) F S rfl fun a F=>?_
      refine wpList_nil ?_
      refine then_n ?_
      obtain rfl := sinj hm
      refine ⟨_, rfl, ?_⟩
      replace S : St g3 [[bx b2 #[.i6 0, .i6 0] 25]] fr w := St.tail [[bx b2 #[.i6 0, .i6 0] 25]] _ (S.frontC 1 rfl)
      exact ⟨g3, F.sub ⟨rfl, rfl, rfl, rfl, trivial⟩, (l2.trans l3), S⟩
    ·refine wp_condF F rfl hc2 ?_
     refine wp_exit ?_
     refine then_e ?_
     refine then_e ?_
     refine inb_x ?_
     refine then_n ?_
     obtain rfl := sinj hm
     obtain rfl := hfin1 _ rfl
     clear hm
     have hm : (treepatch_ValidatePatch.j1 : Option Fault) = some _ := hmo1
     exact ⟨g2, F.sub ⟨rfl, trivial⟩, l2, S, hm⟩
  ·clear F S hm; rintro a w ⟨g1, F, l1, S, hm⟩
   refine wp_seq ?_
   refine wp_region_lit ?_
   refine wE (ev_build (parts := []) (vs := []) rfl (fun w => tb25_  w)) F S rfl fun a F=>?_
   refine wl_storeC (wn rfl) rfl F S rfl rfl (vs := [.i6 0, .i6 0]) rfl ts25 (one_cons rfl (one_cons rfl one_nil)) (k := 0) rfl (lb rfl) (c' := #[.i6 0, .i6 0]) rfl rfl ?_; clear S; intro w S
   refine wpList_nil ?_
   refine then_n ?_
   refine wp_ret ?_
   obtain rfl := sinj hm
   refine post_r _ F rfl (ar_cons (resA rfl tu25 rfl (box_ptr (cells := [.i6 0, .i6 0]) 0 rfl 0 rfl (lb rfl) w S) ts25) ar_nil) ?_
   replace S : St g1 [] fr w := St.tail [] _ S
   exact ⟨_, rfl, g1, l1, S, rfl⟩

theorem treepatch_Clash_ok {g : Gh} {fr : Hl} {w : World} {r : Bool} (files : (List File)) (vfiles1 : Value) (hfiles1 : RepSl g files vfiles1) (path : ByteArray) (except : Int) (S : St g [] fr w) (hm : treepatch_Clash files path except = some r) :
  Calls Tryd.prog 46 [vfiles1, .string path, .i6 except].toArray w (fun en w' => ∃ v, en = .returned v ∧ ∃ (g' : Gh), Le g g' ∧ St g' [] fr w' ∧ .bool r = v) := by
 unfold treepatch_Clash at hm
 refine calls_enter (fn := Tryd.f46) Tryd.func46 rfl Tryd.ntmps46 (lb rfl) ?_
 intro a F
 replace F : Fr 26 a [(0, vfiles1), (1, .string path), (2, .i6 except)] := F
 refine wp_seq ?_
 refine wp_region_lit ?_
 refine wE (ev_assign rfl) F S rfl fun a F=>?_
 refine wpList_nil ?_
 refine then_n ?_
 refine wp_cut (fun a w => ∃ (g1 : Gh), Fr 26 a [] ∧ Le g g1 ∧ St g1 [] fr w ∧ treepatch_Clash.j1 = some r) ?_ ?_
 ·refine wp_seq ?_
  refine wp_region_lit ?_
  refine wE (ev_move rfl) F S rfl fun a F=>?_
  refine wE (ev_lenSh hfiles1 rfl tu44) F S rfl fun a F=>?_
  refine wE (ev_move rfl) F S rfl fun a F=>?_
  refine wpList_nil ?_
  refine then_n ?_
  refine wp_block ?_
  obtain ⟨r1, hr1, hm⟩ := bind_some hm
  have hmo1 := hm; clear hm
  refine wp_iter (σ := Int) (ρ := Bool ⊕ Unit) (m := fun s => treepatch_Clash.l1 files path except s) (I := fun x1 a w => ∃ (g2 : Gh), Fr 26 a [(11, .i6 x1), (10, .i6 (files.length : Int)), (9, vfiles1), (1, .string path), (2, .i6 except)] ∧ Le g g2 ∧ St g2 [] fr w) hr1 ?_ ?_
  ·exact ⟨g, F.sub ⟨rfl, rfl, rfl, rfl, rfl, trivial⟩, (Le.refl _), S⟩
  ·clear F S; rintro x1 a w x2 ⟨g2, F, l2, S⟩ hx1 hfin1
   have hm : treepatch_Clash.l1 files path except x1 = some x2 := hx1; clear hx1
   unfold treepatch_Clash.l1 at hm
   refine wp_seq ?_
   refine wp_region_lit ?_
   refine wE (ev_int rfl rfl (bo_lss _ _ _ _)) F S rfl fun a F=>?_
   refine wpList_nil ?_
   refine then_n ?_
   refine wp_seq ?_
   obtain ⟨hc1, hm⟩ | ⟨hc1, hm⟩ := ite_or hm
   ·refine wp_condT F rfl hc1 ?_
    refine wp_skip ?_
    refine then_n ?_
    refine wp_seq ?_
    refine wp_block ?_
    refine wp_seq ?_
    refine wp_region_lit ?_
    refine wE (ev_move rfl) F S rfl fun a F=>?_
    obtain ⟨y1, hy1, hm⟩ := bind_some hm
    obtain ⟨cs1, hr2, hp1⟩ := elemS (hfiles1.mono l2) hy1
    obtain ⟨v1, rfl, h1⟩ := rep_File hr2
    refine wE (ev_idxS (hfiles1.mono l2) hy1 tu44 ts54 rfl rfl) F S rfl fun a F=>?_
    refine wE (ev_loadA tu54 rfl (cs := [.string y1.Path, v1]) ts54 rfl (ptr_mono (cks := []) (fr := fr) hp1 (Le.refl _))) F S rfl fun a F=>?_
    refine wl_alloc (wn rfl) rfl tz54 (cs := [.string ByteArray.empty, nilS]) rfl F S rfl rfl ?_; clear F a S; rintro b1 a w F S
    refine wE (ev_assign rfl) F S rfl fun a F=>?_
    refine wl_storeC (wn rfl) rfl F S rfl rfl (vs := [.string y1.Path, v1]) rfl ts54 (one_cons rfl (one_cons h1.one one_nil)) (k := 0) rfl (lb rfl) (c' := #[.string y1.Path, v1]) rfl rfl ?_; clear S; intro w S
    refine wpList_nil ?_
    refine then_n ?_
    refine wp_seq ?_
    refine wp_region_lit ?_
    refine wE (ev_move rfl) F S rfl fun a F=>?_
    refine wE (ev_move rfl) F S rfl fun a F=>?_
    refine wE (ev_int rfl rfl (bo_neq _ _ _ _)) F S rfl fun a F=>?_
    refine wE (ev_move rfl) F S rfl fun a F=>?_
    obtain ⟨x3, hx2, hm⟩ := bind_some hm
    refine wl_cut 5 (fun a w => ∃ g3, Fr 26 a [(24, .bool x3), (11, .i6 x1), (10, .i6 (files.length : Int)), (9, vfiles1), (1, .string path), (2, .i6 except)] ∧ Le g2 g3 ∧ St g3 [[bx b1 #[.string y1.Path, v1] 54]] fr w) ?_ ?_
    ·clear hm; obtain ⟨hc2, hm⟩ | ⟨hc2, hm⟩ := ite_or hx2
     ·refine wl_ev (wg F rfl rfl rfl rfl hc2) (ev_fieldAddr' tu54 tf54_0 (z := 0) ts9 rfl ⟨_, rfl⟩ rfl) F S rfl rfl ?_; clear F a; intro a F
      refine wl_ev (wg F rfl rfl rfl rfl hc2) (ev_load1 tu9 rfl rfl (box_ptr (cells := [.string y1.Path]) 0 rfl 0 rfl (lb rfl))) F S rfl rfl ?_; clear F a; intro a F
      refine wl_ev (wg F rfl rfl rfl rfl hc2) (ev_move rfl) F S rfl rfl ?_; clear F a; intro a F
      obtain ⟨y2, hy2, hm⟩ := bind_some hm
      refine wl_call0 (wg F rfl rfl rfl rfl hc2) rfl F rfl (treepatch_Related_ok (fr := (fl [[bx b1 #[.string y1.Path, v1] 54]] fr)) y1.Path path S hy2) rfl tc63 rfl rfl ?_; clear F a S
      rintro _ a w ⟨g4, l4, S, rfl⟩ F; replace S : St g4 [[bx b1 #[.string y1.Path, v1] 54]] fr w := S
      refine wE (ev_pickT rfl hc2 rfl) F S rfl fun a F=>?_
      obtain rfl := sinj hm
      refine wpList_nil (then_n ?_); exact ⟨g4, F.sub ⟨rfl, rfl, rfl, rfl, rfl, rfl, trivial⟩, l4, S⟩
     ·refine wl_skip rfl rfl rfl rfl (ne_tf hc2) F rfl rfl ?_; clear F a; intro a F
      refine wl_skip rfl rfl rfl rfl (ne_tf hc2) F rfl rfl ?_; clear F a; intro a F
      refine wl_skip rfl rfl rfl rfl (ne_tf hc2) F rfl rfl ?_; clear F a; intro a F
      refine wl_skip rfl rfl rfl rfl (ne_tf hc2) F rfl rfl ?_; clear F a; intro a F
      refine wE (ev_pickF rfl hc2 rfl) F S rfl fun a F=>?_
      obtain rfl := sinj hm
      refine wpList_nil (then_n ?_); exact ⟨g2, F.sub ⟨rfl, rfl, rfl, rfl, rfl, rfl, trivial⟩, (Le.refl _), S⟩
    clear F S; rintro a w ⟨g3, F, l3, S⟩
    refine wpList_nil ?_
    refine then_n ?_
    obtain ⟨hc3, hm⟩ | ⟨hc3, hm⟩ := ite_or hm
    ·refine wp_condT F rfl hc3 ?_
     refine wp_seq ?_
     refine wp_region_lit ?_
     refine wE (ev_assign rfl) F S rfl fun a F=>?_
     refine wpList_nil ?_
     refine then_n ?_
     refine wp_ret ?_
     refine inb_r ?_
     refine then_r ?_
     refine then_r ?_
     refine inb_r ?_
     refine then_r ?_
     obtain rfl := sinj hm
     obtain rfl := hfin1 _ rfl
     clear hm
     have hm : (some true : Option Bool) = some _ := hmo1
     obtain rfl := sinj hm
     refine post_r _ F rfl (ar_cons (resT rfl) ar_nil) ?_
     replace S : St g3 [] fr w := St.tail [] _ S
     exact ⟨_, rfl, g3, (l2.trans l3), S, rfl⟩
    ·refine wp_condF F rfl hc3 ?_
     refine wp_skip ?_
     refine inb_n ?_
     refine then_n ?_
     refine wp_region_lit ?_
     obtain ⟨z1, hz1, hm⟩ := bind_some hm
     refine wE (ev_int rfl rfl (bo_add hz1)) F S rfl fun a F=>?_
     refine wE (ev_move rfl) F S rfl fun a F=>?_
     refine wpList_nil ?_
     refine then_n ?_
     obtain rfl := sinj hm
     refine ⟨_, rfl, ?_⟩
     replace S : St g3 [] fr w := St.tail [] _ S
     exact ⟨g3, F.sub ⟨rfl, rfl, rfl, rfl, rfl, trivial⟩, (l2.trans l3), S⟩
   ·refine wp_condF F rfl hc1 ?_
    refine wp_exit ?_
    refine then_e ?_
    refine then_e ?_
    refine inb_x ?_
    refine then_n ?_
    obtain rfl := sinj hm
    obtain rfl := hfin1 _ rfl
    clear hm
    have hm : (treepatch_Clash.j1 : Option Bool) = some _ := hmo1
    exact ⟨g2, F.sub trivial, l2, S, hm⟩
 ·clear F S hm; rintro a w ⟨g1, F, l1, S, hm⟩
  refine wp_seq ?_
  refine wp_region_lit ?_
  refine wE (ev_assign rfl) F S rfl fun a F=>?_
  refine wpList_nil ?_
  refine then_n ?_
  refine wp_ret ?_
  obtain rfl := sinj hm
  refine post_r _ F rfl (ar_cons (resT rfl) ar_nil) ?_
  exact ⟨_, rfl, g1, l1, S, rfl⟩

theorem treepatch_Clash_okb {g : Gh} {fr : Hl} {w : World} {r : Bool} (files : (List File)) (vfiles1 : Value) (cfiles1 : Hl) (hfiles1 : OwnS g files vfiles1 cfiles1) (path : ByteArray) (except : Int) (S : St g [cfiles1] fr w) (hm : treepatch_Clash files path except = some r) :
  Calls Tryd.prog 46 [vfiles1, .string path, .i6 except].toArray w (fun en w' => ∃ v, en = .returned v ∧ ∃ (g' : Gh), Le g g' ∧ St g' [cfiles1] fr w' ∧ .bool r = v) := by
 unfold treepatch_Clash at hm
 refine calls_enter (fn := Tryd.f46) Tryd.func46 rfl Tryd.ntmps46 (lb rfl) ?_
 intro a F
 replace F : Fr 26 a [(0, vfiles1), (1, .string path), (2, .i6 except)] := F
 refine wp_seq ?_
 refine wp_region_lit ?_
 refine wE (ev_assign rfl) F S rfl fun a F=>?_
 refine wpList_nil ?_
 refine then_n ?_
 refine wp_cut (fun a w => ∃ (g1 : Gh), Fr 26 a [] ∧ Le g g1 ∧ St g1 [cfiles1] fr w ∧ treepatch_Clash.j1 = some r) ?_ ?_
 ·refine wp_seq ?_
  refine wp_region_lit ?_
  refine wE (ev_move rfl) F S rfl fun a F=>?_
  refine wE (ev_lenOw hfiles1 rfl tu44) F S rfl fun a F=>?_
  refine wE (ev_move rfl) F S rfl fun a F=>?_
  refine wpList_nil ?_
  refine then_n ?_
  refine wp_block ?_
  obtain ⟨r1, hr1, hm⟩ := bind_some hm
  have hmo1 := hm; clear hm
  refine wp_iter (σ := Int) (ρ := Bool ⊕ Unit) (m := fun s => treepatch_Clash.l1 files path except s) (I := fun x1 a w => ∃ (g2 : Gh), Fr 26 a [(11, .i6 x1), (10, .i6 (files.length : Int)), (9, vfiles1), (1, .string path), (2, .i6 except)] ∧ Le g g2 ∧ St g2 [cfiles1] fr w) hr1 ?_ ?_
  ·exact ⟨g, F.sub ⟨rfl, rfl, rfl, rfl, rfl, trivial⟩, (Le.refl _), S⟩
  ·clear F S; rintro x1 a w x2 ⟨g2, F, l2, S⟩ hx1 hfin1
   have hm : treepatch_Clash.l1 files path except x1 = some x2 := hx1; clear hx1
   unfold treepatch_Clash.l1 at hm
   refine wp_seq ?_
   refine wp_region_lit ?_
   refine wE (ev_int rfl rfl (bo_lss _ _ _ _)) F S rfl fun a F=>?_
   refine wpList_nil ?_
   refine then_n ?_
   refine wp_seq ?_
   obtain ⟨hc1, hm⟩ | ⟨hc1, hm⟩ := ite_or hm
   ·refine wp_condT F rfl hc1 ?_
    refine wp_skip ?_
    refine then_n ?_
    refine wp_seq ?_
    refine wp_block ?_
    refine wp_seq ?_
    refine wp_region_lit ?_
    refine wE (ev_move rfl) F S rfl fun a F=>?_
    obtain ⟨y1, hy1, hm⟩ := bind_some hm
    refine wE (ev_idxO (hfiles1.mono l2) hy1 tu44 ts54 rfl rfl) F S rfl fun a F=>?_
    obtain ⟨cs1, hr2, hq1⟩ := elemO (hfiles1.mono l2) hy1
    obtain ⟨v1, rfl, h1⟩ := rep_File hr2
    refine wE (ev_loadA tu54 rfl (cs := [.string y1.Path, v1]) ts54 rfl (hq1 _ _ 0 rfl)) F S rfl fun a F=>?_
    refine wl_alloc (wn rfl) rfl tz54 (cs := [.string ByteArray.empty, nilS]) rfl F S rfl rfl ?_; clear F a S; rintro b1 a w F S
    refine wE (ev_assign rfl) F S rfl fun a F=>?_
    refine wl_storeC (wn rfl) rfl F S rfl rfl (vs := [.string y1.Path, v1]) rfl ts54 (one_cons rfl (one_cons h1.one one_nil)) (k := 0) rfl (lb rfl) (c' := #[.string y1.Path, v1]) rfl rfl ?_; clear S; intro w S
    refine wpList_nil ?_
    refine then_n ?_
    refine wp_seq ?_
    refine wp_region_lit ?_
    refine wE (ev_move rfl) F S rfl fun a F=>?_
    refine wE (ev_move rfl) F S rfl fun a F=>?_
    refine wE (ev_int rfl rfl (bo_neq _ _ _ _)) F S rfl fun a F=>?_
    refine wE (ev_move rfl) F S rfl fun a F=>?_
    obtain ⟨x3, hx2, hm⟩ := bind_some hm
    refine wl_cut 5 (fun a w => ∃ g3, Fr 26 a [(24, .bool x3), (11, .i6 x1), (10, .i6 (files.length : Int)), (9, vfiles1), (1, .string path), (2, .i6 except)] ∧ Le g2 g3 ∧ St g3 [[bx b1 #[.string y1.Path, v1] 54], cfiles1] fr w) ?_ ?_
    ·clear hm; obtain ⟨hc2, hm⟩ | ⟨hc2, hm⟩ := ite_or hx2
     ·refine wl_ev (wg F rfl rfl rfl rfl hc2) (ev_fieldAddr' tu54 tf54_0 (z := 0) ts9 rfl ⟨_, rfl⟩ rfl) F S rfl rfl ?_; clear F a; intro a F
      refine wl_ev (wg F rfl rfl rfl rfl hc2) (ev_load1 tu9 rfl rfl (box_ptr (cells := [.string y1.Path]) 0 rfl 0 rfl (lb rfl))) F S rfl rfl ?_; clear F a; intro a F
      refine wl_ev (wg F rfl rfl rfl rfl hc2) (ev_move rfl) F S rfl rfl ?_; clear F a; intro a F
      obtain ⟨y2, hy2, hm⟩ := bind_some hm
      refine wl_call0 (wg F rfl rfl rfl rfl hc2) rfl F rfl (treepatch_Related_ok (fr := (fl [[bx b1 #[.string y1.Path, v1] 54], cfiles1] fr)) y1.Path path S hy2) rfl tc63 rfl rfl ?_; clear F a S
      rintro _ a w ⟨g4, l4, S, rfl⟩ F; replace S : St g4 [[bx b1 #[.string y1.Path, v1] 54], cfiles1] fr w := S
      refine wE (ev_pickT rfl hc2 rfl) F S rfl fun a F=>?_
      obtain rfl := sinj hm
      refine wpList_nil (then_n ?_); exact ⟨g4, F.sub ⟨rfl, rfl, rfl, rfl, rfl, rfl, trivial⟩, l4, S⟩
     ·refine wl_skip rfl rfl rfl rfl (ne_tf hc2) F rfl rfl ?_; clear F a; intro a F
      refine wl_skip rfl rfl rfl rfl (ne_tf hc2) F rfl rfl ?_; clear F a; intro a F
      refine wl_skip rfl rfl rfl rfl (ne_tf hc2) F rfl rfl ?_; clear F a; intro a F
      refine wl_skip rfl rfl rfl rfl (ne_tf hc2) F rfl rfl ?_; clear F a; intro a F
      refine wE (ev_pickF rfl hc2 rfl) F S rfl fun a F=>?_
      obtain rfl := sinj hm
      refine wpList_nil (then_n ?_); exact ⟨g2, F.sub ⟨rfl, rfl, rfl, rfl, rfl, rfl, trivial⟩, (Le.refl _), S⟩
    clear F S; rintro a w ⟨g3, F, l3, S⟩
    refine wpList_nil ?_
    refine then_n ?_
    obtain ⟨hc3, hm⟩ | ⟨hc3, hm⟩ := ite_or hm
    ·refine wp_condT F rfl hc3 ?_
     refine wp_seq ?_
     refine wp_region_lit ?_
     refine wE (ev_assign rfl) F S rfl fun a F=>?_
     refine wpList_nil ?_
     refine then_n ?_
     refine wp_ret ?_
     refine inb_r ?_
     refine then_r ?_
     refine then_r ?_
     refine inb_r ?_
     refine then_r ?_
     obtain rfl := sinj hm
     obtain rfl := hfin1 _ rfl
     clear hm
     have hm : (some true : Option Bool) = some _ := hmo1
     obtain rfl := sinj hm
     refine post_r _ F rfl (ar_cons (resT rfl) ar_nil) ?_
     replace S : St g3 [cfiles1] fr w := St.tail [cfiles1] _ (S.frontC 1 rfl)
     exact ⟨_, rfl, g3, (l2.trans l3), S, rfl⟩
    ·refine wp_condF F rfl hc3 ?_
     refine wp_skip ?_
     refine inb_n ?_
     refine then_n ?_
     refine wp_region_lit ?_
     obtain ⟨z1, hz1, hm⟩ := bind_some hm
     refine wE (ev_int rfl rfl (bo_add hz1)) F S rfl fun a F=>?_
     refine wE (ev_move rfl) F S rfl fun a F=>?_
     refine wpList_nil ?_
     refine then_n ?_
     obtain rfl := sinj hm
     refine ⟨_, rfl, ?_⟩
     replace S : St g3 [cfiles1] fr w := St.tail [cfiles1] _ (S.frontC 1 rfl)
     exact ⟨g3, F.sub ⟨rfl, rfl, rfl, rfl, rfl, trivial⟩, (l2.trans l3), S⟩
   ·refine wp_condF F rfl hc1 ?_
    refine wp_exit ?_
    refine then_e ?_
    refine then_e ?_
    refine inb_x ?_
    refine then_n ?_
    obtain rfl := sinj hm
    obtain rfl := hfin1 _ rfl
    clear hm
    have hm : (treepatch_Clash.j1 : Option Bool) = some _ := hmo1
    exact ⟨g2, F.sub trivial, l2, S, hm⟩
 ·clear F S hm; rintro a w ⟨g1, F, l1, S, hm⟩
  refine wp_seq ?_
  refine wp_region_lit ?_
  refine wE (ev_assign rfl) F S rfl fun a F=>?_
  refine wpList_nil ?_
  refine then_n ?_
  refine wp_ret ?_
  obtain rfl := sinj hm
  refine post_r _ F rfl (ar_cons (resT rfl) ar_nil) ?_
  exact ⟨_, rfl, g1, l1, S, rfl⟩
end Go.Dc
