/- Walks: each function comes to what its model says. -/
import Derived.Test.YtigjmijbekhdgaaDcTab
import Derived.Test.YtigjmijbekhdgaaDcM
namespace Go.Dc
open Go Go.Proofs
set_option maxRecDepth 100000
set_option maxHeartbeats 4000000
set_option linter.unusedVariables false
theorem stringslite_IndexByte_ok {g : Gh} {fr : Hl} {w : World} {r : Int} (s_ : ByteArray) (c_ : Int) (S : St g [] fr w) (hm : stringslite_IndexByte s_ c_ = some r) :
  Calls Try.prog 40 [.string s_, .int .u8 c_].toArray w (fun en w' => ∃ v, en = .returned v ∧ ∃ (g' : Gh), Le g g' ∧ St g' [] fr w' ∧ .i6 r = v) := by
 unfold stringslite_IndexByte at hm
 refine calls_enter (fn := Try.f40) Try.func40 rfl Try.ntmps40 (lb rfl) ?_
 intro a F
 replace F : Fr 8 a [(0, .string s_), (1, .int .u8 c_)] := F
 refine wp_seq ?_
 refine wp_region_lit ?_
 refine wE (ev_assign rfl) F S rfl fun a F=>?_
 refine wpList_nil ?_
 refine then_n ?_
 refine wp_seq ?_
 refine wp_region_lit ?_
 refine wE (ev_move rfl) F S rfl fun a F=>?_
 refine wE (ev_move rfl) F S rfl fun a F=>?_
 refine wE (ev_callx (xs := [.tmp 5, .tmp 6]) (vs := [.string s_, .int .u8 c_]) rfl rfl (fun w => tx42 s_ c_ w)) F S rfl fun a F=>?_
 refine wE (ev_assign rfl) F S rfl fun a F=>?_
 refine wpList_nil ?_
 refine then_n ?_
 refine wp_ret ?_
 obtain rfl := sinj hm
 refine post_r _ F rfl (ar_cons (resT rfl) ar_nil) ?_
 exact ⟨_, rfl, g, (Le.refl _), S, rfl⟩

theorem strings_IndexByte_ok {g : Gh} {fr : Hl} {w : World} {r : Int} (s_ : ByteArray) (c_ : Int) (S : St g [] fr w) (hm : strings_IndexByte s_ c_ = some r) :
  Calls Try.prog 35 [.string s_, .int .u8 c_].toArray w (fun en w' => ∃ v, en = .returned v ∧ ∃ (g' : Gh), Le g g' ∧ St g' [] fr w' ∧ .i6 r = v) := by
 unfold strings_IndexByte at hm
 refine calls_enter (fn := Try.f35) Try.func35 rfl Try.ntmps35 (lb rfl) ?_
 intro a F
 replace F : Fr 8 a [(0, .string s_), (1, .int .u8 c_)] := F
 refine wp_seq ?_
 refine wp_region_lit ?_
 refine wE (ev_assign rfl) F S rfl fun a F=>?_
 refine wpList_nil ?_
 refine then_n ?_
 refine wp_seq ?_
 refine wp_region_lit ?_
 refine wE (ev_move rfl) F S rfl fun a F=>?_
 refine wE (ev_move rfl) F S rfl fun a F=>?_
 obtain ⟨y1, hy1, hm⟩ := bind_some hm
 refine wl_call0 (wn rfl) rfl F rfl (stringslite_IndexByte_ok s_ c_ S hy1) rfl tc40 rfl rfl ?_; clear F a S
 rintro _ a w ⟨g1, l1, S, rfl⟩ F; replace S : St g1 [] fr w := S
 refine wE (ev_assign rfl) F S rfl fun a F=>?_
 refine wpList_nil ?_
 refine then_n ?_
 refine wp_ret ?_
 obtain rfl := sinj hm
 refine post_r _ F rfl (ar_cons (resT rfl) ar_nil) ?_
 exact ⟨_, rfl, g1, l1, S, rfl⟩

theorem syntax_reader__blanks_ok {g : Gh} {fr : Hl} {w : World} {r : Reader_syntax} (br_ : Nat) (r_ : Reader_syntax) (vr_1 : Value) (cr_1 : Hl) (hr_1 : OwnS g r_.nodes vr_1 cr_1) (S : St g [[bx br_ #[.string r_.text, .i6 r_.at_, vr_1] 44], cr_1] fr w) (hm : syntax_reader__blanks r_ = some r) :
  Calls Try.prog 22 [bp br_ 0].toArray w (fun en w' => ∃ v, en = .returned v ∧ ∃ (g' : Gh) (v1 : Value) (c1 : Hl), Le g g' ∧ St g' [[bx br_ #[.string r.text, .i6 r.at_, v1] 44], c1] fr w' ∧ OwnS g' r.nodes v1 c1 ∧ .tuple #[] = v) := by
 unfold syntax_reader__blanks at hm
 refine calls_enter (fn := Try.f22) Try.func22 rfl Try.ntmps22 (lb rfl) ?_
 intro a F
 replace F : Fr 32 a [(0, bp br_ 0)] := F
 refine wp_cut1 (fun a w => ∃ (x1 : Int) (g1 : Gh), Fr 32 a [(0, bp br_ 0)] ∧ Le g g1 ∧ St g1 [[bx br_ #[.string r_.text, .i6 x1, vr_1] 44], cr_1] fr w ∧ syntax_reader__blanks.j1 r_ x1 = some r) ?_ ?_
 ·refine wp_block ?_
  obtain ⟨r1, hr1, hm⟩ := bind_some hm
  have hmo1 := hm; clear hm
  refine wp_iter (σ := Int) (ρ := Int) (m := fun s => syntax_reader__blanks.l1 r_ s) (I := fun x2 a w => ∃ (g2 : Gh), Fr 32 a [(0, bp br_ 0)] ∧ Le g g2 ∧ St g2 [[bx br_ #[.string r_.text, .i6 x2, vr_1] 44], cr_1] fr w) hr1 ?_ ?_
  ·exact ⟨g, F.sub ⟨rfl, trivial⟩, (Le.refl _), S⟩
  ·clear F S; rintro x2 a w x3 ⟨g2, F, l2, S⟩ hx1 hfin1
   have hm : syntax_reader__blanks.l1 r_ x2 = some x3 := hx1; clear hx1
   unfold syntax_reader__blanks.l1 at hm
   refine wp_seq ?_
   refine wp_seq ?_
   refine wp_quiet mo (by kernel_rfl) S ?_
   refine wq_ev (wn rfl) (ev_move rfl) F rfl rfl ?_; clear F a; intro a F
   refine wq_ev (wn rfl) (ev_nil rfl) F rfl rfl ?_; clear F a; intro a F
   refine wq_ev (wn rfl) (ev_fieldAddr' tu44 tf44_1 (z := 0) ts3 rfl ⟨_, rfl⟩ rfl) F rfl rfl ?_; clear F a; intro a F
   refine wq_ev (wn rfl) (ev_load1 tu3 rfl rfl (box_ptr (cells := [.i6 x2]) 0 rfl 1 rfl (lb rfl))) F rfl rfl ?_; clear F a; intro a F
   refine wq_ev (wn rfl) (ev_move rfl) F rfl rfl ?_; clear F a; intro a F
   refine wq_ev (wn rfl) (ev_nil rfl) F rfl rfl ?_; clear F a; intro a F
   refine wq_ev (wn rfl) (ev_fieldAddr' tu44 tf44_0 (z := 0) ts9 rfl ⟨_, rfl⟩ rfl) F rfl rfl ?_; clear F a; intro a F
   refine wq_ev (wn rfl) (ev_load1 tu9 rfl rfl (box_ptr (cells := [.string r_.text]) 0 rfl 0 rfl (lb rfl))) F rfl rfl ?_; clear F a; intro a F
   refine wq_ev (wn rfl) (ev_lenS rfl tu9) F rfl rfl ?_; clear F a; intro a F
   refine wq_ev (wn rfl) (ev_int rfl rfl (bo_lss _ _ _ _)) F rfl rfl ?_; clear F a; intro a F
   refine wq_ev (wn rfl) (ev_move rfl) F rfl rfl ?_; clear F a; intro a F
   obtain ⟨x4, hx2, hm⟩ := bind_some hm
   refine wq_cut 12 (fun a => Fr 32 a [(24, .bool x4), (0, bp br_ 0)]) ?_ ?_
   ·clear hm; obtain ⟨hc1, hm⟩ | ⟨hc1, hm⟩ := ite_or hx2
    ·refine wq_ev (wg F rfl rfl rfl rfl hc1) (ev_move rfl) F rfl rfl ?_; clear F a; intro a F
     refine wq_ev (wg F rfl rfl rfl rfl hc1) (ev_nil rfl) F rfl rfl ?_; clear F a; intro a F
     refine wq_ev (wg F rfl rfl rfl rfl hc1) (ev_fieldAddr' tu44 tf44_0 (z := 0) ts9 rfl ⟨_, rfl⟩ rfl) F rfl rfl ?_; clear F a; intro a F
     refine wq_ev (wg F rfl rfl rfl rfl hc1) (ev_load1 tu9 rfl rfl (box_ptr (cells := [.string r_.text]) 0 rfl 0 rfl (lb rfl))) F rfl rfl ?_; clear F a; intro a F
     refine wq_ev (wg F rfl rfl rfl rfl hc1) (ev_move rfl) F rfl rfl ?_; clear F a; intro a F
     refine wq_ev (wg F rfl rfl rfl rfl hc1) (ev_nil rfl) F rfl rfl ?_; clear F a; intro a F
     refine wq_ev (wg F rfl rfl rfl rfl hc1) (ev_fieldAddr' tu44 tf44_1 (z := 0) ts3 rfl ⟨_, rfl⟩ rfl) F rfl rfl ?_; clear F a; intro a F
     refine wq_ev (wg F rfl rfl rfl rfl hc1) (ev_load1 tu3 rfl rfl (box_ptr (cells := [.i6 x2]) 0 rfl 1 rfl (lb rfl))) F rfl rfl ?_; clear F a; intro a F
     obtain ⟨y1, hy1, hm⟩ := bind_some hm
     refine wq_ev (wg F rfl rfl rfl rfl hc1) (ev_sAt hy1 tu9 rfl rfl) F rfl rfl ?_; clear F a; intro a F
     obtain ⟨y2, hy2, hm⟩ := bind_some hm
     refine wq_call (wg F rfl rfl rfl rfl hc1) rfl (xs := [.const (.string (⟨#[32, 9, 10]⟩ : ByteArray)), .tmp 21]) (vs := [.string (⟨#[32, 9, 10]⟩ : ByteArray), .int .u8 y1]) (cap := []) F rfl rfl tc35 (v := .i6 y2) (fun w S => (strings_IndexByte_ok (g := g2) (fr := (fl [[bx br_ #[.string r_.text, .i6 x2, vr_1] 44], cr_1] fr)) (w := w) (⟨#[32, 9, 10]⟩ : ByteArray) y1 S hy2).mono (by rintro en w' ⟨_, rfl, g2, l2, S2, rfl⟩; exact ⟨rfl, S2.weak l2⟩)) rfl rfl ?_; clear F a; intro a F
     refine wq_ev (wg F rfl rfl rfl rfl hc1) (ev_int rfl rfl (bo_geq _ _ _ _)) F rfl rfl ?_; clear F a; intro a F
     refine wq_ev (wn rfl) (ev_pickT rfl hc1 rfl) F rfl rfl ?_; clear F a; intro a F
     obtain rfl := sinj hm
     refine wq_nil ?_; exact F.sub ⟨rfl, rfl, trivial⟩
    ·refine wq_skip rfl rfl rfl rfl (ne_tf hc1) F rfl rfl ?_; clear F a; intro a F
     refine wq_skip rfl rfl rfl rfl (ne_tf hc1) F rfl rfl ?_; clear F a; intro a F
     refine wq_skip rfl rfl rfl rfl (ne_tf hc1) F rfl rfl ?_; clear F a; intro a F
     refine wq_skip rfl rfl rfl rfl (ne_tf hc1) F rfl rfl ?_; clear F a; intro a F
     refine wq_skip rfl rfl rfl rfl (ne_tf hc1) F rfl rfl ?_; clear F a; intro a F
     refine wq_skip rfl rfl rfl rfl (ne_tf hc1) F rfl rfl ?_; clear F a; intro a F
     refine wq_skip rfl rfl rfl rfl (ne_tf hc1) F rfl rfl ?_; clear F a; intro a F
     refine wq_skip rfl rfl rfl rfl (ne_tf hc1) F rfl rfl ?_; clear F a; intro a F
     refine wq_skip rfl rfl rfl rfl (ne_tf hc1) F rfl rfl ?_; clear F a; intro a F
     refine wq_skip rfl rfl rfl rfl (ne_tf hc1) F rfl rfl ?_; clear F a; intro a F
     refine wq_skip rfl rfl rfl rfl (ne_tf hc1) F rfl rfl ?_; clear F a; intro a F
     refine wq_ev (wn rfl) (ev_pickF rfl hc1 rfl) F rfl rfl ?_; clear F a; intro a F
     obtain rfl := sinj hm
     refine wq_nil ?_; exact F.sub ⟨rfl, rfl, trivial⟩
   clear F; intro a F
   refine wq_nil ?_; clear S; intro w S
   refine then_n ?_
   obtain ⟨hc2, hm⟩ | ⟨hc2, hm⟩ := ite_or hm
   ·refine wp_condT F rfl hc2 ?_
    refine wp_skip ?_
    refine then_n ?_
    refine wp_block ?_
    refine wp_region_lit ?_
    refine wE (ev_move rfl) F S rfl fun a F=>?_
    refine wE (ev_nil rfl) F S rfl fun a F=>?_
    refine wE (ev_fieldAddr' tu44 tf44_1 (z := 0) ts3 rfl ⟨_, rfl⟩ rfl) F S rfl fun a F=>?_
    refine wE (ev_load1 tu3 rfl rfl (box_ptr (cells := [.i6 x2]) 0 rfl 1 rfl (lb rfl))) F S rfl fun a F=>?_
    obtain ⟨z1, hz1, hm⟩ := bind_some hm
    refine wE (ev_int rfl rfl (bo_add hz1)) F S rfl fun a F=>?_
    refine wE (ev_nil rfl) F S rfl fun a F=>?_
    refine wE (ev_fieldAddr' tu44 tf44_1 (z := 0) ts3 rfl ⟨_, rfl⟩ rfl) F S rfl fun a F=>?_
    refine wl_storeC (wn rfl) rfl F S rfl rfl (vs := [.i6 z1]) rfl ts3 (one_cons rfl one_nil) (k := 0) rfl (lb rfl) (c' := #[.string r_.text, .i6 z1, vr_1]) rfl rfl ?_; clear S; intro w S
    refine wpList_nil ?_
    refine inb_n ?_
    refine then_n ?_
    obtain rfl := sinj hm
    refine ⟨_, rfl, ?_⟩
    exact ⟨g2, F.sub ⟨rfl, trivial⟩, l2, S⟩
   ·refine wp_condF F rfl hc2 ?_
    refine wp_exit ?_
    refine then_e ?_
    refine then_e ?_
    refine inb_x ?_
    refine then_n ?_
    obtain rfl := sinj hm
    obtain rfl := hfin1 _ rfl
    clear hm
    have hm : (syntax_reader__blanks.j1 r_ x2 : Option Reader_syntax) = some _ := hmo1
    exact ⟨x2, g2, F.sub ⟨rfl, trivial⟩, l2, S, hm⟩
 ·clear F S hm; rintro a w ⟨x1, g1, F, l1, S, hm⟩
  obtain rfl := sinj hm
  refine post_n _ F rfl ar_nil ?_
  exact ⟨_, rfl, g1, vr_1, cr_1, l1, S, (hr_1.mono l1), rfl⟩

theorem syntax_labelByte_ok {g : Gh} {fr : Hl} {w : World} {r : Bool} (c_ : Int) (S : St g [] fr w) (hm : syntax_labelByte c_ = some r) :
  Calls Try.prog 32 [.int .u8 c_].toArray w (fun en w' => ∃ v, en = .returned v ∧ ∃ (g' : Gh), Le g g' ∧ St g' [] fr w' ∧ .bool r = v) := by
 unfold syntax_labelByte at hm
 refine calls_enter (fn := Try.f32) Try.func32 rfl Try.ntmps32 (lb rfl) ?_
 intro a F
 replace F : Fr 17 a [(0, .int .u8 c_)] := F
 refine wp_seq ?_
 refine wp_region_lit ?_
 refine wE (ev_assign rfl) F S rfl fun a F=>?_
 refine wpList_nil ?_
 refine then_n ?_
 refine wp_seq ?_
 refine wp_region_lit ?_
 refine wE (ev_move rfl) F S rfl fun a F=>?_
 refine wE (ev_int rfl rfl (bo_geq _ _ _ _)) F S rfl fun a F=>?_
 refine wE (ev_move rfl) F S rfl fun a F=>?_
 obtain ⟨x1, hx1, hm⟩ := bind_some hm
 refine wl_cut 3 (fun a w' => w = w' ∧ Fr 17 a [(8, .bool x1), (2, .bool false), (0, .int .u8 c_)]) ?_ ?_
 ·clear hm; obtain ⟨hc1, hm⟩ | ⟨hc1, hm⟩ := ite_or hx1
  ·refine wl_ev (wg F rfl rfl rfl rfl hc1) (ev_move rfl) F S rfl rfl ?_; clear F a; intro a F
   refine wl_ev (wg F rfl rfl rfl rfl hc1) (ev_int rfl rfl (bo_leq _ _ _ _)) F S rfl rfl ?_; clear F a; intro a F
   refine wE (ev_pickT rfl hc1 rfl) F S rfl fun a F=>?_
   obtain rfl := sinj hm
   refine wpList_nil (then_n ?_); exact ⟨rfl, F.sub ⟨rfl, rfl, rfl, trivial⟩⟩
  ·refine wl_skip rfl rfl rfl rfl (ne_tf hc1) F rfl rfl ?_; clear F a; intro a F
   refine wl_skip rfl rfl rfl rfl (ne_tf hc1) F rfl rfl ?_; clear F a; intro a F
   refine wE (ev_pickF rfl hc1 rfl) F S rfl fun a F=>?_
   obtain rfl := sinj hm
   refine wpList_nil (then_n ?_); exact ⟨rfl, F.sub ⟨rfl, rfl, rfl, trivial⟩⟩
 clear F; rintro a w' ⟨rfl, F⟩
 refine wE (ev_move rfl) F S rfl fun a F=>?_
 obtain ⟨x2, hx2, hm⟩ := bind_some hm
 refine wl_cut 3 (fun a w' => w = w' ∧ Fr 17 a [(12, .bool x2), (2, .bool false), (0, .int .u8 c_)]) ?_ ?_
 ·clear hm; obtain ⟨hc2, hm⟩ | ⟨hc2, hm⟩ := ite_or hx2
  ·refine wl_ev (wg F rfl rfl rfl rfl hc2) (ev_move rfl) F S rfl rfl ?_; clear F a; intro a F
   refine wl_ev (wg F rfl rfl rfl rfl hc2) (ev_int rfl rfl (bo_neq _ _ _ _)) F S rfl rfl ?_; clear F a; intro a F
   refine wE (ev_pickT rfl hc2 rfl) F S rfl fun a F=>?_
   obtain rfl := sinj hm
   refine wpList_nil (then_n ?_); exact ⟨rfl, F.sub ⟨rfl, rfl, rfl, trivial⟩⟩
  ·refine wl_skip rfl rfl rfl rfl (ne_tf hc2) F rfl rfl ?_; clear F a; intro a F
   refine wl_skip rfl rfl rfl rfl (ne_tf hc2) F rfl rfl ?_; clear F a; intro a F
   refine wE (ev_pickF rfl hc2 rfl) F S rfl fun a F=>?_
   obtain rfl := sinj hm
   refine wpList_nil (then_n ?_); exact ⟨rfl, F.sub ⟨rfl, rfl, rfl, trivial⟩⟩
 clear F; rintro a w' ⟨rfl, F⟩
 refine wE (ev_move rfl) F S rfl fun a F=>?_
 obtain ⟨x3, hx3, hm⟩ := bind_some hm
 refine wl_cut 3 (fun a w' => w = w' ∧ Fr 17 a [(16, .bool x3), (2, .bool false)]) ?_ ?_
 ·clear hm; obtain ⟨hc3, hm⟩ | ⟨hc3, hm⟩ := ite_or hx3
  ·refine wl_ev (wg F rfl rfl rfl rfl hc3) (ev_move rfl) F S rfl rfl ?_; clear F a; intro a F
   refine wl_ev (wg F rfl rfl rfl rfl hc3) (ev_int rfl rfl (bo_neq _ _ _ _)) F S rfl rfl ?_; clear F a; intro a F
   refine wE (ev_pickT rfl hc3 rfl) F S rfl fun a F=>?_
   obtain rfl := sinj hm
   refine wpList_nil (then_n ?_); exact ⟨rfl, F.sub ⟨rfl, rfl, trivial⟩⟩
  ·refine wl_skip rfl rfl rfl rfl (ne_tf hc3) F rfl rfl ?_; clear F a; intro a F
   refine wl_skip rfl rfl rfl rfl (ne_tf hc3) F rfl rfl ?_; clear F a; intro a F
   refine wE (ev_pickF rfl hc3 rfl) F S rfl fun a F=>?_
   obtain rfl := sinj hm
   refine wpList_nil (then_n ?_); exact ⟨rfl, F.sub ⟨rfl, rfl, trivial⟩⟩
 clear F; rintro a w' ⟨rfl, F⟩
 refine wE (ev_assign rfl) F S rfl fun a F=>?_
 refine wpList_nil ?_
 refine then_n ?_
 refine wp_ret ?_
 obtain rfl := sinj hm
 refine post_r _ F rfl (ar_cons (resT rfl) ar_nil) ?_
 exact ⟨_, rfl, g, (Le.refl _), S, rfl⟩

theorem syntax_reader__is_ok {g : Gh} {fr : Hl} {w : World} {r : Bool × Reader_syntax} (br_ : Nat) (r_ : Reader_syntax) (vr_1 : Value) (cr_1 : Hl) (hr_1 : OwnS g r_.nodes vr_1 cr_1) (c_ : Int) (S : St g [[bx br_ #[.string r_.text, .i6 r_.at_, vr_1] 44], cr_1] fr w) (hm : syntax_reader__is r_ c_ = some r) :
  Calls Try.prog 33 [bp br_ 0, .int .u8 c_].toArray w (fun en w' => ∃ v, en = .returned v ∧ ∃ (g' : Gh) (v1 : Value) (c1 : Hl), Le g g' ∧ St g' [[bx br_ #[.string r.2.text, .i6 r.2.at_, v1] 44], c1] fr w' ∧ OwnS g' r.2.nodes v1 c1 ∧ .bool r.1 = v) := by
 unfold syntax_reader__is at hm
 refine calls_enter (fn := Try.f33) Try.func33 rfl Try.ntmps33 (lb rfl) ?_
 intro a F
 replace F : Fr 30 a [(0, bp br_ 0), (1, .int .u8 c_)] := F
 refine wp_seq ?_
 refine wp_region_lit ?_
 refine wE (ev_assign rfl) F S rfl fun a F=>?_
 refine wpList_nil ?_
 refine then_n ?_
 refine wp_seq ?_
 refine wp_region_lit ?_
 refine wE (ev_move rfl) F S rfl fun a F=>?_
 obtain ⟨y1, hy1, hm⟩ := bind_some hm
 refine wl_call0 (wn rfl) rfl F rfl (syntax_reader__blanks_ok br_ r_ vr_1 cr_1 hr_1 S hy1) rfl tc22 rfl rfl ?_; clear F a S
 rintro _ a w ⟨g1, v1, c1, l1, S, h1, rfl⟩ F; replace S : St g1 [[bx br_ #[.string y1.text, .i6 y1.at_, v1] 44], c1] fr w := S
 refine wpList_nil ?_
 refine then_n ?_
 refine wp_seq ?_
 refine wp_quiet mo (by kernel_rfl) S ?_
 refine wq_ev (wn rfl) (ev_move rfl) F rfl rfl ?_; clear F a; intro a F
 refine wq_ev (wn rfl) (ev_nil rfl) F rfl rfl ?_; clear F a; intro a F
 refine wq_ev (wn rfl) (ev_fieldAddr' tu44 tf44_1 (z := 0) ts3 rfl ⟨_, rfl⟩ rfl) F rfl rfl ?_; clear F a; intro a F
 refine wq_ev (wn rfl) (ev_load1 tu3 rfl rfl (box_ptr (cells := [.i6 y1.at_]) 0 rfl 1 rfl (lb rfl))) F rfl rfl ?_; clear F a; intro a F
 refine wq_ev (wn rfl) (ev_move rfl) F rfl rfl ?_; clear F a; intro a F
 refine wq_ev (wn rfl) (ev_nil rfl) F rfl rfl ?_; clear F a; intro a F
 refine wq_ev (wn rfl) (ev_fieldAddr' tu44 tf44_0 (z := 0) ts9 rfl ⟨_, rfl⟩ rfl) F rfl rfl ?_; clear F a; intro a F
 refine wq_ev (wn rfl) (ev_load1 tu9 rfl rfl (box_ptr (cells := [.string y1.text]) 0 rfl 0 rfl (lb rfl))) F rfl rfl ?_; clear F a; intro a F
 refine wq_ev (wn rfl) (ev_lenS rfl tu9) F rfl rfl ?_; clear F a; intro a F
 refine wq_ev (wn rfl) (ev_int rfl rfl (bo_lss _ _ _ _)) F rfl rfl ?_; clear F a; intro a F
 refine wq_ev (wn rfl) (ev_move rfl) F rfl rfl ?_; clear F a; intro a F
 obtain ⟨x1, hx1, hm⟩ := bind_some hm
 refine wq_cut 12 (fun a => Fr 30 a [(29, .bool x1), (4, .bool false), (0, bp br_ 0)]) ?_ ?_
 ·clear hm; obtain ⟨hc1, hm⟩ | ⟨hc1, hm⟩ := ite_or hx1
  ·refine wq_ev (wg F rfl rfl rfl rfl hc1) (ev_move rfl) F rfl rfl ?_; clear F a; intro a F
   refine wq_ev (wg F rfl rfl rfl rfl hc1) (ev_nil rfl) F rfl rfl ?_; clear F a; intro a F
   refine wq_ev (wg F rfl rfl rfl rfl hc1) (ev_fieldAddr' tu44 tf44_0 (z := 0) ts9 rfl ⟨_, rfl⟩ rfl) F rfl rfl ?_; clear F a; intro a F
   refine wq_ev (wg F rfl rfl rfl rfl hc1) (ev_load1 tu9 rfl rfl (box_ptr (cells := [.string y1.text]) 0 rfl 0 rfl (lb rfl))) F rfl rfl ?_; clear F a; intro a F
   refine wq_ev (wg F rfl rfl rfl rfl hc1) (ev_move rfl) F rfl rfl ?_; clear F a; intro a F
   refine wq_ev (wg F rfl rfl rfl rfl hc1) (ev_nil rfl) F rfl rfl ?_; clear F a; intro a F
   refine wq_ev (wg F rfl rfl rfl rfl hc1) (ev_fieldAddr' tu44 tf44_1 (z := 0) ts3 rfl ⟨_, rfl⟩ rfl) F rfl rfl ?_; clear F a; intro a F
   refine wq_ev (wg F rfl rfl rfl rfl hc1) (ev_load1 tu3 rfl rfl (box_ptr (cells := [.i6 y1.at_]) 0 rfl 1 rfl (lb rfl))) F rfl rfl ?_; clear F a; intro a F
   obtain ⟨y2, hy2, hm⟩ := bind_some hm
   refine wq_ev (wg F rfl rfl rfl rfl hc1) (ev_sAt hy2 tu9 rfl rfl) F rfl rfl ?_; clear F a; intro a F
   refine wq_ev (wg F rfl rfl rfl rfl hc1) (ev_move rfl) F rfl rfl ?_; clear F a; intro a F
   refine wq_ev (wg F rfl rfl rfl rfl hc1) (ev_int rfl rfl (bo_eql _ _ _ _)) F rfl rfl ?_; clear F a; intro a F
   refine wq_ev (wn rfl) (ev_pickT rfl hc1 rfl) F rfl rfl ?_; clear F a; intro a F
   obtain rfl := sinj hm
   refine wq_nil ?_; exact F.sub ⟨rfl, rfl, rfl, trivial⟩
  ·refine wq_skip rfl rfl rfl rfl (ne_tf hc1) F rfl rfl ?_; clear F a; intro a F
   refine wq_skip rfl rfl rfl rfl (ne_tf hc1) F rfl rfl ?_; clear F a; intro a F
   refine wq_skip rfl rfl rfl rfl (ne_tf hc1) F rfl rfl ?_; clear F a; intro a F
   refine wq_skip rfl rfl rfl rfl (ne_tf hc1) F rfl rfl ?_; clear F a; intro a F
   refine wq_skip rfl rfl rfl rfl (ne_tf hc1) F rfl rfl ?_; clear F a; intro a F
   refine wq_skip rfl rfl rfl rfl (ne_tf hc1) F rfl rfl ?_; clear F a; intro a F
   refine wq_skip rfl rfl rfl rfl (ne_tf hc1) F rfl rfl ?_; clear F a; intro a F
   refine wq_skip rfl rfl rfl rfl (ne_tf hc1) F rfl rfl ?_; clear F a; intro a F
   refine wq_skip rfl rfl rfl rfl (ne_tf hc1) F rfl rfl ?_; clear F a; intro a F
   refine wq_skip rfl rfl rfl rfl (ne_tf hc1) F rfl rfl ?_; clear F a; intro a F
   refine wq_skip rfl rfl rfl rfl (ne_tf hc1) F rfl rfl ?_; clear F a; intro a F
   refine wq_ev (wn rfl) (ev_pickF rfl hc1 rfl) F rfl rfl ?_; clear F a; intro a F
   obtain rfl := sinj hm
   refine wq_nil ?_; exact F.sub ⟨rfl, rfl, rfl, trivial⟩
 clear F; intro a F
 refine wq_ev (wn rfl) (ev_assign rfl) F rfl rfl ?_; clear F a; intro a F
 refine wq_nil ?_; clear S; intro w S
 refine then_n ?_
 refine wp_ret ?_
 obtain rfl := sinj hm
 refine post_r _ F rfl (ar_cons (resT rfl) ar_nil) ?_
 exact ⟨_, rfl, g1, v1, c1, l1, S, h1, rfl⟩

theorem syntax_reader__label_ok {g : Gh} {fr : Hl} {w : World} {r : ByteArray × Int × Reader_syntax} (br_ : Nat) (r_ : Reader_syntax) (vr_1 : Value) (cr_1 : Hl) (hr_1 : OwnS g r_.nodes vr_1 cr_1) (S : St g [[bx br_ #[.string r_.text, .i6 r_.at_, vr_1] 44], cr_1] fr w) (hm : syntax_reader__label r_ = some r) :
  Calls Try.prog 34 [bp br_ 0].toArray w (fun en w' => ∃ v, en = .returned v ∧ ∃ (g' : Gh) (v1 : Value) (c1 : Hl), Le g g' ∧ St g' [[bx br_ #[.string r.2.2.text, .i6 r.2.2.at_, v1] 44], c1] fr w' ∧ OwnS g' r.2.2.nodes v1 c1 ∧ .tuple #[.string r.1, .i6 r.2.1] = v) := by
 unfold syntax_reader__label at hm
 refine calls_enter (fn := Try.f34) Try.func34 rfl Try.ntmps34 (lb rfl) ?_
 intro a F
 replace F : Fr 60 a [(0, bp br_ 0)] := F
 refine wp_seq ?_
 refine wp_region_lit ?_
 refine wE (ev_assign rfl) F S rfl fun a F=>?_
 refine wE (ev_assign rfl) F S rfl fun a F=>?_
 refine wpList_nil ?_
 refine then_n ?_
 refine wp_seq ?_
 refine wp_region_lit ?_
 refine wE (ev_move rfl) F S rfl fun a F=>?_
 obtain ⟨y1, hy1, hm⟩ := bind_some hm
 refine wl_call0 (wn rfl) rfl F rfl (syntax_reader__blanks_ok br_ r_ vr_1 cr_1 hr_1 S hy1) rfl tc22 rfl rfl ?_; clear F a S
 rintro _ a w ⟨g1, v1, c1, l1, S, h1, rfl⟩ F; replace S : St g1 [[bx br_ #[.string y1.text, .i6 y1.at_, v1] 44], c1] fr w := S
 refine wpList_nil ?_
 refine then_n ?_
 refine wp_seq ?_
 refine wp_region_lit ?_
 refine wE (ev_move rfl) F S rfl fun a F=>?_
 refine wE (ev_nil rfl) F S rfl fun a F=>?_
 refine wE (ev_fieldAddr' tu44 tf44_1 (z := 0) ts3 rfl ⟨_, rfl⟩ rfl) F S rfl fun a F=>?_
 refine wE (ev_load1 tu3 rfl rfl (box_ptr (cells := [.i6 y1.at_]) 0 rfl 1 rfl (lb rfl))) F S rfl fun a F=>?_
 refine wE (ev_assign rfl) F S rfl fun a F=>?_
 refine wpList_nil ?_
 refine then_n ?_
 refine wp_cut (fun a w => ∃ (x1 : Int) (g2 : Gh), Fr 60 a [(4, .i6 x1), (0, bp br_ 0)] ∧ Le g1 g2 ∧ St g2 [[bx br_ #[.string y1.text, .i6 y1.at_, v1] 44], c1] fr w ∧ syntax_reader__label.j1 y1 x1 = some r) ?_ ?_
 ·refine wp_block ?_
  obtain ⟨r1, hr1, hm⟩ := bind_some hm
  have hmo1 := hm; clear hm
  refine wp_iter (σ := Int) (ρ := Int) (m := fun s => syntax_reader__label.l1 y1 s) (I := fun x3 a w => ∃ (g3 : Gh), Fr 60 a [(4, .i6 x3), (0, bp br_ 0)] ∧ Le g1 g3 ∧ St g3 [[bx br_ #[.string y1.text, .i6 y1.at_, v1] 44], c1] fr w) hr1 ?_ ?_
  ·exact ⟨g1, F.sub ⟨rfl, rfl, trivial⟩, (Le.refl _), S⟩
  ·clear F S; rintro x3 a w x4 ⟨g3, F, l3, S⟩ hx2 hfin1
   have hm : syntax_reader__label.l1 y1 x3 = some x4 := hx2; clear hx2
   unfold syntax_reader__label.l1 at hm
   refine wp_seq ?_
   refine wp_seq ?_
   refine wp_region_lit ?_
   refine wE (ev_move rfl) F S rfl fun a F=>?_
   refine wE (ev_move rfl) F S rfl fun a F=>?_
   refine wE (ev_nil rfl) F S rfl fun a F=>?_
   refine wE (ev_fieldAddr' tu44 tf44_0 (z := 0) ts9 rfl ⟨_, rfl⟩ rfl) F S rfl fun a F=>?_
   refine wE (ev_load1 tu9 rfl rfl (box_ptr (cells := [.string y1.text]) 0 rfl 0 rfl (lb rfl))) F S rfl fun a F=>?_
   refine wE (ev_lenS rfl tu9) F S rfl fun a F=>?_
   refine wE (ev_int rfl rfl (bo_lss _ _ _ _)) F S rfl fun a F=>?_
   refine wE (ev_move rfl) F S rfl fun a F=>?_
   obtain ⟨x5, hx3, hm⟩ := bind_some hm
   refine wl_cut 8 (fun a w => ∃ g4, Fr 60 a [(27, .bool x5), (4, .i6 x3), (0, bp br_ 0)] ∧ Le g3 g4 ∧ St g4 [[bx br_ #[.string y1.text, .i6 y1.at_, v1] 44], c1] fr w) ?_ ?_
   ·clear hm; obtain ⟨hc3, hm⟩ | ⟨hc3, hm⟩ := ite_or hx3
    ·refine wl_ev (wg F rfl rfl rfl rfl hc3) (ev_move rfl) F S rfl rfl ?_; clear F a; intro a F
     refine wl_ev (wg F rfl rfl rfl rfl hc3) (ev_nil rfl) F S rfl rfl ?_; clear F a; intro a F
     refine wl_ev (wg F rfl rfl rfl rfl hc3) (ev_fieldAddr' tu44 tf44_0 (z := 0) ts9 rfl ⟨_, rfl⟩ rfl) F S rfl rfl ?_; clear F a; intro a F
     refine wl_ev (wg F rfl rfl rfl rfl hc3) (ev_load1 tu9 rfl rfl (box_ptr (cells := [.string y1.text]) 0 rfl 0 rfl (lb rfl))) F S rfl rfl ?_; clear F a; intro a F
     refine wl_ev (wg F rfl rfl rfl rfl hc3) (ev_move rfl) F S rfl rfl ?_; clear F a; intro a F
     obtain ⟨y3, hy3, hm⟩ := bind_some hm
     refine wl_ev (wg F rfl rfl rfl rfl hc3) (ev_sAt hy3 tu9 rfl rfl) F S rfl rfl ?_; clear F a; intro a F
     obtain ⟨y4, hy4, hm⟩ := bind_some hm
     refine wl_call0 (wg F rfl rfl rfl rfl hc3) rfl F rfl (syntax_labelByte_ok (fr := (fl [[bx br_ #[.string y1.text, .i6 y1.at_, v1] 44], c1] fr)) y3 S hy4) rfl tc32 rfl rfl ?_; clear F a S
     rintro _ a w ⟨g5, l5, S, rfl⟩ F; replace S : St g5 [[bx br_ #[.string y1.text, .i6 y1.at_, v1] 44], c1] fr w := S
     refine wE (ev_pickT rfl hc3 rfl) F S rfl fun a F=>?_
     obtain rfl := sinj hm
     refine wpList_nil (then_n ?_); exact ⟨g5, F.sub ⟨rfl, rfl, rfl, trivial⟩, l5, S⟩
    ·refine wl_skip rfl rfl rfl rfl (ne_tf hc3) F rfl rfl ?_; clear F a; intro a F
     refine wl_skip rfl rfl rfl rfl (ne_tf hc3) F rfl rfl ?_; clear F a; intro a F
     refine wl_skip rfl rfl rfl rfl (ne_tf hc3) F rfl rfl ?_; clear F a; intro a F
     refine wl_skip rfl rfl rfl rfl (ne_tf hc3) F rfl rfl ?_; clear F a; intro a F
     refine wl_skip rfl rfl rfl rfl (ne_tf hc3) F rfl rfl ?_; clear F a; intro a F
     refine wl_skip rfl rfl rfl rfl (ne_tf hc3) F rfl rfl ?_; clear F a; intro a F
     refine wl_skip rfl rfl rfl rfl (ne_tf hc3) F rfl rfl ?_; clear F a; intro a F
     refine wE (ev_pickF rfl hc3 rfl) F S rfl fun a F=>?_
     obtain rfl := sinj hm
     refine wpList_nil (then_n ?_); exact ⟨g3, F.sub ⟨rfl, rfl, rfl, trivial⟩, (Le.refl _), S⟩
   clear F S; rintro a w ⟨g4, F, l4, S⟩
   refine wpList_nil ?_
   refine then_n ?_
   obtain ⟨hc4, hm⟩ | ⟨hc4, hm⟩ := ite_or hm
   ·refine wp_condT F rfl hc4 ?_
    refine wp_skip ?_
    refine then_n ?_
    refine wp_block ?_
    refine wp_region_lit ?_
    refine wE (ev_move rfl) F S rfl fun a F=>?_
    obtain ⟨z2, hz2, hm⟩ := bind_some hm
    refine wE (ev_int rfl rfl (bo_add hz2)) F S rfl fun a F=>?_
    refine wE (ev_assign rfl) F S rfl fun a F=>?_
    refine wpList_nil ?_
    refine inb_n ?_
    refine then_n ?_
    obtain rfl := sinj hm
    refine ⟨_, rfl, ?_⟩
    exact ⟨g4, F.sub ⟨rfl, rfl, trivial⟩, (l3.trans l4), S⟩
   ·refine wp_condF F rfl hc4 ?_
    refine wp_exit ?_
    refine then_e ?_
    refine then_e ?_
    refine inb_x ?_
    refine then_n ?_
    obtain rfl := sinj hm
    obtain rfl := hfin1 _ rfl
    clear hm
    have hm : (syntax_reader__label.j1 y1 x3 : Option (ByteArray × Int × Reader_syntax)) = some _ := hmo1
    exact ⟨x3, g4, F.sub ⟨rfl, rfl, trivial⟩, (l3.trans l4), S, hm⟩
 ·clear F S hm; rintro a w ⟨x1, g2, F, l2, S, hm⟩
  refine wp_seq ?_
  refine wp_seq ?_
  refine wp_region_lit ?_
  refine wE (ev_move rfl) F S rfl fun a F=>?_
  refine wE (ev_move rfl) F S rfl fun a F=>?_
  refine wE (ev_nil rfl) F S rfl fun a F=>?_
  refine wE (ev_fieldAddr' tu44 tf44_1 (z := 0) ts3 rfl ⟨_, rfl⟩ rfl) F S rfl fun a F=>?_
  refine wE (ev_load1 tu3 rfl rfl (box_ptr (cells := [.i6 y1.at_]) 0 rfl 1 rfl (lb rfl))) F S rfl fun a F=>?_
  refine wE (ev_int rfl rfl (bo_eql _ _ _ _)) F S rfl fun a F=>?_
  refine wE (ev_move rfl) F S rfl fun a F=>?_
  obtain ⟨x2, hx1, hm⟩ := bind_some hm
  refine wl_cut 8 (fun a w' => w = w' ∧ Fr 60 a [(44, .bool x2), (4, .i6 x1), (0, bp br_ 0)]) ?_ ?_
  ·clear hm; obtain ⟨hc1, hm⟩ | ⟨hc1, hm⟩ := ite_or hx1
   ·refine wl_skip rfl rfl rfl rfl (ne_ft hc1) F rfl rfl ?_; clear F a; intro a F
    refine wl_skip rfl rfl rfl rfl (ne_ft hc1) F rfl rfl ?_; clear F a; intro a F
    refine wl_skip rfl rfl rfl rfl (ne_ft hc1) F rfl rfl ?_; clear F a; intro a F
    refine wl_skip rfl rfl rfl rfl (ne_ft hc1) F rfl rfl ?_; clear F a; intro a F
    refine wl_skip rfl rfl rfl rfl (ne_ft hc1) F rfl rfl ?_; clear F a; intro a F
    refine wl_skip rfl rfl rfl rfl (ne_ft hc1) F rfl rfl ?_; clear F a; intro a F
    refine wl_skip rfl rfl rfl rfl (ne_ft hc1) F rfl rfl ?_; clear F a; intro a F
    refine wE (ev_pickT rfl hc1 rfl) F S rfl fun a F=>?_
    obtain rfl := sinj hm
    refine wpList_nil (then_n ?_); exact ⟨rfl, F.sub ⟨rfl, rfl, rfl, trivial⟩⟩
   ·refine wl_ev (wg F rfl rfl rfl rfl hc1) (ev_move rfl) F S rfl rfl ?_; clear F a; intro a F
    refine wl_ev (wg F rfl rfl rfl rfl hc1) (ev_move rfl) F S rfl rfl ?_; clear F a; intro a F
    refine wl_ev (wg F rfl rfl rfl rfl hc1) (ev_nil rfl) F S rfl rfl ?_; clear F a; intro a F
    refine wl_ev (wg F rfl rfl rfl rfl hc1) (ev_fieldAddr' tu44 tf44_1 (z := 0) ts3 rfl ⟨_, rfl⟩ rfl) F S rfl rfl ?_; clear F a; intro a F
    refine wl_ev (wg F rfl rfl rfl rfl hc1) (ev_load1 tu3 rfl rfl (box_ptr (cells := [.i6 y1.at_]) 0 rfl 1 rfl (lb rfl))) F S rfl rfl ?_; clear F a; intro a F
    obtain ⟨z1, hz1, hm⟩ := bind_some hm
    refine wl_ev (wg F rfl rfl rfl rfl hc1) (ev_int rfl rfl (bo_sub hz1)) F S rfl rfl ?_; clear F a; intro a F
    refine wl_ev (wg F rfl rfl rfl rfl hc1) (ev_int rfl rfl (bo_gtr _ _ _ _)) F S rfl rfl ?_; clear F a; intro a F
    refine wE (ev_pickF rfl hc1 rfl) F S rfl fun a F=>?_
    obtain rfl := sinj hm
    refine wpList_nil (then_n ?_); exact ⟨rfl, F.sub ⟨rfl, rfl, rfl, trivial⟩⟩
  clear F; rintro a w' ⟨rfl, F⟩
  refine wpList_nil ?_
  refine then_n ?_
  obtain ⟨hc2, hm⟩ | ⟨hc2, hm⟩ := ite_or hm
  ·refine wp_condT F rfl hc2 ?_
   refine wp_seq ?_
   refine wp_region_lit ?_
   refine wE (ev_assign rfl) F S rfl fun a F=>?_
   refine wE (ev_assign rfl) F S rfl fun a F=>?_
   refine wpList_nil ?_
   refine then_n ?_
   refine wp_ret ?_
   refine then_r ?_
   obtain rfl := sinj hm
   refine post_r _ F rfl (ar_cons (resT rfl) (ar_cons (resT rfl) ar_nil)) ?_
   exact ⟨_, rfl, g2, v1, c1, (l1.trans l2), S, (h1.mono l2), rfl⟩
  ·refine wp_condF F rfl hc2 ?_
   refine wp_skip ?_
   refine then_n ?_
   refine wp_seq ?_
   refine wp_quiet mo (by kernel_rfl) S ?_
   refine wq_ev (wn rfl) (ev_move rfl) F rfl rfl ?_; clear F a; intro a F
   refine wq_ev (wn rfl) (ev_nil rfl) F rfl rfl ?_; clear F a; intro a F
   refine wq_ev (wn rfl) (ev_fieldAddr' tu44 tf44_0 (z := 0) ts9 rfl ⟨_, rfl⟩ rfl) F rfl rfl ?_; clear F a; intro a F
   refine wq_ev (wn rfl) (ev_load1 tu9 rfl rfl (box_ptr (cells := [.string y1.text]) 0 rfl 0 rfl (lb rfl))) F rfl rfl ?_; clear F a; intro a F
   refine wq_ev (wn rfl) (ev_move rfl) F rfl rfl ?_; clear F a; intro a F
   refine wq_ev (wn rfl) (ev_nil rfl) F rfl rfl ?_; clear F a; intro a F
   refine wq_ev (wn rfl) (ev_fieldAddr' tu44 tf44_1 (z := 0) ts3 rfl ⟨_, rfl⟩ rfl) F rfl rfl ?_; clear F a; intro a F
   refine wq_ev (wn rfl) (ev_load1 tu3 rfl rfl (box_ptr (cells := [.i6 y1.at_]) 0 rfl 1 rfl (lb rfl))) F rfl rfl ?_; clear F a; intro a F
   refine wq_ev (wn rfl) (ev_move rfl) F rfl rfl ?_; clear F a; intro a F
   obtain ⟨y2, hy2, hm⟩ := bind_some hm
   refine wq_ev (wn rfl) (ev_scut hy2 tu9 rfl (bndV rfl) (bndV rfl)) F rfl rfl ?_; clear F a; intro a F
   refine wq_ev (wn rfl) (ev_assign rfl) F rfl rfl ?_; clear F a; intro a F
   refine wq_nil ?_; clear S; intro w S
   refine then_n ?_
   refine wp_seq ?_
   refine wp_region_lit ?_
   refine wE (ev_move rfl) F S rfl fun a F=>?_
   refine wE (ev_move rfl) F S rfl fun a F=>?_
   refine wE (ev_nil rfl) F S rfl fun a F=>?_
   refine wE (ev_fieldAddr' tu44 tf44_1 (z := 0) ts3 rfl ⟨_, rfl⟩ rfl) F S rfl fun a F=>?_
   refine wl_storeC (wn rfl) rfl F S rfl rfl (vs := [.i6 x1]) rfl ts3 (one_cons rfl one_nil) (k := 0) rfl (lb rfl) (c' := #[.string y1.text, .i6 x1, v1]) rfl rfl ?_; clear S; intro w S
   refine wpList_nil ?_
   refine then_n ?_
   refine wp_seq ?_
   refine wp_region_lit ?_
   refine wE (ev_move rfl) F S rfl fun a F=>?_
   refine wE (ev_assign rfl) F S rfl fun a F=>?_
   refine wE (ev_assign rfl) F S rfl fun a F=>?_
   refine wpList_nil ?_
   refine then_n ?_
   refine wp_ret ?_
   obtain rfl := sinj hm
   refine post_r _ F rfl (ar_cons (resT rfl) (ar_cons (resT rfl) ar_nil)) ?_
   exact ⟨_, rfl, g2, v1, c1, (l1.trans l2), S, (h1.mono l2), rfl⟩

theorem syntax_reader__node.body_ok {rec_ : Reader_syntax → Int → Option (Int × Reader_syntax)} (hrec : ∀ {g : Gh} {fr : Hl} {w : World} {r : Int × Reader_syntax} (br_ : Nat) (r_ : Reader_syntax) (vr_1 : Value) (cr_1 : Hl) (hr_1 : OwnS g r_.nodes vr_1 cr_1) (above : Int) (S : St g [[bx br_ #[.string r_.text, .i6 r_.at_, vr_1] 44], cr_1] fr w) (hm : rec_ r_ above = some r), Calls Try.prog 21 [bp br_ 0, .i6 above].toArray w (fun en w' => ∃ v, en = .returned v ∧ ∃ (g' : Gh) (v1 : Value) (c1 : Hl), Le g g' ∧ St g' [[bx br_ #[.string r.2.text, .i6 r.2.at_, v1] 44], c1] fr w' ∧ OwnS g' r.2.nodes v1 c1 ∧ .i6 r.1 = v)) {g : Gh} {fr : Hl} {w : World} {r : Int × Reader_syntax} (br_ : Nat) (r_ : Reader_syntax) (vr_1 : Value) (cr_1 : Hl) (hr_1 : OwnS g r_.nodes vr_1 cr_1) (above : Int) (S : St g [[bx br_ #[.string r_.text, .i6 r_.at_, vr_1] 44], cr_1] fr w) (hm : syntax_reader__node.body rec_ r_ above = some r) :
  Calls Try.prog 21 [bp br_ 0, .i6 above].toArray w (fun en w' => ∃ v, en = .returned v ∧ ∃ (g' : Gh) (v1 : Value) (c1 : Hl), Le g g' ∧ St g' [[bx br_ #[.string r.2.text, .i6 r.2.at_, v1] 44], c1] fr w' ∧ OwnS g' r.2.nodes v1 c1 ∧ .i6 r.1 = v) := by
 unfold syntax_reader__node.body at hm
 refine calls_enter (fn := Try.f21) Try.func21 rfl Try.ntmps21 (lb rfl) ?_
 intro a F
 replace F : Fr 128 a [(0, bp br_ 0), (1, .i6 above)] := F
 refine wp_seq ?_
 refine wp_region_lit ?_
 refine wE (ev_assign rfl) F S rfl fun a F=>?_
 refine wpList_nil ?_
 refine then_n ?_
 refine wp_seq ?_
 refine wp_region_lit ?_
 refine wE (ev_move rfl) F S rfl fun a F=>?_
 obtain ⟨y1, hy1, hm⟩ := bind_some hm
 refine wl_call0 (wn rfl) rfl F rfl (syntax_reader__blanks_ok br_ r_ vr_1 cr_1 hr_1 S hy1) rfl tc22 rfl rfl ?_; clear F a S
 rintro _ a w ⟨g1, v1, c1, l1, S, h1, rfl⟩ F; replace S : St g1 [[bx br_ #[.string y1.text, .i6 y1.at_, v1] 44], c1] fr w := S
 refine wpList_nil ?_
 refine then_n ?_
 refine wp_seq ?_
 refine wp_seq ?_
 refine wp_quiet mo (by kernel_rfl) S ?_
 refine wq_ev (wn rfl) (ev_move rfl) F rfl rfl ?_; clear F a; intro a F
 refine wq_ev (wn rfl) (ev_nil rfl) F rfl rfl ?_; clear F a; intro a F
 refine wq_ev (wn rfl) (ev_fieldAddr' tu44 tf44_1 (z := 0) ts3 rfl ⟨_, rfl⟩ rfl) F rfl rfl ?_; clear F a; intro a F
 refine wq_ev (wn rfl) (ev_load1 tu3 rfl rfl (box_ptr (cells := [.i6 y1.at_]) 0 rfl 1 rfl (lb rfl))) F rfl rfl ?_; clear F a; intro a F
 refine wq_ev (wn rfl) (ev_move rfl) F rfl rfl ?_; clear F a; intro a F
 refine wq_ev (wn rfl) (ev_nil rfl) F rfl rfl ?_; clear F a; intro a F
 refine wq_ev (wn rfl) (ev_fieldAddr' tu44 tf44_0 (z := 0) ts9 rfl ⟨_, rfl⟩ rfl) F rfl rfl ?_; clear F a; intro a F
 refine wq_ev (wn rfl) (ev_load1 tu9 rfl rfl (box_ptr (cells := [.string y1.text]) 0 rfl 0 rfl (lb rfl))) F rfl rfl ?_; clear F a; intro a F
 refine wq_ev (wn rfl) (ev_lenS rfl tu9) F rfl rfl ?_; clear F a; intro a F
 refine wq_ev (wn rfl) (ev_int rfl rfl (bo_lss _ _ _ _)) F rfl rfl ?_; clear F a; intro a F
 refine wq_ev (wn rfl) (ev_move rfl) F rfl rfl ?_; clear F a; intro a F
 obtain ⟨x1, hx1, hm⟩ := bind_some hm
 refine wq_cut 23 (fun a => Fr 128 a [(46, .bool x1), (0, bp br_ 0), (1, .i6 above)]) ?_ ?_
 ·clear hm; obtain ⟨hc1, hm⟩ | ⟨hc1, hm⟩ := ite_or hx1
  ·refine wq_ev (wg F rfl rfl rfl rfl hc1) (ev_move rfl) F rfl rfl ?_; clear F a; intro a F
   refine wq_ev (wg F rfl rfl rfl rfl hc1) (ev_nil rfl) F rfl rfl ?_; clear F a; intro a F
   refine wq_ev (wg F rfl rfl rfl rfl hc1) (ev_fieldAddr' tu44 tf44_0 (z := 0) ts9 rfl ⟨_, rfl⟩ rfl) F rfl rfl ?_; clear F a; intro a F
   refine wq_ev (wg F rfl rfl rfl rfl hc1) (ev_load1 tu9 rfl rfl (box_ptr (cells := [.string y1.text]) 0 rfl 0 rfl (lb rfl))) F rfl rfl ?_; clear F a; intro a F
   refine wq_ev (wg F rfl rfl rfl rfl hc1) (ev_move rfl) F rfl rfl ?_; clear F a; intro a F
   refine wq_ev (wg F rfl rfl rfl rfl hc1) (ev_nil rfl) F rfl rfl ?_; clear F a; intro a F
   refine wq_ev (wg F rfl rfl rfl rfl hc1) (ev_fieldAddr' tu44 tf44_1 (z := 0) ts3 rfl ⟨_, rfl⟩ rfl) F rfl rfl ?_; clear F a; intro a F
   refine wq_ev (wg F rfl rfl rfl rfl hc1) (ev_load1 tu3 rfl rfl (box_ptr (cells := [.i6 y1.at_]) 0 rfl 1 rfl (lb rfl))) F rfl rfl ?_; clear F a; intro a F
   obtain ⟨y2, hy2, hm⟩ := bind_some hm
   refine wq_ev (wg F rfl rfl rfl rfl hc1) (ev_sAt hy2 tu9 rfl rfl) F rfl rfl ?_; clear F a; intro a F
   refine wq_ev (wg F rfl rfl rfl rfl hc1) (ev_int rfl rfl (bo_eql _ _ _ _)) F rfl rfl ?_; clear F a; intro a F
   refine wq_ev (wg F rfl rfl rfl rfl hc1) (ev_move rfl) F rfl rfl ?_; clear F a; intro a F
   obtain ⟨x2, hx2, hm⟩ := bind_some hm
   refine wq_cut 11 (fun a => Fr 128 a [(45, .bool x2), (23, .bool (decide (y1.at_ < (y1.text.size : Int)))), (0, bp br_ 0), (1, .i6 above)]) ?_ ?_
   ·clear hm; obtain ⟨hc2, hm⟩ | ⟨hc2, hm⟩ := ite_or hx2
    ·refine wq_skip rfl rfl rfl rfl (ne_ft hc2) F rfl rfl ?_; clear F a; intro a F
     refine wq_skip rfl rfl rfl rfl (ne_ft hc2) F rfl rfl ?_; clear F a; intro a F
     refine wq_skip rfl rfl rfl rfl (ne_ft hc2) F rfl rfl ?_; clear F a; intro a F
     refine wq_skip rfl rfl rfl rfl (ne_ft hc2) F rfl rfl ?_; clear F a; intro a F
     refine wq_skip rfl rfl rfl rfl (ne_ft hc2) F rfl rfl ?_; clear F a; intro a F
     refine wq_skip rfl rfl rfl rfl (ne_ft hc2) F rfl rfl ?_; clear F a; intro a F
     refine wq_skip rfl rfl rfl rfl (ne_ft hc2) F rfl rfl ?_; clear F a; intro a F
     refine wq_skip rfl rfl rfl rfl (ne_ft hc2) F rfl rfl ?_; clear F a; intro a F
     refine wq_skip rfl rfl rfl rfl (ne_ft hc2) F rfl rfl ?_; clear F a; intro a F
     refine wq_skip rfl rfl rfl rfl (ne_ft hc2) F rfl rfl ?_; clear F a; intro a F
     refine wq_ev (wg F rfl rfl rfl rfl hc1) (ev_pickT rfl hc2 rfl) F rfl rfl ?_; clear F a; intro a F
     obtain rfl := sinj hm
     refine wq_nil ?_; exact F.sub ⟨rfl, rfl, rfl, rfl, trivial⟩
    ·refine wq_ev (wg F rfl rfl rfl rfl hc2) (ev_move rfl) F rfl rfl ?_; clear F a; intro a F
     refine wq_ev (wg F rfl rfl rfl rfl hc2) (ev_nil rfl) F rfl rfl ?_; clear F a; intro a F
     refine wq_ev (wg F rfl rfl rfl rfl hc2) (ev_fieldAddr' tu44 tf44_0 (z := 0) ts9 rfl ⟨_, rfl⟩ rfl) F rfl rfl ?_; clear F a; intro a F
     refine wq_ev (wg F rfl rfl rfl rfl hc2) (ev_load1 tu9 rfl rfl (box_ptr (cells := [.string y1.text]) 0 rfl 0 rfl (lb rfl))) F rfl rfl ?_; clear F a; intro a F
     refine wq_ev (wg F rfl rfl rfl rfl hc2) (ev_move rfl) F rfl rfl ?_; clear F a; intro a F
     refine wq_ev (wg F rfl rfl rfl rfl hc2) (ev_nil rfl) F rfl rfl ?_; clear F a; intro a F
     refine wq_ev (wg F rfl rfl rfl rfl hc2) (ev_fieldAddr' tu44 tf44_1 (z := 0) ts3 rfl ⟨_, rfl⟩ rfl) F rfl rfl ?_; clear F a; intro a F
     refine wq_ev (wg F rfl rfl rfl rfl hc2) (ev_load1 tu3 rfl rfl (box_ptr (cells := [.i6 y1.at_]) 0 rfl 1 rfl (lb rfl))) F rfl rfl ?_; clear F a; intro a F
     obtain ⟨y3, hy3, hm⟩ := bind_some hm
     refine wq_ev (wg F rfl rfl rfl rfl hc2) (ev_sAt hy3 tu9 rfl rfl) F rfl rfl ?_; clear F a; intro a F
     obtain ⟨y4, hy4, hm⟩ := bind_some hm
     refine wq_call (wg F rfl rfl rfl rfl hc2) rfl (xs := [.tmp 43]) (vs := [.int .u8 y3]) (cap := []) F rfl rfl tc32 (v := .bool y4) (fun w S => (syntax_labelByte_ok (g := g1) (fr := (fl [[bx br_ #[.string y1.text, .i6 y1.at_, v1] 44], c1] fr)) (w := w) y3 S hy4).mono (by rintro en w' ⟨_, rfl, g2, l2, S2, rfl⟩; exact ⟨rfl, S2.weak l2⟩)) rfl rfl ?_; clear F a; intro a F
     refine wq_ev (wg F rfl rfl rfl rfl hc1) (ev_pickF rfl hc2 rfl) F rfl rfl ?_; clear F a; intro a F
     obtain rfl := sinj hm
     refine wq_nil ?_; exact F.sub ⟨rfl, rfl, rfl, rfl, trivial⟩
   clear F; intro a F
   refine wq_ev (wn rfl) (ev_pickT rfl hc1 rfl) F rfl rfl ?_; clear F a; intro a F
   obtain rfl := sinj hm
   refine wq_nil ?_; exact F.sub ⟨rfl, rfl, rfl, trivial⟩
  ·refine wq_skip rfl rfl rfl rfl (ne_tf hc1) F rfl rfl ?_; clear F a; intro a F
   refine wq_skip rfl rfl rfl rfl (ne_tf hc1) F rfl rfl ?_; clear F a; intro a F
   refine wq_skip rfl rfl rfl rfl (ne_tf hc1) F rfl rfl ?_; clear F a; intro a F
   refine wq_skip rfl rfl rfl rfl (ne_tf hc1) F rfl rfl ?_; clear F a; intro a F
   refine wq_skip rfl rfl rfl rfl (ne_tf hc1) F rfl rfl ?_; clear F a; intro a F
   refine wq_skip rfl rfl rfl rfl (ne_tf hc1) F rfl rfl ?_; clear F a; intro a F
   refine wq_skip rfl rfl rfl rfl (ne_tf hc1) F rfl rfl ?_; clear F a; intro a F
   refine wq_skip rfl rfl rfl rfl (ne_tf hc1) F rfl rfl ?_; clear F a; intro a F
   refine wq_skip rfl rfl rfl rfl (ne_tf hc1) F rfl rfl ?_; clear F a; intro a F
   refine wq_skip rfl rfl rfl rfl (ne_tf hc1) F rfl rfl ?_; clear F a; intro a F
   refine wq_skip rfl rfl rfl rfl (ne_tf hc1) F rfl rfl ?_; clear F a; intro a F
   refine wq_skipu rfl rfl rfl rfl F rfl rfl ?_; clear F a; intro a F
   refine wq_skipu rfl rfl rfl rfl F rfl rfl ?_; clear F a; intro a F
   refine wq_skipu rfl rfl rfl rfl F rfl rfl ?_; clear F a; intro a F
   refine wq_skipu rfl rfl rfl rfl F rfl rfl ?_; clear F a; intro a F
   refine wq_skipu rfl rfl rfl rfl F rfl rfl ?_; clear F a; intro a F
   refine wq_skipu rfl rfl rfl rfl F rfl rfl ?_; clear F a; intro a F
   refine wq_skipu rfl rfl rfl rfl F rfl rfl ?_; clear F a; intro a F
   refine wq_skipu rfl rfl rfl rfl F rfl rfl ?_; clear F a; intro a F
   refine wq_skipu rfl rfl rfl rfl F rfl rfl ?_; clear F a; intro a F
   refine wq_skipu rfl rfl rfl rfl F rfl rfl ?_; clear F a; intro a F
   refine wq_skip rfl rfl rfl rfl (ne_tf hc1) F rfl rfl ?_; clear F a; intro a F
   refine wq_ev (wn rfl) (ev_pickF rfl hc1 rfl) F rfl rfl ?_; clear F a; intro a F
   obtain rfl := sinj hm
   refine wq_nil ?_; exact F.sub ⟨rfl, rfl, rfl, trivial⟩
 clear F; intro a F
 refine wq_ev (wn rfl) (ev_move rfl) F rfl rfl ?_; clear F a; intro a F
 obtain ⟨x3, hx3, hm⟩ := bind_some hm
 refine wq_cut 3 (fun a => Fr 128 a [(50, .bool x3), (0, bp br_ 0), (1, .i6 above)]) ?_ ?_
 ·clear hm; obtain ⟨hc3, hm⟩ | ⟨hc3, hm⟩ := ite_or hx3
  ·refine wq_ev (wg F rfl rfl rfl rfl hc3) (ev_move rfl) F rfl rfl ?_; clear F a; intro a F
   refine wq_ev (wg F rfl rfl rfl rfl hc3) (ev_int rfl rfl (bo_gtr _ _ _ _)) F rfl rfl ?_; clear F a; intro a F
   refine wq_ev (wn rfl) (ev_pickT rfl hc3 rfl) F rfl rfl ?_; clear F a; intro a F
   obtain rfl := sinj hm
   refine wq_nil ?_; exact F.sub ⟨rfl, rfl, rfl, trivial⟩
  ·refine wq_skip rfl rfl rfl rfl (ne_tf hc3) F rfl rfl ?_; clear F a; intro a F
   refine wq_skip rfl rfl rfl rfl (ne_tf hc3) F rfl rfl ?_; clear F a; intro a F
   refine wq_ev (wn rfl) (ev_pickF rfl hc3 rfl) F rfl rfl ?_; clear F a; intro a F
   obtain rfl := sinj hm
   refine wq_nil ?_; exact F.sub ⟨rfl, rfl, rfl, trivial⟩
 clear F; intro a F
 refine wq_nil ?_; clear S; intro w S
 refine then_n ?_
 obtain ⟨hc4, hm⟩ | ⟨hc4, hm⟩ := ite_or hm
 ·refine wp_condT F rfl hc4 ?_
  refine wp_seq ?_
  refine wp_region_lit ?_
  refine wE (ev_assign rfl) F S rfl fun a F=>?_
  refine wpList_nil ?_
  refine then_n ?_
  refine wp_ret ?_
  refine then_r ?_
  obtain rfl := sinj hm
  refine post_r _ F rfl (ar_cons (resT rfl) ar_nil) ?_
  exact ⟨_, rfl, g1, v1, c1, l1, S, h1, rfl⟩
 ·refine wp_condF F rfl hc4 ?_
  refine wp_skip ?_
  refine then_n ?_
  refine wp_seq ?_
  refine wp_seq ?_
  refine wp_region_lit ?_
  refine wE (ev_move rfl) F S rfl fun a F=>?_
  obtain ⟨y5, hy5, hm⟩ := bind_some hm
  refine wl_call0 (wn rfl) rfl F rfl (syntax_reader__is_ok br_ y1 v1 c1 h1 40 S hy5) rfl tc33 rfl rfl ?_; clear F a S
  rintro _ a w ⟨g3, v2, c2, l3, S, h2, rfl⟩ F; replace S : St g3 [[bx br_ #[.string y5.2.text, .i6 y5.2.at_, v2] 44], c2] fr w := S
  refine wE (ev_not rfl) F S rfl fun a F=>?_
  refine wpList_nil ?_
  refine then_n ?_
  obtain ⟨hc5, hm⟩ | ⟨hc5, hm⟩ := ite_or hm
  ·refine wp_condT F rfl hc5 ?_
   refine wp_seq ?_
   refine wp_region_lit ?_
   refine wE (ev_move rfl) F S rfl fun a F=>?_
   obtain ⟨y6, hy6, hm⟩ := bind_some hm
   refine wl_call0 (wn rfl) rfl F rfl (syntax_reader__label_ok br_ y5.2 v2 c2 h2 S hy6) rfl tc34 rfl rfl ?_; clear F a S
   rintro _ a w ⟨g4, v3, c3, l4, S, h3, rfl⟩ F; replace S : St g4 [[bx br_ #[.string y6.2.2.text, .i6 y6.2.2.at_, v3] 44], c3] fr w := S
   refine wE (ev_move rfl) F S rfl fun a F=>?_
   refine wE (ev_extract rfl rfl) F S rfl fun a F=>?_
   refine wE (ev_extract rfl rfl) F S rfl fun a F=>?_
   refine wE (ev_assign rfl) F S rfl fun a F=>?_
   refine wE (ev_assign rfl) F S rfl fun a F=>?_
   refine wpList_nil ?_
   refine then_n ?_
   refine wp_cut (fun a w => ∃ (x4 : List Node) (v4 : Value) (c4 : Hl) (g5 : Gh), Fr 128 a [(6, .i6 y6.2.1), (0, bp br_ 0)] ∧ Le g4 g5 ∧ St g5 [[bx br_ #[.string y6.2.2.text, .i6 y6.2.2.at_, v4] 44], c4] fr w ∧ OwnS g5 x4 v4 c4 ∧ syntax_reader__node.j1 y6 x4 = some r) ?_ ?_
   ·refine wp_seq ?_
    refine wp_region_lit ?_
    refine wE (ev_move rfl) F S rfl fun a F=>?_
    refine wE (ev_int rfl rfl (bo_eql _ _ _ _)) F S rfl fun a F=>?_
    refine wpList_nil ?_
    refine then_n ?_
    obtain ⟨hc6, hm⟩ | ⟨hc6, hm⟩ := ite_or hm
    ·refine wp_condT F rfl hc6 ?_
     refine wp_region_lit ?_
     refine wE (ev_move rfl) F S rfl fun a F=>?_
     refine wE (ev_move rfl) F S rfl fun a F=>?_
     refine wE (ev_nil rfl) F S rfl fun a F=>?_
     refine wE (ev_fieldAddr' tu44 tf44_2 (z := 0) ts22 rfl ⟨_, rfl⟩ rfl) F S rfl fun a F=>?_
     refine wE (ev_load1 tu22 rfl rfl (box_ptr (cells := [v3]) 0 rfl 2 rfl (lb rfl))) F S rfl fun a F=>?_
     refine wE (ev_move rfl) F S rfl fun a F=>?_
     refine wE (ev_build (parts := [(0, .tmp 66)]) (vs := [(0, .string y6.1)]) rfl (fun w => tb50_0 y6.1 w)) F S rfl fun a F=>?_
     refine wl_lit (l := ([({ Label := y6.1, Children := [] } : Node)] : List Node)) (vs := [.agg #[.string y6.1, nilS]]) (parts := [(0, .tmp 67)]) (wn rfl) rfl rfl rfl tu22 te50 (sz_cons rfl sz_nil) rfl (Cat.cons (rep_Node_mk (x := ({ Label := y6.1, Children := [] } : Node)) (RepSl.nil _)) (Cat.nil _)) (coa_cons rfl coa_nil) rfl F S rfl rfl ?_; clear F a S
     rintro v5 c5 a w h5 F S
     obtain ⟨cs1, hk1, hr1⟩ := OwnS.reads h5
     obtain ⟨y7, hy7, hm⟩ := bind_some hm
     refine wl_append (wn rfl) rfl tu22 tu22 te50 (by decide) (by decide) F S rfl rfl (k := 2) rfl h3 hk1 rfl (hr1 _ _ _ 0 rfl S) hy7 rfl rfl ?_; clear F a S
     rintro v6 c6 a w h6 S F; replace S : St g4 [c5, [bx br_ #[.string y6.2.2.text, .i6 y6.2.2.at_, v3] 44], c6] fr w := S
     refine wE (ev_nil rfl) F S rfl fun a F=>?_
     refine wE (ev_fieldAddr' tu44 tf44_2 (z := 0) ts22 rfl ⟨_, rfl⟩ rfl) F S rfl fun a F=>?_
     refine wl_storeC (wn rfl) rfl F S rfl rfl (vs := [v6]) (OwnS.cl h6) ts22 (one_cons (OwnS.one h6) one_nil) (k := 1) rfl (lb rfl) (c' := #[.string y6.2.2.text, .i6 y6.2.2.at_, v6]) rfl rfl ?_; clear S; intro w S
     refine wpList_nil ?_
     refine then_n ?_
     replace S : St g4 [[bx br_ #[.string y6.2.2.text, .i6 y6.2.2.at_, v6] 44], c6] fr w := St.tail [[bx br_ #[.string y6.2.2.text, .i6 y6.2.2.at_, v6] 44], c6] _ ((S.frontC 2 rfl).frontC 2 rfl)
     exact ⟨y7, v6, c6, g4, F.sub ⟨rfl, rfl, trivial⟩, (Le.refl _), S, h6, hm⟩
    ·refine wp_condF F rfl hc6 ?_
     refine wp_skip ?_
     refine then_n ?_
     exact ⟨y6.2.2.nodes, v3, c3, g4, F.sub ⟨rfl, rfl, trivial⟩, (Le.refl _), S, h3, hm⟩
   ·clear F S hm; rintro a w ⟨x4, v4, c4, g5, F, l5, S, h4, hm⟩
    refine wp_seq ?_
    refine wp_region_lit ?_
    refine wE (ev_move rfl) F S rfl fun a F=>?_
    refine wE (ev_assign rfl) F S rfl fun a F=>?_
    refine wpList_nil ?_
    refine then_n ?_
    refine wp_ret ?_
    refine then_r ?_
    obtain rfl := sinj hm
    refine post_r _ F rfl (ar_cons (resT rfl) ar_nil) ?_
    exact ⟨_, rfl, g5, v4, c4, (((l1.trans l3).trans l4).trans l5), S, h4, rfl⟩
  ·refine wp_condF F rfl hc5 ?_
   refine wp_skip ?_
   refine then_n ?_
   refine wp_seq ?_
   refine wp_region_lit ?_
   refine wE (ev_move rfl) F S rfl fun a F=>?_
   refine wE (ev_nil rfl) F S rfl fun a F=>?_
   refine wE (ev_fieldAddr' tu44 tf44_1 (z := 0) ts3 rfl ⟨_, rfl⟩ rfl) F S rfl fun a F=>?_
   refine wE (ev_load1 tu3 rfl rfl (box_ptr (cells := [.i6 y5.2.at_]) 0 rfl 1 rfl (lb rfl))) F S rfl fun a F=>?_
   obtain ⟨z1, hz1, hm⟩ := bind_some hm
   refine wE (ev_int rfl rfl (bo_add hz1)) F S rfl fun a F=>?_
   refine wE (ev_nil rfl) F S rfl fun a F=>?_
   refine wE (ev_fieldAddr' tu44 tf44_1 (z := 0) ts3 rfl ⟨_, rfl⟩ rfl) F S rfl fun a F=>?_
   refine wl_storeC (wn rfl) rfl F S rfl rfl (vs := [.i6 z1]) rfl ts3 (one_cons rfl one_nil) (k := 0) rfl (lb rfl) (c' := #[.string y5.2.text, .i6 z1, v2]) rfl rfl ?_; clear S; intro w S
   refine wpList_nil ?_
   refine then_n ?_
   refine wp_seq ?_
   refine wp_region_lit ?_
   refine wE (ev_move rfl) F S rfl fun a F=>?_
   obtain ⟨y8, hy8, hm⟩ := bind_some hm
   refine wl_call0 (wn rfl) rfl F rfl (syntax_reader__label_ok br_ ({ text := y5.2.text, at_ := z1, nodes := y5.2.nodes } : Reader_syntax) v2 c2 h2 S hy8) rfl tc34 rfl rfl ?_; clear F a S
   rintro _ a w ⟨g6, v7, c7, l6, S, h7, rfl⟩ F; replace S : St g6 [[bx br_ #[.string y8.2.2.text, .i6 y8.2.2.at_, v7] 44], c7] fr w := S
   refine wE (ev_move rfl) F S rfl fun a F=>?_
   refine wE (ev_extract rfl rfl) F S rfl fun a F=>?_
   refine wE (ev_extract rfl rfl) F S rfl fun a F=>?_
   refine wE (ev_assign rfl) F S rfl fun a F=>?_
   refine wE (ev_assign rfl) F S rfl fun a F=>?_
   refine wpList_nil ?_
   refine then_n ?_
   refine wp_seq ?_
   refine wp_seq ?_
   refine wp_region_lit ?_
   refine wE (ev_move rfl) F S rfl fun a F=>?_
   refine wE (ev_int rfl rfl (bo_neq _ _ _ _)) F S rfl fun a F=>?_
   refine wpList_nil ?_
   refine then_n ?_
   obtain ⟨hc7, hm⟩ | ⟨hc7, hm⟩ := ite_or hm
   ·refine wp_condT F rfl hc7 ?_
    refine wp_seq ?_
    refine wp_region_lit ?_
    refine wE (ev_move rfl) F S rfl fun a F=>?_
    refine wE (ev_assign rfl) F S rfl fun a F=>?_
    refine wpList_nil ?_
    refine then_n ?_
    refine wp_ret ?_
    refine then_r ?_
    obtain rfl := sinj hm
    refine post_r _ F rfl (ar_cons (resT rfl) ar_nil) ?_
    exact ⟨_, rfl, g6, v7, c7, ((l1.trans l3).trans l6), S, h7, rfl⟩
   ·refine wp_condF F rfl hc7 ?_
    refine wp_skip ?_
    refine then_n ?_
    refine wp_seq ?_
    refine wp_region_lit ?_
    refine wE (ev_move rfl) F S rfl fun a F=>?_
    refine wE (ev_build (parts := [(0, .tmp 88)]) (vs := [(0, .string y8.1)]) rfl (fun w => tb50_0 y8.1 w)) F S rfl fun a F=>?_
    refine wl_alloc (wn rfl) rfl tz50 (cs := [.string ByteArray.empty, nilS]) rfl F S rfl rfl ?_; clear F a S; rintro b1 a w F S
    refine wl_storeC (wn rfl) rfl F S rfl rfl (vs := [.string y8.1, nilS]) rfl ts50 (one_cons rfl (one_cons rfl one_nil)) (k := 0) rfl (lb rfl) (c' := #[.string y8.1, nilS]) rfl rfl ?_; clear S; intro w S
    refine wpList_nil ?_
    refine then_n ?_
    refine wp_cut (fun a w => ∃ (x5 : List Int) (x6 : ByteArray) (x7 : Int) (x8 : List Node) (v8 v9 : Value) (c8 c9 : Hl) (g7 : Gh), Fr 128 a [(9, bp b1 0), (0, bp br_ 0)] ∧ Le g6 g7 ∧ St g7 [[bx b1 #[.string y8.1, v8] 50], [bx br_ #[.string x6, .i6 x7, v9] 44], c8, c9] fr w ∧ OwnS g7 x5 v8 c8 ∧ OwnS g7 x8 v9 c9 ∧ syntax_reader__node.j2 y8 x5 x6 x7 x8 = some r) ?_ ?_
    ·refine wp_block ?_
     obtain ⟨r1, hr3, hm⟩ := bind_some hm
     have hmo1 := hm; clear hm
     refine wp_iter (σ := (List Int) × ByteArray × Int × (List Node)) (ρ := (Int × Reader_syntax) ⊕ ((List Int) × ByteArray × Int × (List Node))) (m := fun s => syntax_reader__node.l1 above rec_ s.1 s.2.1 s.2.2.1 s.2.2.2) (I := fun s a w => match s with | (x9, x10, x11, x12) => ∃ (v12 v13 : Value) (c12 c13 : Hl) (g9 : Gh), Fr 128 a [(9, bp b1 0), (0, bp br_ 0), (1, .i6 above)] ∧ Le g6 g9 ∧ St g9 [[bx b1 #[.string y8.1, v12] 50], [bx br_ #[.string x10, .i6 x11, v13] 44], c12, c13] fr w ∧ OwnS g9 x9 v12 c12 ∧ OwnS g9 x12 v13 c13) hr3 ?_ ?_
     ·dsimp only
      replace S : St g6 [[], [bx b1 #[.string y8.1, nilS] 50], [bx br_ #[.string y8.2.2.text, .i6 y8.2.2.at_, v7] 44], c7] fr w := S
      replace S : St g6 [[bx b1 #[.string y8.1, nilS] 50], [bx br_ #[.string y8.2.2.text, .i6 y8.2.2.at_, v7] 44], [], c7] fr w := St.tail [[bx b1 #[.string y8.1, nilS] 50], [bx br_ #[.string y8.2.2.text, .i6 y8.2.2.at_, v7] 44], [], c7] _ ((((S.frontC 3 rfl).frontC 1 rfl).frontC 4 rfl).frontC 4 rfl)
      exact ⟨(nilS), v7, [], c7, g6, F.sub ⟨rfl, rfl, rfl, trivial⟩, (Le.refl _), S, (OwnS.nil _), h7⟩
     ·clear F S; rintro ⟨x9, x10, x11, x12⟩ a w x13 ⟨v12, v13, c12, c13, g9, F, l9, S, h13, h14⟩ hx4 hfin1
      have hm : syntax_reader__node.l1 above rec_ x9 x10 x11 x12 = some x13 := hx4; clear hx4
      unfold syntax_reader__node.l1 at hm
      refine wp_seq ?_
      refine wp_seq ?_
      refine wp_region_lit ?_
      refine wE (ev_move rfl) F S rfl fun a F=>?_
      replace S : St g9 [[bx br_ #[.string x10, .i6 x11, v13] 44], c13, [bx b1 #[.string y8.1, v12] 50], c12] fr w := ((((S.frontC 2 rfl).frontC 1 rfl).frontC 5 rfl).frontC 4 rfl)
      obtain ⟨y10, hy10, hm⟩ := bind_some hm
      refine wl_call0 (wn rfl) rfl F rfl (syntax_reader__is_ok (fr := (fl [[bx b1 #[.string y8.1, v12] 50], c12] fr)) br_ ({ text := x10, at_ := x11, nodes := x12 } : Reader_syntax) v13 c13 h14 41 S hy10) rfl tc33 rfl rfl ?_; clear F a S
      rintro _ a w ⟨g10, v14, c14, l10, S, h15, rfl⟩ F; replace S : St g10 [[bx br_ #[.string y10.2.text, .i6 y10.2.at_, v14] 44], c14, [bx b1 #[.string y8.1, v12] 50], c12] fr w := S
      refine wE (ev_not rfl) F S rfl fun a F=>?_
      refine wpList_nil ?_
      refine then_n ?_
      obtain ⟨hc8, hm⟩ | ⟨hc8, hm⟩ := ite_or hm
      ·refine wp_condT F rfl hc8 ?_
       refine wp_skip ?_
       refine then_n ?_
       refine wp_block ?_
       refine wp_seq ?_
       refine wp_seq ?_
       refine wp_region_lit ?_
       refine wE (ev_move rfl) F S rfl fun a F=>?_
       refine wE (ev_move rfl) F S rfl fun a F=>?_
       obtain ⟨z3, hz3, hm⟩ := bind_some hm
       refine wE (ev_int rfl rfl (bo_add hz3)) F S rfl fun a F=>?_
       obtain ⟨y11, hy11, hm⟩ := bind_some hm
       refine wl_call0 (wn rfl) rfl F rfl (hrec (fr := (fl [[bx b1 #[.string y8.1, v12] 50], c12] fr)) br_ y10.2 v14 c14 h15 z3 S hy11) rfl tc21 rfl rfl ?_; clear F a S
       rintro _ a w ⟨g11, v15, c15, l11, S, h16, rfl⟩ F; replace S : St g11 [[bx br_ #[.string y11.2.text, .i6 y11.2.at_, v15] 44], c15, [bx b1 #[.string y8.1, v12] 50], c12] fr w := S
       refine wE (ev_assign rfl) F S rfl fun a F=>?_
       refine wpList_nil ?_
       refine then_n ?_
       refine wp_seq ?_
       refine wp_region_lit ?_
       refine wE (ev_move rfl) F S rfl fun a F=>?_
       refine wE (ev_int rfl rfl (bo_neq _ _ _ _)) F S rfl fun a F=>?_
       refine wpList_nil ?_
       refine then_n ?_
       obtain ⟨hc9, hm⟩ | ⟨hc9, hm⟩ := ite_or hm
       ·refine wp_condT F rfl hc9 ?_
        refine wp_seq ?_
        refine wp_region_lit ?_
        refine wE (ev_move rfl) F S rfl fun a F=>?_
        refine wE (ev_assign rfl) F S rfl fun a F=>?_
        refine wpList_nil ?_
        refine then_n ?_
        refine wp_ret ?_
        refine then_r ?_
        refine inb_r ?_
        refine then_r ?_
        refine inb_r ?_
        refine then_r ?_
        obtain rfl := sinj hm
        obtain rfl := hfin1 _ rfl
        clear hm
        have hm : (some (y11.1, y11.2) : Option (Int × Reader_syntax)) = some _ := hmo1
        obtain rfl := sinj hm
        refine post_r _ F rfl (ar_cons (resT rfl) ar_nil) ?_
        replace S : St g11 [[bx br_ #[.string y11.2.text, .i6 y11.2.at_, v15] 44], c15] fr w := St.tail [[bx br_ #[.string y11.2.text, .i6 y11.2.at_, v15] 44], c15] _ ((S.frontC 1 rfl).frontC 1 rfl)
        exact ⟨_, rfl, g11, v15, c15, (((((l1.trans l3).trans l6).trans l9).trans l10).trans l11), S, h16, rfl⟩
       ·refine wp_condF F rfl hc9 ?_
        refine wp_skip ?_
        refine then_n ?_
        refine wp_dv [] mo S ?_; clear S; intro ok2 w S
        refine dv_et ok2 0 rfl (ev_fieldAddr' tu50 tf50_1 (z := 0) ts38 rfl ⟨_, rfl⟩ rfl) F rfl fun a F=>?_
        refine dv_ev ok2 1 rfl (ev_load1 tu38 rfl rfl (box_ptr (cells := [v12]) 2 rfl 1 rfl (lb rfl))) F S rfl fun a F=>?_
        refine dv_et ok2 2 rfl (ev_move rfl) F rfl fun a F=>?_
        refine dv_et ok2 3 rfl (ev_nil rfl) F rfl fun a F=>?_
        refine dv_et ok2 4 rfl (ev_fieldAddr' tu44 tf44_2 (z := 0) ts22 rfl ⟨_, rfl⟩ rfl) F rfl fun a F=>?_
        refine dv_ev ok2 5 rfl (ev_load1 tu22 rfl rfl (box_ptr (cells := [v15]) 0 rfl 2 rfl (lb rfl))) F S rfl fun a F=>?_
        refine dv_et ok2 6 rfl (ev_lenOw h16 rfl tu22) F rfl fun a F=>?_
        obtain ⟨z4, hz4, hm⟩ := bind_some hm
        refine dv_et ok2 7 rfl (ev_int rfl rfl (bo_sub hz4)) F rfl fun a F=>?_
        refine dv_op ok2 8 rfl [(1, v12)] ?_
        refine wl_lit (l := ([z4] : List Int)) (vs := [.i6 z4]) (parts := [(0, .tmp 107)]) (wn rfl) rfl rfl rfl tu38 te3 (sz_cons rfl sz_nil) rfl (Cat.cons (show Rep.rep _ z4 _ from rfl) (Cat.nil _)) (coa_cons rfl coa_nil) rfl F S rfl rfl ?_; clear F a S
        rintro v16 c16 a w h17 F S
        refine dv_nx ⟨yl_ev rfl rfl (ev_load1 tu38 rfl rfl (box_ptr (cells := [v12]) 3 rfl 1 rfl (lb rfl))) F S, trivial⟩ ?_
        refine dv_op ok2 9 rfl [] ?_
        obtain ⟨cs3, hk3, hr4⟩ := OwnS.reads h17
        obtain ⟨y12, hy12, hm⟩ := bind_some hm
        refine wl_append (wn rfl) rfl tu38 tu38 te3 (by decide) (by decide) F S rfl rfl (k := 4) rfl (h13.mono (l10.trans l11)) hk3 rfl (hr4 _ _ _ 0 rfl S) hy12 rfl rfl ?_; clear F a S
        rintro v17 c17 a w h18 S F; replace S : St g11 [c16, [bx br_ #[.string y11.2.text, .i6 y11.2.at_, v15] 44], c15, [bx b1 #[.string y8.1, v12] 50], c17] fr w := S
        refine dv_nx trivial ?_
        refine dv_et ok2 10 rfl (ev_fieldAddr' tu50 tf50_1 (z := 0) ts38 rfl ⟨_, rfl⟩ rfl) F rfl fun a F=>?_
        refine dv_op ok2 11 rfl [] ?_
        refine wl_storeC (wn rfl) rfl F S rfl rfl (vs := [v17]) (OwnS.cl h18) ts38 (one_cons (OwnS.one h18) one_nil) (k := 3) rfl (lb rfl) (c' := #[.string y8.1, v17]) rfl rfl ?_; clear S; intro w S
        refine dv_nx trivial ?_
        refine dv_fin ok2 ?_
        refine inb_n ?_
        refine then_n ?_
        obtain rfl := sinj hm
        refine ⟨_, rfl, ?_⟩
        dsimp only
        replace S : St g11 [[bx b1 #[.string y8.1, v17] 50], [bx br_ #[.string y11.2.text, .i6 y11.2.at_, v15] 44], c17, c15] fr w := St.tail [[bx b1 #[.string y8.1, v17] 50], [bx br_ #[.string y11.2.text, .i6 y11.2.at_, v15] 44], c17, c15] _ ((((S.frontC 2 rfl).frontC 5 rfl).frontC 3 rfl).frontC 6 rfl)
        exact ⟨v17, v15, c17, c15, g11, F.sub ⟨rfl, rfl, rfl, trivial⟩, ((l9.trans l10).trans l11), S, h18, h16⟩
      ·refine wp_condF F rfl hc8 ?_
       refine wp_exit ?_
       refine then_e ?_
       refine then_e ?_
       refine inb_x ?_
       refine then_n ?_
       obtain rfl := sinj hm
       obtain rfl := hfin1 _ rfl
       clear hm
       have hm : (syntax_reader__node.j2 y8 x9 y10.2.text y10.2.at_ y10.2.nodes : Option (Int × Reader_syntax)) = some _ := hmo1
       replace S : St g10 [[bx b1 #[.string y8.1, v12] 50], [bx br_ #[.string y10.2.text, .i6 y10.2.at_, v14] 44], c12, c14] fr w := St.tail [[bx b1 #[.string y8.1, v12] 50], [bx br_ #[.string y10.2.text, .i6 y10.2.at_, v14] 44], c12, c14] _ ((((S.frontC 1 rfl).frontC 4 rfl).frontC 2 rfl).frontC 5 rfl)
       exact ⟨x9, y10.2.text, y10.2.at_, y10.2.nodes, v12, v14, c12, c14, g10, F.sub ⟨rfl, rfl, trivial⟩, (l9.trans l10), S, (h13.mono l10), h15, hm⟩
    ·clear F S hm; rintro a w ⟨x5, x6, x7, x8, v8, v9, c8, c9, g7, F, l7, S, h8, h9, hm⟩
     refine wp_seq ?_
     refine wp_region_lit ?_
     refine wE (ev_move rfl) F S rfl fun a F=>?_
     refine wE (ev_nil rfl) F S rfl fun a F=>?_
     refine wE (ev_fieldAddr' tu44 tf44_1 (z := 0) ts3 rfl ⟨_, rfl⟩ rfl) F S rfl fun a F=>?_
     refine wE (ev_load1 tu3 rfl rfl (box_ptr (cells := [.i6 x7]) 1 rfl 1 rfl (lb rfl))) F S rfl fun a F=>?_
     obtain ⟨z2, hz2, hm⟩ := bind_some hm
     refine wE (ev_int rfl rfl (bo_add hz2)) F S rfl fun a F=>?_
     refine wE (ev_nil rfl) F S rfl fun a F=>?_
     refine wE (ev_fieldAddr' tu44 tf44_1 (z := 0) ts3 rfl ⟨_, rfl⟩ rfl) F S rfl fun a F=>?_
     refine wl_storeC (wn rfl) rfl F S rfl rfl (vs := [.i6 z2]) rfl ts3 (one_cons rfl one_nil) (k := 1) rfl (lb rfl) (c' := #[.string x6, .i6 z2, v9]) rfl rfl ?_; clear S; intro w S
     refine wpList_nil ?_
     refine then_n ?_
     refine wp_seq ?_
     refine wp_dv [] mo S ?_; clear S; intro ok1 w S
     refine dv_et ok1 0 rfl (ev_move rfl) F rfl fun a F=>?_
     refine dv_et ok1 1 rfl (ev_move rfl) F rfl fun a F=>?_
     refine dv_et ok1 2 rfl (ev_nil rfl) F rfl fun a F=>?_
     refine dv_et ok1 3 rfl (ev_fieldAddr' tu44 tf44_2 (z := 0) ts22 rfl ⟨_, rfl⟩ rfl) F rfl fun a F=>?_
     refine dv_ev ok1 4 rfl (ev_load1 tu22 rfl rfl (box_ptr (cells := [v9]) 1 rfl 2 rfl (lb rfl))) F S rfl fun a F=>?_
     refine dv_ev ok1 5 rfl (ev_loadA tu50 rfl (cs := [.string y8.1, v8]) ts50 rfl (box_ptr (cells := [.string y8.1, v8]) 0 rfl 0 rfl (lb rfl))) F S rfl fun a F=>?_
     refine dv_op ok1 6 rfl [(4, v9)] ?_
     obtain ⟨g8, l8, S, h10⟩ : ∃ gz, Le g7 gz ∧ St gz [[bx b1 #[.string y8.1, v8] 50], [bx br_ #[.string x6, .i6 z2, v9] 44], c9] fr w ∧ RepSl gz x5 v8 := ⟨_, Le.add _ _, S.freeze 2 rfl, OwnS.freeze (S.front 2 rfl) h8⟩
     refine wl_lit (l := ([({ Label := y8.1, Children := x5 } : Node)] : List Node)) (vs := [.agg #[.string y8.1, v8]]) (parts := [(0, .tmp 123)]) (wn rfl) rfl rfl rfl tu22 te50 (sz_cons rfl sz_nil) rfl (Cat.cons (rep_Node_mk (x := ({ Label := y8.1, Children := x5 } : Node)) h10) (Cat.nil _)) (coa_cons rfl coa_nil) rfl F S rfl rfl ?_; clear F a S
     rintro v10 c10 a w h11 F S
     refine dv_nx ⟨yl_ev rfl rfl (ev_load1 tu22 rfl rfl (box_ptr (cells := [v9]) 2 rfl 2 rfl (lb rfl))) F S, trivial⟩ ?_
     refine dv_op ok1 7 rfl [] ?_
     obtain ⟨cs2, hk2, hr2⟩ := OwnS.reads h11
     obtain ⟨y9, hy9, hm⟩ := bind_some hm
     refine wl_append (wn rfl) rfl tu22 tu22 te50 (by decide) (by decide) F S rfl rfl (k := 3) rfl (h9.mono l8) hk2 rfl (hr2 _ _ _ 0 rfl S) hy9 rfl rfl ?_; clear F a S
     rintro v11 c11 a w h12 S F; replace S : St g8 [c10, [bx b1 #[.string y8.1, v8] 50], [bx br_ #[.string x6, .i6 z2, v9] 44], c11] fr w := S
     refine dv_nx trivial ?_
     refine dv_et ok1 8 rfl (ev_nil rfl) F rfl fun a F=>?_
     refine dv_et ok1 9 rfl (ev_fieldAddr' tu44 tf44_2 (z := 0) ts22 rfl ⟨_, rfl⟩ rfl) F rfl fun a F=>?_
     refine dv_op ok1 10 rfl [] ?_
     refine wl_storeC (wn rfl) rfl F S rfl rfl (vs := [v11]) (OwnS.cl h12) ts22 (one_cons (OwnS.one h12) one_nil) (k := 2) rfl (lb rfl) (c' := #[.string x6, .i6 z2, v11]) rfl rfl ?_; clear S; intro w S
     refine dv_nx trivial ?_
     refine dv_fin ok1 ?_
     refine then_n ?_
     refine wp_seq ?_
     refine wp_region_lit ?_
     refine wE (ev_assign rfl) F S rfl fun a F=>?_
     refine wpList_nil ?_
     refine then_n ?_
     refine wp_ret ?_
     obtain rfl := sinj hm
     refine post_r _ F rfl (ar_cons (resT rfl) ar_nil) ?_
     replace S : St g8 [[bx br_ #[.string x6, .i6 z2, v11] 44], c11] fr w := St.tail [[bx br_ #[.string x6, .i6 z2, v11] 44], c11] _ ((S.frontC 3 rfl).frontC 3 rfl)
     exact ⟨_, rfl, g8, v11, c11, ((((l1.trans l3).trans l6).trans l7).trans l8), S, h12, rfl⟩

theorem syntax_reader__node.m_ok : ∀ (fu_ : Nat) {g : Gh} {fr : Hl} {w : World} {r : Int × Reader_syntax} (br_ : Nat) (r_ : Reader_syntax) (vr_1 : Value) (cr_1 : Hl) (hr_1 : OwnS g r_.nodes vr_1 cr_1) (above : Int) (S : St g [[bx br_ #[.string r_.text, .i6 r_.at_, vr_1] 44], cr_1] fr w) (hm : syntax_reader__node.m fu_ r_ above = some r), Calls Try.prog 21 [bp br_ 0, .i6 above].toArray w (fun en w' => ∃ v, en = .returned v ∧ ∃ (g' : Gh) (v1 : Value) (c1 : Hl), Le g g' ∧ St g' [[bx br_ #[.string r.2.text, .i6 r.2.at_, v1] 44], c1] fr w' ∧ OwnS g' r.2.nodes v1 c1 ∧ .i6 r.1 = v)
 | 0 => by intros; rename_i hm; cases hm
 | fu_ + 1 => syntax_reader__node.body_ok (syntax_reader__node.m_ok fu_)

theorem syntax_reader__node_ok {g : Gh} {fr : Hl} {w : World} {r : Int × Reader_syntax} (br_ : Nat) (r_ : Reader_syntax) (vr_1 : Value) (cr_1 : Hl) (hr_1 : OwnS g r_.nodes vr_1 cr_1) (above : Int) (S : St g [[bx br_ #[.string r_.text, .i6 r_.at_, vr_1] 44], cr_1] fr w) (hm : syntax_reader__node r_ above = some r) :
  Calls Try.prog 21 [bp br_ 0, .i6 above].toArray w (fun en w' => ∃ v, en = .returned v ∧ ∃ (g' : Gh) (v1 : Value) (c1 : Hl), Le g g' ∧ St g' [[bx br_ #[.string r.2.text, .i6 r.2.at_, v1] 44], c1] fr w' ∧ OwnS g' r.2.nodes v1 c1 ∧ .i6 r.1 = v) := syntax_reader__node.m_ok _ br_ r_ vr_1 cr_1 hr_1 above S hm

theorem syntax_Parse_ok {g : Gh} {fr : Hl} {w : World} {r : SyntaxTree × Fault} (text : ByteArray) (S : St g [] fr w) (hm : syntax_Parse text = some r) :
  Calls Try.prog 10 [.string text].toArray w (fun en w' => ∃ v, en = .returned v ∧ ∃ (g' : Gh) (v1 : Value) (c1 : Hl), Le g g' ∧ St g' [c1] fr w' ∧ OwnS g' r.1.Nodes v1 c1 ∧ .tuple #[.agg #[v1], .agg #[.i6 r.2.Code, .i6 r.2.Index]] = v) := by
 unfold syntax_Parse at hm
 refine calls_enter (fn := Try.f10) Try.func10 rfl Try.ntmps10 (lb rfl) ?_
 intro a F
 replace F : Fr 41 a [(0, .string text)] := F
 refine wp_seq ?_
 refine wp_region_lit ?_
 refine wl_alloc (wn rfl) rfl tz24 (cs := [nilS]) rfl F S rfl rfl ?_; clear F a S; rintro b1 a w F S
 refine wl_alloc (wn rfl) rfl tz26 (cs := [.i6 0, .i6 0]) rfl F S rfl rfl ?_; clear F a S; rintro b2 a w F S
 refine wpList_nil ?_
 refine then_n ?_
 refine wp_seq ?_
 refine wp_seq ?_
 refine wp_region_lit ?_
 refine wE (ev_move rfl) F S rfl fun a F=>?_
 refine wE (ev_lenS rfl tu9) F S rfl fun a F=>?_
 refine wE (ev_int rfl rfl (bo_gtr _ _ _ _)) F S rfl fun a F=>?_
 refine wpList_nil ?_
 refine then_n ?_
 obtain ⟨hc1, hm⟩ | ⟨hc1, hm⟩ := ite_or hm
 ·refine wp_condT F rfl hc1 ?_
  refine wp_seq ?_
  refine wp_region_lit ?_
  refine wE (ev_build (parts := []) (vs := []) rfl (fun w => tb24_  w)) F S rfl fun a F=>?_
  refine wE (ev_build (parts := [(0, .const (.i6 2)), (1, .const (.i6 (-1)))]) (vs := [(0, .i6 2), (1, .i6 (-1))]) rfl (fun w => tb26_0_1 2 (-1) w)) F S rfl fun a F=>?_
  refine wl_storeC (wn rfl) rfl F S rfl rfl (vs := [nilS]) rfl ts24 (one_cons rfl one_nil) (k := 1) rfl (lb rfl) (c' := #[nilS]) rfl rfl ?_; clear S; intro w S
  refine wl_storeC (wn rfl) rfl F S rfl rfl (vs := [.i6 2, .i6 (-1)]) rfl ts26 (one_cons rfl (one_cons rfl one_nil)) (k := 0) rfl (lb rfl) (c' := #[.i6 2, .i6 (-1)]) rfl rfl ?_; clear S; intro w S
  refine wpList_nil ?_
  refine then_n ?_
  refine wp_ret ?_
  refine then_r ?_
  obtain rfl := sinj hm
  replace S : St g [[], [bx b2 #[.i6 2, .i6 (-1)] 26], [bx b1 #[nilS] 24]] fr w := S
  refine post_r _ F rfl (ar_cons (resA rfl tu24 rfl (box_ptr (cells := [nilS]) 2 rfl 0 rfl (lb rfl) w S) ts24) (ar_cons (resA rfl tu26 rfl (box_ptr (cells := [.i6 2, .i6 (-1)]) 1 rfl 0 rfl (lb rfl) w S) ts26) ar_nil)) ?_
  replace S : St g [[]] fr w := St.tail [[]] _ (S.frontC 0 rfl)
  exact ⟨_, rfl, g, (nilS), [], (Le.refl _), S, (OwnS.nil _), rfl⟩
 ·refine wp_condF F rfl hc1 ?_
  refine wp_skip ?_
  refine then_n ?_
  refine wp_seq ?_
  refine wp_region_lit ?_
  refine wE (ev_move rfl) F S rfl fun a F=>?_
  refine wE (ev_build (parts := [(0, .tmp 11)]) (vs := [(0, .string text)]) rfl (fun w => tb44_0 text w)) F S rfl fun a F=>?_
  refine wl_alloc (wn rfl) rfl tz44 (cs := [.string ByteArray.empty, .i6 0, nilS]) rfl F S rfl rfl ?_; clear F a S; rintro b3 a w F S
  refine wl_storeC (wn rfl) rfl F S rfl rfl (vs := [.string text, .i6 0, nilS]) rfl ts44 (one_cons rfl (one_cons rfl (one_cons rfl one_nil))) (k := 0) rfl (lb rfl) (c' := #[.string text, .i6 0, nilS]) rfl rfl ?_; clear S; intro w S
  refine wpList_nil ?_
  refine then_n ?_
  refine wp_seq ?_
  refine wp_seq ?_
  refine wp_region_lit ?_
  replace S : St g [[], [bx b3 #[.string text, .i6 0, nilS] 44], [bx b2 #[.i6 0, .i6 0] 26], [bx b1 #[nilS] 24]] fr w := S
  replace S : St g [[bx b3 #[.string text, .i6 0, nilS] 44], [], [bx b2 #[.i6 0, .i6 0] 26], [bx b1 #[nilS] 24]] fr w := ((((S.frontC 3 rfl).frontC 3 rfl).frontC 2 rfl).frontC 4 rfl)
  obtain ⟨y1, hy1, hm⟩ := bind_some hm
  refine wl_call0 (wn rfl) rfl F rfl (syntax_reader__node_ok (fr := (fl [[bx b2 #[.i6 0, .i6 0] 26], [bx b1 #[nilS] 24]] fr)) b3 ({ text := text, at_ := 0, nodes := [] } : Reader_syntax) (nilS) [] (OwnS.nil _) 0 S hy1) rfl tc21 rfl rfl ?_; clear F a S
  rintro _ a w ⟨g1, v1, c1, l1, S, h1, rfl⟩ F; replace S : St g1 [[bx b3 #[.string y1.2.text, .i6 y1.2.at_, v1] 44], c1, [bx b2 #[.i6 0, .i6 0] 26], [bx b1 #[nilS] 24]] fr w := S
  refine wE (ev_assign rfl) F S rfl fun a F=>?_
  refine wpList_nil ?_
  refine then_n ?_
  refine wp_seq ?_
  refine wp_region_lit ?_
  refine wE (ev_move rfl) F S rfl fun a F=>?_
  refine wE (ev_int rfl rfl (bo_neq _ _ _ _)) F S rfl fun a F=>?_
  refine wpList_nil ?_
  refine then_n ?_
  obtain ⟨hc2, hm⟩ | ⟨hc2, hm⟩ := ite_or hm
  ·refine wp_condT F rfl hc2 ?_
   refine wp_seq ?_
   refine wp_dv [] mo S ?_; clear S; intro ok1 w S
   refine dv_et ok1 0 rfl (ev_build (parts := []) (vs := []) rfl (fun w => tb24_  w)) F rfl fun a F=>?_
   refine dv_et ok1 1 rfl (ev_move rfl) F rfl fun a F=>?_
   refine dv_et ok1 2 rfl (ev_fieldAddr' tu44 tf44_1 (z := 0) ts3 rfl ⟨_, rfl⟩ rfl) F rfl fun a F=>?_
   refine dv_ev ok1 3 rfl (ev_load1 tu3 rfl rfl (box_ptr (cells := [.i6 y1.2.at_]) 0 rfl 1 rfl (lb rfl))) F S rfl fun a F=>?_
   refine dv_et ok1 4 rfl (ev_build (parts := [(0, .tmp 17), (1, .tmp 19)]) (vs := [(0, .i6 y1.1), (1, .i6 y1.2.at_)]) rfl (fun w => tb26_0_1 y1.1 y1.2.at_ w)) F rfl fun a F=>?_
   refine dv_op ok1 5 rfl [(3, .i6 y1.2.at_)] ?_
   refine wl_storeC (wn rfl) rfl F S rfl rfl (vs := [nilS]) rfl ts24 (one_cons rfl one_nil) (k := 3) rfl (lb rfl) (c' := #[nilS]) rfl rfl ?_; clear S; intro w S
   refine dv_nx ⟨yl_ev rfl rfl (ev_load1 tu3 rfl rfl (box_ptr (cells := [.i6 y1.2.at_]) 0 rfl 1 rfl (lb rfl))) F S, trivial⟩ ?_
   refine dv_op ok1 6 rfl [] ?_
   refine wl_storeC (wn rfl) rfl F S rfl rfl (vs := [.i6 y1.1, .i6 y1.2.at_]) rfl ts26 (one_cons rfl (one_cons rfl one_nil)) (k := 2) rfl (lb rfl) (c' := #[.i6 y1.1, .i6 y1.2.at_]) rfl rfl ?_; clear S; intro w S
   refine dv_nx trivial ?_
   refine dv_fin ok1 ?_
   refine then_n ?_
   refine wp_ret ?_
   refine then_r ?_
   obtain rfl := sinj hm
   replace S : St g1 [[], [bx b3 #[.string y1.2.text, .i6 y1.2.at_, v1] 44], c1, [bx b2 #[.i6 y1.1, .i6 y1.2.at_] 26], [bx b1 #[nilS] 24]] fr w := S
   refine post_r _ F rfl (ar_cons (resA rfl tu24 rfl (box_ptr (cells := [nilS]) 4 rfl 0 rfl (lb rfl) w S) ts24) (ar_cons (resA rfl tu26 rfl (box_ptr (cells := [.i6 y1.1, .i6 y1.2.at_]) 3 rfl 0 rfl (lb rfl) w S) ts26) ar_nil)) ?_
   replace S : St g1 [[]] fr w := St.tail [[]] _ (S.frontC 0 rfl)
   exact ⟨_, rfl, g1, (nilS), [], l1, S, (OwnS.nil _), rfl⟩
  ·refine wp_condF F rfl hc2 ?_
   refine wp_skip ?_
   refine then_n ?_
   refine wp_seq ?_
   refine wp_seq ?_
   refine wp_region_lit ?_
   obtain ⟨y2, hy2, hm⟩ := bind_some hm
   refine wl_call0 (wn rfl) rfl F rfl (syntax_reader__blanks_ok (fr := (fl [[bx b2 #[.i6 0, .i6 0] 26], [bx b1 #[nilS] 24]] fr)) b3 y1.2 v1 c1 h1 S hy2) rfl tc22 rfl rfl ?_; clear F a S
   rintro _ a w ⟨g2, v2, c2, l2, S, h2, rfl⟩ F; replace S : St g2 [[bx b3 #[.string y2.text, .i6 y2.at_, v2] 44], c2, [bx b2 #[.i6 0, .i6 0] 26], [bx b1 #[nilS] 24]] fr w := S
   refine wpList_nil ?_
   refine then_n ?_
   refine wp_seq ?_
   refine wp_region_lit ?_
   refine wE (ev_fieldAddr' tu44 tf44_1 (z := 0) ts3 rfl ⟨_, rfl⟩ rfl) F S rfl fun a F=>?_
   refine wE (ev_load1 tu3 rfl rfl (box_ptr (cells := [.i6 y2.at_]) 0 rfl 1 rfl (lb rfl))) F S rfl fun a F=>?_
   refine wE (ev_move rfl) F S rfl fun a F=>?_
   refine wE (ev_lenS rfl tu9) F S rfl fun a F=>?_
   refine wE (ev_int rfl rfl (bo_lss _ _ _ _)) F S rfl fun a F=>?_
   refine wpList_nil ?_
   refine then_n ?_
   obtain ⟨hc3, hm⟩ | ⟨hc3, hm⟩ := ite_or hm
   ·refine wp_condT F rfl hc3 ?_
    refine wp_seq ?_
    refine wp_dv [] mo S ?_; clear S; intro ok2 w S
    refine dv_et ok2 0 rfl (ev_build (parts := []) (vs := []) rfl (fun w => tb24_  w)) F rfl fun a F=>?_
    refine dv_et ok2 1 rfl (ev_fieldAddr' tu44 tf44_1 (z := 0) ts3 rfl ⟨_, rfl⟩ rfl) F rfl fun a F=>?_
    refine dv_ev ok2 2 rfl (ev_load1 tu3 rfl rfl (box_ptr (cells := [.i6 y2.at_]) 0 rfl 1 rfl (lb rfl))) F S rfl fun a F=>?_
    refine dv_et ok2 3 rfl (ev_build (parts := [(0, .const (.i6 1)), (1, .tmp 29)]) (vs := [(0, .i6 1), (1, .i6 y2.at_)]) rfl (fun w => tb26_0_1 1 y2.at_ w)) F rfl fun a F=>?_
    refine dv_op ok2 4 rfl [(2, .i6 y2.at_)] ?_
    refine wl_storeC (wn rfl) rfl F S rfl rfl (vs := [nilS]) rfl ts24 (one_cons rfl one_nil) (k := 3) rfl (lb rfl) (c' := #[nilS]) rfl rfl ?_; clear S; intro w S
    refine dv_nx ⟨yl_ev rfl rfl (ev_load1 tu3 rfl rfl (box_ptr (cells := [.i6 y2.at_]) 0 rfl 1 rfl (lb rfl))) F S, trivial⟩ ?_
    refine dv_op ok2 5 rfl [] ?_
    refine wl_storeC (wn rfl) rfl F S rfl rfl (vs := [.i6 1, .i6 y2.at_]) rfl ts26 (one_cons rfl (one_cons rfl one_nil)) (k := 2) rfl (lb rfl) (c' := #[.i6 1, .i6 y2.at_]) rfl rfl ?_; clear S; intro w S
    refine dv_nx trivial ?_
    refine dv_fin ok2 ?_
    refine then_n ?_
    refine wp_ret ?_
    refine then_r ?_
    obtain rfl := sinj hm
    replace S : St g2 [[], [bx b3 #[.string y2.text, .i6 y2.at_, v2] 44], c2, [bx b2 #[.i6 1, .i6 y2.at_] 26], [bx b1 #[nilS] 24]] fr w := S
    refine post_r _ F rfl (ar_cons (resA rfl tu24 rfl (box_ptr (cells := [nilS]) 4 rfl 0 rfl (lb rfl) w S) ts24) (ar_cons (resA rfl tu26 rfl (box_ptr (cells := [.i6 1, .i6 y2.at_]) 3 rfl 0 rfl (lb rfl) w S) ts26) ar_nil)) ?_
    replace S : St g2 [[]] fr w := St.tail [[]] _ (S.frontC 0 rfl)
    exact ⟨_, rfl, g2, (nilS), [], (l1.trans l2), S, (OwnS.nil _), rfl⟩
   ·refine wp_condF F rfl hc3 ?_
    refine wp_skip ?_
    refine then_n ?_
    refine wp_seq ?_
    refine wp_seq ?_
    refine wp_region_lit ?_
    refine wE (ev_fieldAddr' tu44 tf44_2 (z := 0) ts22 rfl ⟨_, rfl⟩ rfl) F S rfl fun a F=>?_
    refine wE (ev_load1 tu22 rfl rfl (box_ptr (cells := [v2]) 0 rfl 2 rfl (lb rfl))) F S rfl fun a F=>?_
    refine wE (ev_lenOw h2 rfl tu22) F S rfl fun a F=>?_
    refine wE (ev_int rfl rfl (bo_gtr _ _ _ _)) F S rfl fun a F=>?_
    refine wpList_nil ?_
    refine then_n ?_
    obtain ⟨hc4, hm⟩ | ⟨hc4, hm⟩ := ite_or hm
    ·refine wp_condT F rfl hc4 ?_
     refine wp_seq ?_
     refine wp_region_lit ?_
     refine wE (ev_build (parts := []) (vs := []) rfl (fun w => tb24_  w)) F S rfl fun a F=>?_
     refine wE (ev_build (parts := [(0, .const (.i6 10)), (1, .const (.i6 (-1)))]) (vs := [(0, .i6 10), (1, .i6 (-1))]) rfl (fun w => tb26_0_1 10 (-1) w)) F S rfl fun a F=>?_
     refine wl_storeC (wn rfl) rfl F S rfl rfl (vs := [nilS]) rfl ts24 (one_cons rfl one_nil) (k := 3) rfl (lb rfl) (c' := #[nilS]) rfl rfl ?_; clear S; intro w S
     refine wl_storeC (wn rfl) rfl F S rfl rfl (vs := [.i6 10, .i6 (-1)]) rfl ts26 (one_cons rfl (one_cons rfl one_nil)) (k := 2) rfl (lb rfl) (c' := #[.i6 10, .i6 (-1)]) rfl rfl ?_; clear S; intro w S
     refine wpList_nil ?_
     refine then_n ?_
     refine wp_ret ?_
     refine then_r ?_
     obtain rfl := sinj hm
     replace S : St g2 [[], [bx b3 #[.string y2.text, .i6 y2.at_, v2] 44], c2, [bx b2 #[.i6 10, .i6 (-1)] 26], [bx b1 #[nilS] 24]] fr w := S
     refine post_r _ F rfl (ar_cons (resA rfl tu24 rfl (box_ptr (cells := [nilS]) 4 rfl 0 rfl (lb rfl) w S) ts24) (ar_cons (resA rfl tu26 rfl (box_ptr (cells := [.i6 10, .i6 (-1)]) 3 rfl 0 rfl (lb rfl) w S) ts26) ar_nil)) ?_
     replace S : St g2 [[]] fr w := St.tail [[]] _ (S.frontC 0 rfl)
     exact ⟨_, rfl, g2, (nilS), [], (l1.trans l2), S, (OwnS.nil _), rfl⟩
    ·refine wp_condF F rfl hc4 ?_
     refine wp_skip ?_
     refine then_n ?_
     refine wp_seq ?_
     refine wp_region_lit ?_
     refine wE (ev_fieldAddr' tu44 tf44_2 (z := 0) ts22 rfl ⟨_, rfl⟩ rfl) F S rfl fun a F=>?_
     refine wE (ev_load1 tu22 rfl rfl (box_ptr (cells := [v2]) 0 rfl 2 rfl (lb rfl))) F S rfl fun a F=>?_
     refine wE (ev_build (parts := [(0, .tmp 38)]) (vs := [(0, v2)]) rfl (fun w => tb24_0 v2 (OwnS.isSl h2) w)) F S rfl fun a F=>?_
     refine wE (ev_build (parts := []) (vs := []) rfl (fun w => tb26_  w)) F S rfl fun a F=>?_
     refine wl_storeC (wn rfl) rfl F S rfl rfl (vs := [v2]) rfl ts24 (one_cons (OwnS.one h2) one_nil) (k := 3) rfl (lb rfl) (c' := #[v2]) rfl rfl ?_; clear S; intro w S
     refine wl_storeC (wn rfl) rfl F S rfl rfl (vs := [.i6 0, .i6 0]) rfl ts26 (one_cons rfl (one_cons rfl one_nil)) (k := 2) rfl (lb rfl) (c' := #[.i6 0, .i6 0]) rfl rfl ?_; clear S; intro w S
     refine wpList_nil ?_
     refine then_n ?_
     refine wp_ret ?_
     obtain rfl := sinj hm
     refine post_r _ F rfl (ar_cons (resA rfl tu24 rfl (box_ptr (cells := [v2]) 3 rfl 0 rfl (lb rfl) w S) ts24) (ar_cons (resA rfl tu26 rfl (box_ptr (cells := [.i6 0, .i6 0]) 2 rfl 0 rfl (lb rfl) w S) ts26) ar_nil)) ?_
     replace S : St g2 [c2] fr w := St.tail [c2] _ (S.frontC 1 rfl)
     exact ⟨_, rfl, g2, v2, c2, (l1.trans l2), S, h2, rfl⟩

theorem syntax_isLabel_ok {g : Gh} {fr : Hl} {w : World} {r : Bool} (s_ : ByteArray) (S : St g [] fr w) (hm : syntax_isLabel s_ = some r) :
  Calls Try.prog 27 [.string s_].toArray w (fun en w' => ∃ v, en = .returned v ∧ ∃ (g' : Gh), Le g g' ∧ St g' [] fr w' ∧ .bool r = v) := by
 unfold syntax_isLabel at hm
 refine calls_enter (fn := Try.f27) Try.func27 rfl Try.ntmps27 (lb rfl) ?_
 intro a F
 replace F : Fr 23 a [(0, .string s_)] := F
 refine wp_seq ?_
 refine wp_region_lit ?_
 refine wE (ev_assign rfl) F S rfl fun a F=>?_
 refine wpList_nil ?_
 refine then_n ?_
 refine wp_cut (fun a w => ∃ (g1 : Gh), Fr 23 a [(0, .string s_)] ∧ Le g g1 ∧ St g1 [] fr w ∧ syntax_isLabel.j1 s_ = some r) ?_ ?_
 ·refine wp_seq ?_
  refine wp_region_lit ?_
  refine wE (ev_move rfl) F S rfl fun a F=>?_
  refine wE (ev_lenS rfl tu9) F S rfl fun a F=>?_
  refine wE (ev_move rfl) F S rfl fun a F=>?_
  refine wpList_nil ?_
  refine then_n ?_
  refine wp_block ?_
  obtain ⟨r1, hr1, hm⟩ := bind_some hm
  have hmo1 := hm; clear hm
  refine wp_iter (σ := Int) (ρ := Bool ⊕ Unit) (m := fun s => syntax_isLabel.l1 s_ s) (I := fun x2 a w => ∃ (g2 : Gh), Fr 23 a [(6, .i6 x2), (5, .i6 (s_.size : Int)), (0, .string s_)] ∧ Le g g2 ∧ St g2 [] fr w) hr1 ?_ ?_
  ·exact ⟨g, F.sub ⟨rfl, rfl, rfl, trivial⟩, (Le.refl _), S⟩
  ·clear F S; rintro x2 a w x3 ⟨g2, F, l2, S⟩ hx2 hfin1
   have hm : syntax_isLabel.l1 s_ x2 = some x3 := hx2; clear hx2
   unfold syntax_isLabel.l1 at hm
   refine wp_seq ?_
   refine wp_region_lit ?_
   refine wE (ev_int rfl rfl (bo_lss _ _ _ _)) F S rfl fun a F=>?_
   refine wpList_nil ?_
   refine then_n ?_
   refine wp_seq ?_
   obtain ⟨hc2, hm⟩ | ⟨hc2, hm⟩ := ite_or hm
   ·refine wp_condT F rfl hc2 ?_
    refine wp_skip ?_
    refine then_n ?_
    refine wp_seq ?_
    refine wp_block ?_
    refine wp_seq ?_
    refine wp_region_lit ?_
    refine wE (ev_move rfl) F S rfl fun a F=>?_
    refine wE (ev_assign rfl) F S rfl fun a F=>?_
    refine wpList_nil ?_
    refine then_n ?_
    refine wp_seq ?_
    refine wp_region_lit ?_
    refine wE (ev_move rfl) F S rfl fun a F=>?_
    refine wE (ev_move rfl) F S rfl fun a F=>?_
    obtain ⟨y1, hy1, hm⟩ := bind_some hm
    refine wE (ev_sAt hy1 tu9 rfl rfl) F S rfl fun a F=>?_
    obtain ⟨y2, hy2, hm⟩ := bind_some hm
    refine wl_call0 (wn rfl) rfl F rfl (syntax_labelByte_ok y1 S hy2) rfl tc32 rfl rfl ?_; clear F a S
    rintro _ a w ⟨g3, l3, S, rfl⟩ F; replace S : St g3 [] fr w := S
    refine wE (ev_not rfl) F S rfl fun a F=>?_
    refine wpList_nil ?_
    refine then_n ?_
    obtain ⟨hc3, hm⟩ | ⟨hc3, hm⟩ := ite_or hm
    ·refine wp_condT F rfl hc3 ?_
     refine wp_seq ?_
     refine wp_region_lit ?_
     refine wE (ev_assign rfl) F S rfl fun a F=>?_
     refine wpList_nil ?_
     refine then_n ?_
     refine wp_ret ?_
     refine inb_r ?_
     refine then_r ?_
     refine then_r ?_
     refine inb_r ?_
     refine then_r ?_
     obtain rfl := sinj hm
     obtain rfl := hfin1 _ rfl
     clear hm
     have hm : (some false : Option Bool) = some _ := hmo1
     obtain rfl := sinj hm
     refine post_r _ F rfl (ar_cons (resT rfl) ar_nil) ?_
     exact ⟨_, rfl, g3, (l2.trans l3), S, rfl⟩
    ·refine wp_condF F rfl hc3 ?_
     refine wp_skip ?_
     refine inb_n ?_
     refine then_n ?_
     refine wp_region_lit ?_
     obtain ⟨z1, hz1, hm⟩ := bind_some hm
     refine wE (ev_int rfl rfl (bo_add hz1)) F S rfl fun a F=>?_
     refine wE (ev_move rfl) F S rfl fun a F=>?_
     refine wpList_nil ?_
     refine then_n ?_
     obtain rfl := sinj hm
     refine ⟨_, rfl, ?_⟩
     exact ⟨g3, F.sub ⟨rfl, rfl, rfl, trivial⟩, (l2.trans l3), S⟩
   ·refine wp_condF F rfl hc2 ?_
    refine wp_exit ?_
    refine then_e ?_
    refine then_e ?_
    refine inb_x ?_
    refine then_n ?_
    obtain rfl := sinj hm
    obtain rfl := hfin1 _ rfl
    clear hm
    have hm : (syntax_isLabel.j1 s_ : Option Bool) = some _ := hmo1
    exact ⟨g2, F.sub ⟨rfl, trivial⟩, l2, S, hm⟩
 ·clear F S hm; rintro a w ⟨g1, F, l1, S, hm⟩
  refine wp_seq ?_
  refine wp_region_lit ?_
  refine wE (ev_move rfl) F S rfl fun a F=>?_
  refine wE (ev_lenS rfl tu9) F S rfl fun a F=>?_
  refine wE (ev_int rfl rfl (bo_geq _ _ _ _)) F S rfl fun a F=>?_
  refine wE (ev_move rfl) F S rfl fun a F=>?_
  obtain ⟨x1, hx1, hm⟩ := bind_some hm
  refine wl_cut 4 (fun a w' => w = w' ∧ Fr 23 a [(22, .bool x1)]) ?_ ?_
  ·clear hm; obtain ⟨hc1, hm⟩ | ⟨hc1, hm⟩ := ite_or hx1
   ·refine wl_ev (wg F rfl rfl rfl rfl hc1) (ev_move rfl) F S rfl rfl ?_; clear F a; intro a F
    refine wl_ev (wg F rfl rfl rfl rfl hc1) (ev_lenS rfl tu9) F S rfl rfl ?_; clear F a; intro a F
    refine wl_ev (wg F rfl rfl rfl rfl hc1) (ev_int rfl rfl (bo_leq _ _ _ _)) F S rfl rfl ?_; clear F a; intro a F
    refine wE (ev_pickT rfl hc1 rfl) F S rfl fun a F=>?_
    obtain rfl := sinj hm
    refine wpList_nil (then_n ?_); exact ⟨rfl, F.sub ⟨rfl, trivial⟩⟩
   ·refine wl_skip rfl rfl rfl rfl (ne_tf hc1) F rfl rfl ?_; clear F a; intro a F
    refine wl_skip rfl rfl rfl rfl (ne_tf hc1) F rfl rfl ?_; clear F a; intro a F
    refine wl_skip rfl rfl rfl rfl (ne_tf hc1) F rfl rfl ?_; clear F a; intro a F
    refine wE (ev_pickF rfl hc1 rfl) F S rfl fun a F=>?_
    obtain rfl := sinj hm
    refine wpList_nil (then_n ?_); exact ⟨rfl, F.sub ⟨rfl, trivial⟩⟩
  clear F; rintro a w' ⟨rfl, F⟩
  refine wE (ev_assign rfl) F S rfl fun a F=>?_
  refine wpList_nil ?_
  refine then_n ?_
  refine wp_ret ?_
  obtain rfl := sinj hm
  refine post_r _ F rfl (ar_cons (resT rfl) ar_nil) ?_
  exact ⟨_, rfl, g1, l1, S, rfl⟩
end Go.Dc
