/- Walks: each function comes to what its model says. -/
import Derived.Test.YtmhjcomgbfonfaaGreatDoorDcTab
import Derived.Test.YtmhjcomgbfonfaaGreatDoorDcM
namespace Go.Dc
open Go Go.Proofs
set_option maxRecDepth 100000
set_option maxHeartbeats 4000000
set_option linter.unusedVariables false
theorem stringslite_IndexByte_ok {g : Gh} {fr : Hl} {w : World} {r : Int} (s_ : ByteArray) (c_ : Int) (S : St g [] fr w) (hm : stringslite_IndexByte s_ c_ = some r) :
  Calls Tryz.prog 212 [.string s_, .int .u8 c_].toArray w (fun en w' => ∃ v, en = .returned v ∧ ∃ (g' : Gh), Le g g' ∧ St g' [] fr w' ∧ .i6 r = v) := by
 unfold stringslite_IndexByte at hm
 refine calls_enter (fn := Tryz.f212) Tryz.func212 rfl Tryz.ntmps212 (lb rfl) ?_
 intro a F
 replace F : Fr 8 a [(0, .string s_), (1, .int .u8 c_)] := F
 refine wp_seq ?_
 refine wp_region_lit ?_
 refine wE (ev_assign rfl) F S rfl fun a F=>?_
 refine wpList_nil ?_
 refine then_n ?_
 refine wp_seq ?_
 refine wp_region_lit ?_
 refine wE (ev_move rfl) F S rfl fun a F=>?_
 refine wE (ev_move rfl) F S rfl fun a F=>?_
 refine wE (ev_callx (xs := [.tmp 5, .tmp 6]) (vs := [.string s_, .int .u8 c_]) rfl rfl (fun w => tx236 s_ c_ w)) F S rfl fun a F=>?_
 refine wE (ev_assign rfl) F S rfl fun a F=>?_
 refine wpList_nil ?_
 refine then_n ?_
 refine wp_ret ?_
 obtain rfl := sinj hm
 refine post_r _ F rfl (ar_cons (resT rfl) ar_nil) ?_
 exact ⟨_, rfl, g, (Le.refl _), S, rfl⟩

theorem stringslite_Index_ok {g : Gh} {fr : Hl} {w : World} {r : Int} (s_ : ByteArray) (S : St g [] fr w) (hm : stringslite_Index s_ = some r) :
  Calls Tryz.prog 235 [.string s_, .string (⟨#[47]⟩ : ByteArray)].toArray w (fun en w' => ∃ v, en = .returned v ∧ ∃ (g' : Gh), Le g g' ∧ St g' [] fr w' ∧ .i6 r = v) := by
 unfold stringslite_Index at hm
 refine calls_enter (fn := Tryz.f235) Tryz.func235 rfl Tryz.ntmps235 (lb rfl) ?_
 intro a F
 replace F : Fr 143 a [(0, .string s_), (1, .string (⟨#[47]⟩ : ByteArray))] := F
 refine wp_seq ?_
 refine wp_region_lit ?_
 refine wE (ev_assign rfl) F S rfl fun a F=>?_
 refine wpList_nil ?_
 refine then_n ?_
 refine wp_seq ?_
 refine wp_region_lit ?_
 refine wE (ev_move rfl) F S rfl fun a F=>?_
 refine wE (ev_lenS rfl tu9) F S rfl fun a F=>?_
 refine wE (ev_assign rfl) F S rfl fun a F=>?_
 refine wpList_nil ?_
 refine then_n ?_
 refine wp_seq ?_
 refine wp_block ?_
 refine wp_seq ?_
 refine wp_region_lit ?_
 refine wE (ev_move rfl) F S rfl fun a F=>?_
 refine wE (ev_int rfl rfl (bo_eql _ _ _ _)) F S rfl fun a F=>?_
 refine wE (ev_move rfl) F S rfl fun a F=>?_
 refine wl_ev (wg F rfl rfl rfl rfl rfl) (ev_move rfl) F S rfl rfl ?_; clear F a; intro a F
 refine wl_ev (wg F rfl rfl rfl rfl rfl) (ev_move rfl) F S rfl rfl ?_; clear F a; intro a F
 refine wl_ev (wg F rfl rfl rfl rfl rfl) (ev_str rfl rfl (bs_eql _ _ _)) F S rfl rfl ?_; clear F a; intro a F
 refine wE (ev_pickF rfl rfl rfl) F S rfl fun a F=>?_
 refine wE (ev_assign rfl) F S rfl fun a F=>?_
 refine wpList_nil ?_
 refine then_n ?_
 obtain ⟨hc1, hm⟩ | ⟨hc1, hm⟩ := ite_or hm
 ·refine wp_condT F rfl hc1 ?_
  refine wp_seq ?_
  refine wp_region_lit ?_
  refine wE (ev_assign rfl) F S rfl fun a F=>?_
  refine wpList_nil ?_
  refine then_n ?_
  refine wp_ret ?_
  refine inb_r ?_
  refine then_r ?_
  obtain rfl := sinj hm
  refine post_r _ F rfl (ar_cons (resT rfl) ar_nil) ?_
  exact ⟨_, rfl, g, (Le.refl _), S, rfl⟩
 ·refine wp_condF F rfl hc1 ?_
  refine wp_seq ?_
  refine wp_region_lit ?_
  refine wE (ev_move rfl) F S rfl fun a F=>?_
  refine wE (ev_int rfl rfl (bo_eql _ _ _ _)) F S rfl fun a F=>?_
  refine wE (ev_assign rfl) F S rfl fun a F=>?_
  refine wpList_nil ?_
  refine then_n ?_
  refine wp_condT F rfl rfl ?_
  refine wp_seq ?_
  refine wp_region_lit ?_
  refine wE (ev_move rfl) F S rfl fun a F=>?_
  refine wE (ev_move rfl) F S rfl fun a F=>?_
  obtain ⟨y1, hy1, hm⟩ := bind_some hm
  refine wE (ev_sAt hy1 tu9 rfl rfl) F S rfl fun a F=>?_
  obtain ⟨y2, hy2, hm⟩ := bind_some hm
  refine wl_call0 (wn rfl) rfl F rfl (stringslite_IndexByte_ok s_ y1 S hy2) rfl tc212 rfl rfl ?_; clear F a S
  rintro _ a w ⟨g1, l1, S, rfl⟩ F; replace S : St g1 [] fr w := S
  refine wE (ev_assign rfl) F S rfl fun a F=>?_
  refine wpList_nil ?_
  refine then_n ?_
  refine wp_ret ?_
  refine inb_r ?_
  refine then_r ?_
  obtain rfl := sinj hm
  refine post_r _ F rfl (ar_cons (resT rfl) ar_nil) ?_
  exact ⟨_, rfl, g1, l1, S, rfl⟩

theorem strings_Index_ok {g : Gh} {fr : Hl} {w : World} {r : Int} (s_ : ByteArray) (S : St g [] fr w) (hm : strings_Index s_ = some r) :
  Calls Tryz.prog 211 [.string s_, .string (⟨#[47]⟩ : ByteArray)].toArray w (fun en w' => ∃ v, en = .returned v ∧ ∃ (g' : Gh), Le g g' ∧ St g' [] fr w' ∧ .i6 r = v) := by
 unfold strings_Index at hm
 refine calls_enter (fn := Tryz.f211) Tryz.func211 rfl Tryz.ntmps211 (lb rfl) ?_
 intro a F
 replace F : Fr 8 a [(0, .string s_), (1, .string (⟨#[47]⟩ : ByteArray))] := F
 refine wp_seq ?_
 refine wp_region_lit ?_
 refine wE (ev_assign rfl) F S rfl fun a F=>?_
 refine wpList_nil ?_
 refine then_n ?_
 refine wp_seq ?_
 refine wp_region_lit ?_
 refine wE (ev_move rfl) F S rfl fun a F=>?_
 refine wE (ev_move rfl) F S rfl fun a F=>?_
 obtain ⟨y1, hy1, hm⟩ := bind_some hm
 refine wl_call0 (wn rfl) rfl F rfl (stringslite_Index_ok s_ S hy1) rfl tc235 rfl rfl ?_; clear F a S
 rintro _ a w ⟨g1, l1, S, rfl⟩ F; replace S : St g1 [] fr w := S
 refine wE (ev_assign rfl) F S rfl fun a F=>?_
 refine wpList_nil ?_
 refine then_n ?_
 refine wp_ret ?_
 obtain rfl := sinj hm
 refine post_r _ F rfl (ar_cons (resT rfl) ar_nil) ?_
 exact ⟨_, rfl, g1, l1, S, rfl⟩

theorem treepatch_Letter_ok {g : Gh} {fr : Hl} {w : World} {r : Bool} (c_ : Int) (S : St g [] fr w) (hm : treepatch_Letter c_ = some r) :
  Calls Tryz.prog 107 [.int .u8 c_].toArray w (fun en w' => ∃ v, en = .returned v ∧ ∃ (g' : Gh), Le g g' ∧ St g' [] fr w' ∧ .bool r = v) := by
 unfold treepatch_Letter at hm
 refine calls_enter (fn := Tryz.f107) Tryz.func107 rfl Tryz.ntmps107 (lb rfl) ?_
 intro a F
 replace F : Fr 37 a [(0, .int .u8 c_)] := F
 refine wp_seq ?_
 refine wp_region_lit ?_
 refine wE (ev_assign rfl) F S rfl fun a F=>?_
 refine wpList_nil ?_
 refine then_n ?_
 refine wp_seq ?_
 refine wp_region_lit ?_
 refine wE (ev_move rfl) F S rfl fun a F=>?_
 refine wE (ev_int rfl rfl (bo_geq _ _ _ _)) F S rfl fun a F=>?_
 refine wE (ev_move rfl) F S rfl fun a F=>?_
 obtain ⟨x1, hx1, hm⟩ := bind_some hm
 refine wl_cut 3 (fun a w' => w = w' ∧ Fr 37 a [(8, .bool x1), (2, .bool false), (0, .int .u8 c_)]) ?_ ?_
 ·clear hm; obtain ⟨hc1, hm⟩ | ⟨hc1, hm⟩ := ite_or hx1
  ·refine wl_ev (wg F rfl rfl rfl rfl hc1) (ev_move rfl) F S rfl rfl ?_; clear F a; intro a F
   refine wl_ev (wg F rfl rfl rfl rfl hc1) (ev_int rfl rfl (bo_leq _ _ _ _)) F S rfl rfl ?_; clear F a; intro a F
   refine wE (ev_pickT rfl hc1 rfl) F S rfl fun a F=>?_
   obtain rfl := sinj hm
   refine wpList_nil (then_n ?_); exact ⟨rfl, F.sub ⟨rfl, rfl, rfl, trivial⟩⟩
  ·refine wl_skip rfl rfl rfl rfl (ne_tf hc1) F rfl rfl ?_; clear F a; intro a F
   refine wl_skip rfl rfl rfl rfl (ne_tf hc1) F rfl rfl ?_; clear F a; intro a F
   refine wE (ev_pickF rfl hc1 rfl) F S rfl fun a F=>?_
   obtain rfl := sinj hm
   refine wpList_nil (then_n ?_); exact ⟨rfl, F.sub ⟨rfl, rfl, rfl, trivial⟩⟩
 clear F; rintro a w' ⟨rfl, F⟩
 refine wE (ev_move rfl) F S rfl fun a F=>?_
 obtain ⟨x2, hx2, hm⟩ := bind_some hm
 refine wl_cut 7 (fun a w' => w = w' ∧ Fr 37 a [(16, .bool x2), (2, .bool false), (0, .int .u8 c_)]) ?_ ?_
 ·clear hm; obtain ⟨hc2, hm⟩ | ⟨hc2, hm⟩ := ite_or hx2
  ·refine wl_skip rfl rfl rfl rfl (ne_ft hc2) F rfl rfl ?_; clear F a; intro a F
   refine wl_skip rfl rfl rfl rfl (ne_ft hc2) F rfl rfl ?_; clear F a; intro a F
   refine wl_skip rfl rfl rfl rfl (ne_ft hc2) F rfl rfl ?_; clear F a; intro a F
   refine wl_skipu rfl rfl rfl rfl F rfl rfl ?_; clear F a; intro a F
   refine wl_skipu rfl rfl rfl rfl F rfl rfl ?_; clear F a; intro a F
   refine wl_skip rfl rfl rfl rfl (ne_ft hc2) F rfl rfl ?_; clear F a; intro a F
   refine wE (ev_pickT rfl hc2 rfl) F S rfl fun a F=>?_
   obtain rfl := sinj hm
   refine wpList_nil (then_n ?_); exact ⟨rfl, F.sub ⟨rfl, rfl, rfl, trivial⟩⟩
  ·refine wl_ev (wg F rfl rfl rfl rfl hc2) (ev_move rfl) F S rfl rfl ?_; clear F a; intro a F
   refine wl_ev (wg F rfl rfl rfl rfl hc2) (ev_int rfl rfl (bo_geq _ _ _ _)) F S rfl rfl ?_; clear F a; intro a F
   refine wl_ev (wg F rfl rfl rfl rfl hc2) (ev_move rfl) F S rfl rfl ?_; clear F a; intro a F
   obtain ⟨x3, hx3, hm⟩ := bind_some hm
   refine wl_cut 3 (fun a w' => w = w' ∧ Fr 37 a [(15, .bool x3), (9, .bool x1), (2, .bool false), (0, .int .u8 c_)]) ?_ ?_
   ·clear hm; obtain ⟨hc3, hm⟩ | ⟨hc3, hm⟩ := ite_or hx3
    ·refine wl_ev (wg F rfl rfl rfl rfl hc3) (ev_move rfl) F S rfl rfl ?_; clear F a; intro a F
     refine wl_ev (wg F rfl rfl rfl rfl hc3) (ev_int rfl rfl (bo_leq _ _ _ _)) F S rfl rfl ?_; clear F a; intro a F
     refine wl_ev (wg F rfl rfl rfl rfl hc2) (ev_pickT rfl hc3 rfl) F S rfl rfl ?_; clear F a; intro a F
     obtain rfl := sinj hm
     refine wpList_nil (then_n ?_); exact ⟨rfl, F.sub ⟨rfl, rfl, rfl, rfl, trivial⟩⟩
    ·refine wl_skip rfl rfl rfl rfl (ne_tf hc3) F rfl rfl ?_; clear F a; intro a F
     refine wl_skip rfl rfl rfl rfl (ne_tf hc3) F rfl rfl ?_; clear F a; intro a F
     refine wl_ev (wg F rfl rfl rfl rfl hc2) (ev_pickF rfl hc3 rfl) F S rfl rfl ?_; clear F a; intro a F
     obtain rfl := sinj hm
     refine wpList_nil (then_n ?_); exact ⟨rfl, F.sub ⟨rfl, rfl, rfl, rfl, trivial⟩⟩
   clear F; rintro a w' ⟨rfl, F⟩
   refine wE (ev_pickF rfl hc2 rfl) F S rfl fun a F=>?_
   obtain rfl := sinj hm
   refine wpList_nil (then_n ?_); exact ⟨rfl, F.sub ⟨rfl, rfl, rfl, trivial⟩⟩
 clear F; rintro a w' ⟨rfl, F⟩
 refine wE (ev_move rfl) F S rfl fun a F=>?_
 obtain ⟨x4, hx4, hm⟩ := bind_some hm
 refine wl_cut 7 (fun a w' => w = w' ∧ Fr 37 a [(24, .bool x4), (2, .bool false), (0, .int .u8 c_)]) ?_ ?_
 ·clear hm; obtain ⟨hc4, hm⟩ | ⟨hc4, hm⟩ := ite_or hx4
  ·refine wl_skip rfl rfl rfl rfl (ne_ft hc4) F rfl rfl ?_; clear F a; intro a F
   refine wl_skip rfl rfl rfl rfl (ne_ft hc4) F rfl rfl ?_; clear F a; intro a F
   refine wl_skip rfl rfl rfl rfl (ne_ft hc4) F rfl rfl ?_; clear F a; intro a F
   refine wl_skipu rfl rfl rfl rfl F rfl rfl ?_; clear F a; intro a F
   refine wl_skipu rfl rfl rfl rfl F rfl rfl ?_; clear F a; intro a F
   refine wl_skip rfl rfl rfl rfl (ne_ft hc4) F rfl rfl ?_; clear F a; intro a F
   refine wE (ev_pickT rfl hc4 rfl) F S rfl fun a F=>?_
   obtain rfl := sinj hm
   refine wpList_nil (then_n ?_); exact ⟨rfl, F.sub ⟨rfl, rfl, rfl, trivial⟩⟩
  ·refine wl_ev (wg F rfl rfl rfl rfl hc4) (ev_move rfl) F S rfl rfl ?_; clear F a; intro a F
   refine wl_ev (wg F rfl rfl rfl rfl hc4) (ev_int rfl rfl (bo_geq _ _ _ _)) F S rfl rfl ?_; clear F a; intro a F
   refine wl_ev (wg F rfl rfl rfl rfl hc4) (ev_move rfl) F S rfl rfl ?_; clear F a; intro a F
   obtain ⟨x5, hx5, hm⟩ := bind_some hm
   refine wl_cut 3 (fun a w' => w = w' ∧ Fr 37 a [(23, .bool x5), (17, .bool x2), (2, .bool false), (0, .int .u8 c_)]) ?_ ?_
   ·clear hm; obtain ⟨hc5, hm⟩ | ⟨hc5, hm⟩ := ite_or hx5
    ·refine wl_ev (wg F rfl rfl rfl rfl hc5) (ev_move rfl) F S rfl rfl ?_; clear F a; intro a F
     refine wl_ev (wg F rfl rfl rfl rfl hc5) (ev_int rfl rfl (bo_leq _ _ _ _)) F S rfl rfl ?_; clear F a; intro a F
     refine wl_ev (wg F rfl rfl rfl rfl hc4) (ev_pickT rfl hc5 rfl) F S rfl rfl ?_; clear F a; intro a F
     obtain rfl := sinj hm
     refine wpList_nil (then_n ?_); exact ⟨rfl, F.sub ⟨rfl, rfl, rfl, rfl, trivial⟩⟩
    ·refine wl_skip rfl rfl rfl rfl (ne_tf hc5) F rfl rfl ?_; clear F a; intro a F
     refine wl_skip rfl rfl rfl rfl (ne_tf hc5) F rfl rfl ?_; clear F a; intro a F
     refine wl_ev (wg F rfl rfl rfl rfl hc4) (ev_pickF rfl hc5 rfl) F S rfl rfl ?_; clear F a; intro a F
     obtain rfl := sinj hm
     refine wpList_nil (then_n ?_); exact ⟨rfl, F.sub ⟨rfl, rfl, rfl, rfl, trivial⟩⟩
   clear F; rintro a w' ⟨rfl, F⟩
   refine wE (ev_pickF rfl hc4 rfl) F S rfl fun a F=>?_
   obtain rfl := sinj hm
   refine wpList_nil (then_n ?_); exact ⟨rfl, F.sub ⟨rfl, rfl, rfl, trivial⟩⟩
 clear F; rintro a w' ⟨rfl, F⟩
 refine wE (ev_move rfl) F S rfl fun a F=>?_
 obtain ⟨x6, hx6, hm⟩ := bind_some hm
 refine wl_cut 3 (fun a w' => w = w' ∧ Fr 37 a [(28, .bool x6), (2, .bool false), (0, .int .u8 c_)]) ?_ ?_
 ·clear hm; obtain ⟨hc6, hm⟩ | ⟨hc6, hm⟩ := ite_or hx6
  ·refine wl_skip rfl rfl rfl rfl (ne_ft hc6) F rfl rfl ?_; clear F a; intro a F
   refine wl_skip rfl rfl rfl rfl (ne_ft hc6) F rfl rfl ?_; clear F a; intro a F
   refine wE (ev_pickT rfl hc6 rfl) F S rfl fun a F=>?_
   obtain rfl := sinj hm
   refine wpList_nil (then_n ?_); exact ⟨rfl, F.sub ⟨rfl, rfl, rfl, trivial⟩⟩
  ·refine wl_ev (wg F rfl rfl rfl rfl hc6) (ev_move rfl) F S rfl rfl ?_; clear F a; intro a F
   refine wl_ev (wg F rfl rfl rfl rfl hc6) (ev_int rfl rfl (bo_eql _ _ _ _)) F S rfl rfl ?_; clear F a; intro a F
   refine wE (ev_pickF rfl hc6 rfl) F S rfl fun a F=>?_
   obtain rfl := sinj hm
   refine wpList_nil (then_n ?_); exact ⟨rfl, F.sub ⟨rfl, rfl, rfl, trivial⟩⟩
 clear F; rintro a w' ⟨rfl, F⟩
 refine wE (ev_move rfl) F S rfl fun a F=>?_
 obtain ⟨x7, hx7, hm⟩ := bind_some hm
 refine wl_cut 3 (fun a w' => w = w' ∧ Fr 37 a [(32, .bool x7), (2, .bool false), (0, .int .u8 c_)]) ?_ ?_
 ·clear hm; obtain ⟨hc7, hm⟩ | ⟨hc7, hm⟩ := ite_or hx7
  ·refine wl_skip rfl rfl rfl rfl (ne_ft hc7) F rfl rfl ?_; clear F a; intro a F
   refine wl_skip rfl rfl rfl rfl (ne_ft hc7) F rfl rfl ?_; clear F a; intro a F
   refine wE (ev_pickT rfl hc7 rfl) F S rfl fun a F=>?_
   obtain rfl := sinj hm
   refine wpList_nil (then_n ?_); exact ⟨rfl, F.sub ⟨rfl, rfl, rfl, trivial⟩⟩
  ·refine wl_ev (wg F rfl rfl rfl rfl hc7) (ev_move rfl) F S rfl rfl ?_; clear F a; intro a F
   refine wl_ev (wg F rfl rfl rfl rfl hc7) (ev_int rfl rfl (bo_eql _ _ _ _)) F S rfl rfl ?_; clear F a; intro a F
   refine wE (ev_pickF rfl hc7 rfl) F S rfl fun a F=>?_
   obtain rfl := sinj hm
   refine wpList_nil (then_n ?_); exact ⟨rfl, F.sub ⟨rfl, rfl, rfl, trivial⟩⟩
 clear F; rintro a w' ⟨rfl, F⟩
 refine wE (ev_move rfl) F S rfl fun a F=>?_
 obtain ⟨x8, hx8, hm⟩ := bind_some hm
 refine wl_cut 3 (fun a w' => w = w' ∧ Fr 37 a [(36, .bool x8), (2, .bool false)]) ?_ ?_
 ·clear hm; obtain ⟨hc8, hm⟩ | ⟨hc8, hm⟩ := ite_or hx8
  ·refine wl_skip rfl rfl rfl rfl (ne_ft hc8) F rfl rfl ?_; clear F a; intro a F
   refine wl_skip rfl rfl rfl rfl (ne_ft hc8) F rfl rfl ?_; clear F a; intro a F
   refine wE (ev_pickT rfl hc8 rfl) F S rfl fun a F=>?_
   obtain rfl := sinj hm
   refine wpList_nil (then_n ?_); exact ⟨rfl, F.sub ⟨rfl, rfl, trivial⟩⟩
  ·refine wl_ev (wg F rfl rfl rfl rfl hc8) (ev_move rfl) F S rfl rfl ?_; clear F a; intro a F
   refine wl_ev (wg F rfl rfl rfl rfl hc8) (ev_int rfl rfl (bo_eql _ _ _ _)) F S rfl rfl ?_; clear F a; intro a F
   refine wE (ev_pickF rfl hc8 rfl) F S rfl fun a F=>?_
   obtain rfl := sinj hm
   refine wpList_nil (then_n ?_); exact ⟨rfl, F.sub ⟨rfl, rfl, trivial⟩⟩
 clear F; rintro a w' ⟨rfl, F⟩
 refine wE (ev_assign rfl) F S rfl fun a F=>?_
 refine wpList_nil ?_
 refine then_n ?_
 refine wp_ret ?_
 obtain rfl := sinj hm
 refine post_r _ F rfl (ar_cons (resT rfl) ar_nil) ?_
 exact ⟨_, rfl, g, (Le.refl _), S, rfl⟩

theorem treepatch_ValidPath_ok {g : Gh} {fr : Hl} {w : World} {r : Bool} (path : ByteArray) (S : St g [] fr w) (hm : treepatch_ValidPath path = some r) :
  Calls Tryz.prog 53 [.string path].toArray w (fun en w' => ∃ v, en = .returned v ∧ ∃ (g' : Gh), Le g g' ∧ St g' [] fr w' ∧ .bool r = v) := by
 unfold treepatch_ValidPath at hm
 refine calls_enterM (fn := Tryz.f53) Tryz.func53 rfl Tryz.ntmps53 (lb rfl) ?_
 intro a F
 replace F : Fr 32 a [(0, .string path)] := F
 refine wp_seq ?_
 refine wp_region_lit ?_
 refine wl_alloc (wn rfl) rfl tz4 (cs := [.bool false]) rfl F S rfl rfl ?_; clear F a S; rintro b1 a w F S
 refine wpList_nil ?_
 refine then_n ?_
 refine wp_seq ?_
 refine wp_seq ?_
 refine wp_region_lit ?_
 refine wE (ev_move rfl) F S rfl fun a F=>?_
 refine wE (ev_lenS rfl tu9) F S rfl fun a F=>?_
 refine wE (ev_int rfl rfl (bo_gtr _ _ _ _)) F S rfl fun a F=>?_
 refine wpList_nil ?_
 refine then_n ?_
 obtain ⟨hc1, hm⟩ | ⟨hc1, hm⟩ := ite_or hm
 ·refine wp_condT F rfl hc1 ?_
  refine wp_seq ?_
  refine wp_region_lit ?_
  refine wl_storeC (wn rfl) rfl F S rfl rfl (vs := [.bool false]) rfl ts4 (one_cons rfl one_nil) (k := 0) rfl (lb rfl) (c' := #[.bool false]) rfl rfl ?_; clear S; intro w S
  refine wpList_nil ?_
  refine then_n ?_
  refine wp_ret ?_
  refine then_r ?_
  obtain rfl := sinj hm
  refine post_r0 _ F rfl (ar_cons (res1 rfl tu4 rfl (box_ptr (cells := [.bool false]) 0 rfl 0 rfl (lb rfl) w S)) ar_nil) ?_
  replace S : St g [] fr w := St.tail [] _ S
  exact ⟨_, rfl, g, (Le.refl _), S, rfl⟩
 ·refine wp_condF F rfl hc1 ?_
  refine wp_skip ?_
  refine then_n ?_
  refine wp_seq ?_
  refine wp_seq ?_
  refine wp_region_lit ?_
  refine wE (ev_move rfl) F S rfl fun a F=>?_
  replace F := F.sub (e' := [(8, .string path), (2, bp b1 0)]) ⟨rfl, rfl, trivial⟩
  refine wl_callK (wn rfl) rfl (xs := [.tmp 8, .const (.string (⟨#[47]⟩ : ByteArray))]) (vs := [.string path, .string (⟨#[47]⟩ : ByteArray)]) (cap := []) (e' := [(2, bp b1 0)]) ⟨rfl, trivial⟩ F rfl rfl tc106 rfl rfl (calls_enter (fn := Tryz.f106) Tryz.func106 rfl Tryz.ntmps106 (lb rfl) ?_); clear F a; intro a F
  replace F : Fr 8 a [(0, .string path), (1, .string (⟨#[47]⟩ : ByteArray))] := F
  refine wp_seq ?_
  refine wp_region_lit ?_
  refine wE (ev_assign rfl) F S rfl fun a F=>?_
  refine wpList_nil ?_
  refine then_n ?_
  refine wp_seq ?_
  refine wp_region_lit ?_
  refine wE (ev_move rfl) F S rfl fun a F=>?_
  refine wE (ev_move rfl) F S rfl fun a F=>?_
  replace F := F.sub (e' := [(6, .string (⟨#[47]⟩ : ByteArray)), (5, .string path)]) ⟨rfl, rfl, trivial⟩
  refine wl_callK (wn rfl) rfl (xs := [.tmp 5, .tmp 6, .const (.i6 0)]) (vs := [.string path, .string (⟨#[47]⟩ : ByteArray), .i6 0]) (cap := []) (e' := []) trivial F rfl rfl tc168 rfl rfl (calls_enter (fn := Tryz.f168) Tryz.func168 rfl Tryz.ntmps168 (lb rfl) ?_); clear F a; intro a F
  replace F : Fr 8 a [(0, .string path), (1, .string (⟨#[47]⟩ : ByteArray)), (2, .i6 0)] := F
  refine wp_seq ?_
  refine wp_region_lit ?_
  refine wl_boxC (wn rfl) rfl rfl rfl F S rfl rfl ?_; clear F a S; rintro b2 a w F S
  refine wl_boxC (wn rfl) rfl rfl rfl F S rfl rfl ?_; clear F a S; rintro b3 a w F S
  refine wl_boxC (wn rfl) rfl rfl rfl F S rfl rfl ?_; clear F a S; rintro b4 a w F S
  refine wE (ev_assign rfl) F S rfl fun a F=>?_
  refine wpList_nil ?_
  refine then_n ?_
  refine wp_seq ?_
  refine wp_region_lit ?_
  refine wE (ev_makeFunc (xs := [.tmp 4, .tmp 3, .tmp 5]) (vs := [bp b3 0, bp b2 0, bp b4 0]) rfl) F S rfl fun a F=>?_
  refine wE (ev_assign rfl) F S rfl fun a F=>?_
  refine wpList_nil ?_
  refine then_n ?_
  refine wp_ret ?_
  refine post_r _ F rfl (ar_cons (resT rfl) ar_nil) ?_
  refine ⟨_, rfl, ?_⟩; clear F a; intro a F
  replace F : Fr 8 a [(7, .func (.func 209) #[] #[bp b3 0, bp b2 0, bp b4 0])] := F
  refine wE (ev_assign rfl) F S rfl fun a F=>?_
  refine wpList_nil ?_
  refine then_n ?_
  refine wp_ret ?_
  refine post_r _ F rfl (ar_cons (resT rfl) ar_nil) ?_
  refine ⟨_, rfl, ?_⟩; clear F a; intro a F
  replace F : Fr 32 a [(9, .func (.func 209) #[] #[bp b3 0, bp b2 0, bp b4 0]), (2, bp b1 0)] := F
  refine wpList_nil ?_
  refine then_n ?_
  refine wp_block ?_
  refine wp_range (ps := [10]) (cap := [bp b3 0, bp b2 0, bp b4 0]) (e0 := [(2, bp b1 0)]) F ⟨rfl, trivial⟩ S rfl tc209 ?_; clear F S a; intro R1 l1 D1 w hR1 S
  replace S : St g [[(l1, .loop (R1 .ready Option.none))], [(D1, .deferred (some []))], [bx b4 #[.i6 0] 3], [(b3, .cells #[.string (⟨#[47]⟩ : ByteArray)] 9 (0, 0))], [bx b2 #[.string path] 9], [bx b1 #[.bool false] 4]] fr w := S
  refine calls_enter (fn := Tryz.f209) Tryz.func209 rfl Tryz.ntmps209 (lb rfl) ?_; intro a F
  replace F : Fr 52 a [(0, .func (.yield l1) #[] #[]), (1, bp b3 0), (2, bp b2 0), (3, bp b4 0)] := F
  refine wp_seq ?_
  refine wp_seq ?_
  refine wp_region_lit ?_
  refine wE (ev_load1 tu9 rfl rfl (box_ptr (cells := [.string (⟨#[47]⟩ : ByteArray)]) 3 rfl 0 rfl (lb rfl))) F S rfl fun a F=>?_
  refine wE (ev_lenS rfl tu9) F S rfl fun a F=>?_
  refine wE (ev_int rfl rfl (bo_eql _ _ _ _)) F S rfl fun a F=>?_
  refine wpList_nil ?_
  refine then_n ?_
  refine wp_condF F rfl rfl ?_
  refine wp_skip ?_
  refine then_n ?_
  refine wp_cut (fun a w => ∃ (x1 : ByteArray) (g1 : Gh), Fr 52 a [(0, .func (.yield l1) #[] #[]), (2, bp b2 0)] ∧ Le g g1 ∧ St g1 [[(l1, .loop (R1 .ready Option.none))], [(D1, .deferred (some []))], [bx b2 #[.string x1] 9], [bx b1 #[.bool false] 4]] fr w ∧ treepatch_ValidPath.j1 x1 = some r) ?_ ?_
  ·refine wp_block ?_
   obtain ⟨r2, hr2, hm⟩ := bind_some hm
   have hmo2 := hm; clear hm
   refine wp_iter (σ := ByteArray) (ρ := Bool ⊕ ByteArray) (m := fun s => treepatch_ValidPath.l2 s) (I := fun x6 a w => ∃ (g7 : Gh), Fr 52 a [(0, .func (.yield l1) #[] #[]), (1, bp b3 0), (2, bp b2 0), (3, bp b4 0)] ∧ Le g g7 ∧ St g7 [[(l1, .loop (R1 .ready Option.none))], [(D1, .deferred (some []))], [(b3, .cells #[.string (⟨#[47]⟩ : ByteArray)] 9 (0, 0))], [bx b2 #[.string x6] 9], [bx b4 #[.i6 0] 3], [bx b1 #[.bool false] 4]] fr w) hr2 ?_ ?_
   ·replace S : St g [[(l1, .loop (R1 .ready Option.none))], [(D1, .deferred (some []))], [(b3, .cells #[.string (⟨#[47]⟩ : ByteArray)] 9 (0, 0))], [bx b2 #[.string path] 9], [bx b4 #[.i6 0] 3], [bx b1 #[.bool false] 4]] fr w := St.tail [[(l1, .loop (R1 .ready Option.none))], [(D1, .deferred (some []))], [(b3, .cells #[.string (⟨#[47]⟩ : ByteArray)] 9 (0, 0))], [bx b2 #[.string path] 9], [bx b4 #[.i6 0] 3], [bx b1 #[.bool false] 4]] _ ((((((S.frontC 5 rfl).frontC 3 rfl).frontC 6 rfl).frontC 6 rfl).frontC 5 rfl).frontC 5 rfl)
    exact ⟨g, F.sub ⟨rfl, rfl, rfl, rfl, trivial⟩, (Le.refl _), S⟩
   ·clear F S; rintro x6 a w x7 ⟨g7, F, l8, S⟩ hx4 hfin2
    have hm : treepatch_ValidPath.l2 x6 = some x7 := hx4; clear hx4
    unfold treepatch_ValidPath.l2 at hm
    refine wp_block ?_
    refine wp_seq ?_
    refine wp_region_lit ?_
    refine wE (ev_load1 tu9 rfl rfl (box_ptr (cells := [.string x6]) 3 rfl 0 rfl (lb rfl))) F S rfl fun a F=>?_
    refine wE (ev_load1 tu9 rfl rfl (box_ptr (cells := [.string (⟨#[47]⟩ : ByteArray)]) 2 rfl 0 rfl (lb rfl))) F S rfl fun a F=>?_
    obtain ⟨y3, hy3, hm⟩ := bind_some hm
    refine wl_call0 (wn rfl) rfl F rfl (strings_Index_ok (fr := (fl [[(l1, .loop (R1 .ready Option.none))], [(D1, .deferred (some []))], [(b3, .cells #[.string (⟨#[47]⟩ : ByteArray)] 9 (0, 0))], [bx b2 #[.string x6] 9], [bx b4 #[.i6 0] 3], [bx b1 #[.bool false] 4]] fr)) x6 S hy3) rfl tc211 rfl rfl ?_; clear F a S
    rintro _ a w ⟨g8, l9, S, rfl⟩ F; replace S : St g8 [[(l1, .loop (R1 .ready Option.none))], [(D1, .deferred (some []))], [(b3, .cells #[.string (⟨#[47]⟩ : ByteArray)] 9 (0, 0))], [bx b2 #[.string x6] 9], [bx b4 #[.i6 0] 3], [bx b1 #[.bool false] 4]] fr w := S
    refine wE (ev_assign rfl) F S rfl fun a F=>?_
    refine wpList_nil ?_
    refine then_n ?_
    refine wp_seq ?_
    refine wp_seq ?_
    refine wp_region_lit ?_
    refine wE (ev_move rfl) F S rfl fun a F=>?_
    refine wE (ev_int rfl rfl (bo_lss _ _ _ _)) F S rfl fun a F=>?_
    refine wpList_nil ?_
    refine then_n ?_
    obtain ⟨hc8, hm⟩ | ⟨hc8, hm⟩ := ite_or hm
    ·refine wp_condT F rfl hc8 ?_
     refine wp_exit ?_
     refine then_e ?_
     refine inb_e rfl ?_
     refine then_e ?_
     refine inb_x ?_
     refine then_n ?_
     obtain rfl := sinj hm
     obtain rfl := hfin2 _ rfl
     clear hm
     have hm : (treepatch_ValidPath.j1 x6 : Option Bool) = some _ := hmo2
     replace S : St g8 [[(l1, .loop (R1 .ready Option.none))], [(D1, .deferred (some []))], [bx b2 #[.string x6] 9], [bx b1 #[.bool false] 4]] fr w := St.tail [[(l1, .loop (R1 .ready Option.none))], [(D1, .deferred (some []))], [bx b2 #[.string x6] 9], [bx b1 #[.bool false] 4]] _ ((((S.frontC 5 rfl).frontC 4 rfl).frontC 3 rfl).frontC 3 rfl)
     exact ⟨x6, g8, F.sub ⟨rfl, rfl, trivial⟩, (l8.trans l9), S, hm⟩
    ·refine wp_condF F rfl hc8 ?_
     refine wp_skip ?_
     refine then_n ?_
     refine wp_seq ?_
     refine wp_region_lit ?_
     refine wE (ev_load1 tu9 rfl rfl (box_ptr (cells := [.string x6]) 3 rfl 0 rfl (lb rfl))) F S rfl fun a F=>?_
     refine wE (ev_move rfl) F S rfl fun a F=>?_
     refine wE (ev_load1 tu3 rfl rfl (box_ptr (cells := [.i6 0]) 4 rfl 0 rfl (lb rfl))) F S rfl fun a F=>?_
     obtain ⟨z2, hz2, hm⟩ := bind_some hm
     refine wE (ev_int rfl rfl (bo_add hz2)) F S rfl fun a F=>?_
     obtain ⟨y4, hy4, hm⟩ := bind_some hm
     refine wE (ev_scut hy4 tu9 rfl (bnd0 _) (bndV rfl)) F S rfl fun a F=>?_
     refine wE (ev_assign rfl) F S rfl fun a F=>?_
     refine wpList_nil ?_
     refine then_n ?_
     refine wp_seq ?_
     refine wp_seq ?_
     refine wp_region_lit ?_
     refine wE (ev_move rfl) F S rfl fun a F=>?_
     refine wE (ev_move rfl) F S rfl fun a F=>?_
     refine wl_yield (wn rfl) rfl (xs := [.tmp 40]) (vs := [.string y4]) (e' := [(7, .i6 y3), (0, .func (.yield l1) #[] #[]), (1, bp b3 0), (2, bp b2 0), (3, bp b4 0)]) ⟨rfl, rfl, rfl, rfl, rfl, trivial⟩ F S rfl rfl rfl rfl 0 rfl hR1 rfl rfl ?_; clear F a; intro a F
     replace F : Fr 32 a [(10, .string y4), (2, bp b1 0)] := F
     refine wp_region_lit ?_
     refine wE (ev_assign rfl) F S rfl fun a F=>?_
     refine wpList_nil ?_
     refine then_n ?_
     refine begin_round S 0 rfl hR1 ?_; clear S; intro w S
     replace S : St g8 [[(l1, .loop (R1 .busy Option.none))], [(D1, .deferred (some []))], [(b3, .cells #[.string (⟨#[47]⟩ : ByteArray)] 9 (0, 0))], [bx b2 #[.string x6] 9], [bx b4 #[.i6 0] 3], [bx b1 #[.bool false] 4]] fr w := S
     refine wp_cutR (fun a w => ∃ (g9 : Gh), Fr 32 a [] ∧ Le g8 g9 ∧ St g9 [[(l1, .loop (R1 .busy Option.none))], [(D1, .deferred (some []))], [bx b1 #[.bool false] 4], [(b3, .cells #[.string (⟨#[47]⟩ : ByteArray)] 9 (0, 0))], [bx b2 #[.string x6] 9], [bx b4 #[.i6 0] 3]] fr w ∧ treepatch_ValidPath.j5 = some x7) ?_ ?_
     ·refine wp_cut1 (fun a w => ∃ (g10 : Gh), Fr 32 a [] ∧ Le g8 g10 ∧ St g10 [[(l1, .loop (R1 .busy Option.none))], [(D1, .deferred (some []))], [bx b1 #[.bool false] 4], [(b3, .cells #[.string (⟨#[47]⟩ : ByteArray)] 9 (0, 0))], [bx b2 #[.string x6] 9], [bx b4 #[.i6 0] 3]] fr w ∧ treepatch_ValidPath.j6 x6 y3 = some x7) ?_ ?_
      ·refine wp_block ?_
       refine wp_seq ?_
       refine wp_seq ?_
       refine wp_region_lit ?_
       refine wE (ev_move rfl) F S rfl fun a F=>?_
       refine wE (ev_str rfl rfl (bs_eql _ _ _)) F S rfl fun a F=>?_
       refine wE (ev_move rfl) F S rfl fun a F=>?_
       obtain ⟨x8, hx5, hm⟩ := bind_some hm
       refine wl_cut 3 (fun a w' => w = w' ∧ Fr 32 a [(16, .bool x8), (3, .string y4), (2, bp b1 0)]) ?_ ?_
       ·clear hm; obtain ⟨hc11, hm⟩ | ⟨hc11, hm⟩ := ite_or hx5
        ·refine wl_skip rfl rfl rfl rfl (ne_ft hc11) F rfl rfl ?_; clear F a; intro a F
         refine wl_skip rfl rfl rfl rfl (ne_ft hc11) F rfl rfl ?_; clear F a; intro a F
         refine wE (ev_pickT rfl hc11 rfl) F S rfl fun a F=>?_
         obtain rfl := sinj hm
         refine wpList_nil (then_n ?_); exact ⟨rfl, F.sub ⟨rfl, rfl, rfl, trivial⟩⟩
        ·refine wl_ev (wg F rfl rfl rfl rfl hc11) (ev_move rfl) F S rfl rfl ?_; clear F a; intro a F
         refine wl_ev (wg F rfl rfl rfl rfl hc11) (ev_str rfl rfl (bs_eql _ _ _)) F S rfl rfl ?_; clear F a; intro a F
         refine wE (ev_pickF rfl hc11 rfl) F S rfl fun a F=>?_
         obtain rfl := sinj hm
         refine wpList_nil (then_n ?_); exact ⟨rfl, F.sub ⟨rfl, rfl, rfl, trivial⟩⟩
       clear F; rintro a w' ⟨rfl, F⟩
       refine wE (ev_move rfl) F S rfl fun a F=>?_
       obtain ⟨x9, hx6, hm⟩ := bind_some hm
       refine wl_cut 3 (fun a w' => w = w' ∧ Fr 32 a [(20, .bool x9), (3, .string y4), (2, bp b1 0)]) ?_ ?_
       ·clear hm; obtain ⟨hc12, hm⟩ | ⟨hc12, hm⟩ := ite_or hx6
        ·refine wl_skip rfl rfl rfl rfl (ne_ft hc12) F rfl rfl ?_; clear F a; intro a F
         refine wl_skip rfl rfl rfl rfl (ne_ft hc12) F rfl rfl ?_; clear F a; intro a F
         refine wE (ev_pickT rfl hc12 rfl) F S rfl fun a F=>?_
         obtain rfl := sinj hm
         refine wpList_nil (then_n ?_); exact ⟨rfl, F.sub ⟨rfl, rfl, rfl, trivial⟩⟩
        ·refine wl_ev (wg F rfl rfl rfl rfl hc12) (ev_move rfl) F S rfl rfl ?_; clear F a; intro a F
         refine wl_ev (wg F rfl rfl rfl rfl hc12) (ev_str rfl rfl (bs_eql _ _ _)) F S rfl rfl ?_; clear F a; intro a F
         refine wE (ev_pickF rfl hc12 rfl) F S rfl fun a F=>?_
         obtain rfl := sinj hm
         refine wpList_nil (then_n ?_); exact ⟨rfl, F.sub ⟨rfl, rfl, rfl, trivial⟩⟩
       clear F; rintro a w' ⟨rfl, F⟩
       refine wpList_nil ?_
       refine then_n ?_
       obtain ⟨hc13, hm⟩ | ⟨hc13, hm⟩ := ite_or hm
       ·refine wp_condT F rfl hc13 ?_
        refine wp_seq ?_
        refine wp_region_lit ?_
        refine wl_storeC (wn rfl) rfl F S rfl rfl (vs := [.bool false]) rfl ts4 (one_cons rfl one_nil) (k := 5) rfl (lb rfl) (c' := #[.bool false]) rfl rfl ?_; clear S; intro w S
        refine wpList_nil ?_
        refine then_n ?_
        refine wp_ret ?_
        refine then_r ?_
        refine inb_r ?_
        refine then_r ?_
        refine rj_r ?_
        replace S : St g8 [[(l1, .loop (R1 .busy Option.none))], [(D1, .deferred (some []))], [bx b1 #[.bool false] 4], [(b3, .cells #[.string (⟨#[47]⟩ : ByteArray)] 9 (0, 0))], [bx b2 #[.string x6] 9], [bx b4 #[.i6 0] 3]] fr w := St.tail [[(l1, .loop (R1 .busy Option.none))], [(D1, .deferred (some []))], [bx b1 #[.bool false] 4], [(b3, .cells #[.string (⟨#[47]⟩ : ByteArray)] 9 (0, 0))], [bx b2 #[.string x6] 9], [bx b4 #[.i6 0] 3]] _ ((((((S.frontC 4 rfl).frontC 4 rfl).frontC 4 rfl).frontC 8 rfl).frontC 5 rfl).frontC 5 rfl)
        exact ⟨g8, F.sub trivial, (Le.refl _), S, hm⟩
       ·refine wp_condF F rfl hc13 ?_
        refine wp_skip ?_
        refine then_n ?_
        refine wp_seq ?_
        refine wp_region_lit ?_
        refine wE (ev_move rfl) F S rfl fun a F=>?_
        refine wE (ev_lenS rfl tu9) F S rfl fun a F=>?_
        refine wE (ev_move rfl) F S rfl fun a F=>?_
        refine wpList_nil ?_
        refine then_n ?_
        refine wp_cut1 (fun a w => ∃ (g11 : Gh), Fr 32 a [] ∧ Le g8 g11 ∧ St g11 [[(l1, .loop (R1 .busy Option.none))], [(D1, .deferred (some []))], [bx b1 #[.bool false] 4], [(b3, .cells #[.string (⟨#[47]⟩ : ByteArray)] 9 (0, 0))], [bx b2 #[.string x6] 9], [bx b4 #[.i6 0] 3]] fr w ∧ treepatch_ValidPath.j7 x6 y3 = some x7) ?_ ?_
        ·refine wp_block ?_
         obtain ⟨r3, hr3, hm⟩ := bind_some hm
         have hmo3 := hm; clear hm
         refine wp_iter (σ := Int) (ρ := Unit ⊕ Unit) (m := fun s => treepatch_ValidPath.l3 y4 s) (I := fun x10 a w => ∃ (g12 : Gh), Fr 32 a [(23, .i6 x10), (22, .i6 (y4.size : Int)), (3, .string y4), (2, bp b1 0)] ∧ Le g8 g12 ∧ St g12 [[(l1, .loop (R1 .busy Option.none))], [(D1, .deferred (some []))], [bx b1 #[.bool false] 4], [(b3, .cells #[.string (⟨#[47]⟩ : ByteArray)] 9 (0, 0))], [bx b2 #[.string x6] 9], [bx b4 #[.i6 0] 3]] fr w) hr3 ?_ ?_
         ·replace S : St g8 [[(l1, .loop (R1 .busy Option.none))], [(D1, .deferred (some []))], [bx b1 #[.bool false] 4], [(b3, .cells #[.string (⟨#[47]⟩ : ByteArray)] 9 (0, 0))], [bx b2 #[.string x6] 9], [bx b4 #[.i6 0] 3]] fr w := St.tail [[(l1, .loop (R1 .busy Option.none))], [(D1, .deferred (some []))], [bx b1 #[.bool false] 4], [(b3, .cells #[.string (⟨#[47]⟩ : ByteArray)] 9 (0, 0))], [bx b2 #[.string x6] 9], [bx b4 #[.i6 0] 3]] _ ((((((S.frontC 4 rfl).frontC 4 rfl).frontC 4 rfl).frontC 8 rfl).frontC 5 rfl).frontC 5 rfl)
          exact ⟨g8, F.sub ⟨rfl, rfl, rfl, rfl, trivial⟩, (Le.refl _), S⟩
         ·clear F S; rintro x10 a w x11 ⟨g12, F, l13, S⟩ hx7 hfin3
          have hm : treepatch_ValidPath.l3 y4 x10 = some x11 := hx7; clear hx7
          unfold treepatch_ValidPath.l3 at hm
          refine wp_seq ?_
          refine wp_region_lit ?_
          refine wE (ev_int rfl rfl (bo_lss _ _ _ _)) F S rfl fun a F=>?_
          refine wpList_nil ?_
          refine then_n ?_
          refine wp_seq ?_
          obtain ⟨hc14, hm⟩ | ⟨hc14, hm⟩ := ite_or hm
          ·refine wp_condT F rfl hc14 ?_
           refine wp_skip ?_
           refine then_n ?_
           refine wp_seq ?_
           refine wp_block ?_
           refine wp_seq ?_
           refine wp_region_lit ?_
           refine wE (ev_move rfl) F S rfl fun a F=>?_
           refine wE (ev_assign rfl) F S rfl fun a F=>?_
           refine wpList_nil ?_
           refine then_n ?_
           refine wp_seq ?_
           refine wp_region_lit ?_
           refine wE (ev_move rfl) F S rfl fun a F=>?_
           refine wE (ev_move rfl) F S rfl fun a F=>?_
           obtain ⟨y6, hy6, hm⟩ := bind_some hm
           refine wE (ev_sAt hy6 tu9 rfl rfl) F S rfl fun a F=>?_
           obtain ⟨y7, hy7, hm⟩ := bind_some hm
           refine wl_call0 (wn rfl) rfl F rfl (treepatch_Letter_ok (fr := (fl [[(l1, .loop (R1 .busy Option.none))], [(D1, .deferred (some []))], [bx b1 #[.bool false] 4], [(b3, .cells #[.string (⟨#[47]⟩ : ByteArray)] 9 (0, 0))], [bx b2 #[.string x6] 9], [bx b4 #[.i6 0] 3]] fr)) y6 S hy7) rfl tc107 rfl rfl ?_; clear F a S
           rintro _ a w ⟨g13, l14, S, rfl⟩ F; replace S : St g13 [[(l1, .loop (R1 .busy Option.none))], [(D1, .deferred (some []))], [bx b1 #[.bool false] 4], [(b3, .cells #[.string (⟨#[47]⟩ : ByteArray)] 9 (0, 0))], [bx b2 #[.string x6] 9], [bx b4 #[.i6 0] 3]] fr w := S
           refine wE (ev_not rfl) F S rfl fun a F=>?_
           refine wpList_nil ?_
           refine then_n ?_
           obtain ⟨hc15, hm⟩ | ⟨hc15, hm⟩ := ite_or hm
           ·refine wp_condT F rfl hc15 ?_
            refine wp_seq ?_
            refine wp_region_lit ?_
            refine wl_storeC (wn rfl) rfl F S rfl rfl (vs := [.bool false]) rfl ts4 (one_cons rfl one_nil) (k := 2) rfl (lb rfl) (c' := #[.bool false]) rfl rfl ?_; clear S; intro w S
            refine wpList_nil ?_
            refine then_n ?_
            refine wp_ret ?_
            refine inb_r ?_
            refine then_r ?_
            refine then_r ?_
            refine inb_r ?_
            refine then_r ?_
            refine inb_r ?_
            refine then_r ?_
            refine rj_r ?_
            obtain rfl := sinj hm
            obtain rfl := hfin3 _ rfl
            clear hm
            have hm : (treepatch_ValidPath.j5 : Option (Step ByteArray (Bool ⊕ ByteArray))) = some _ := hmo3
            exact ⟨g13, F.sub trivial, (l13.trans l14), S, hm⟩
           ·refine wp_condF F rfl hc15 ?_
            refine wp_skip ?_
            refine inb_n ?_
            refine then_n ?_
            refine wp_region_lit ?_
            obtain ⟨z4, hz4, hm⟩ := bind_some hm
            refine wE (ev_int rfl rfl (bo_add hz4)) F S rfl fun a F=>?_
            refine wE (ev_move rfl) F S rfl fun a F=>?_
            refine wpList_nil ?_
            refine then_n ?_
            obtain rfl := sinj hm
            refine ⟨_, rfl, ?_⟩
            exact ⟨g13, F.sub ⟨rfl, rfl, rfl, rfl, trivial⟩, (l13.trans l14), S⟩
          ·refine wp_condF F rfl hc14 ?_
           refine wp_exit ?_
           refine then_e ?_
           refine then_e ?_
           refine inb_x ?_
           refine then_n ?_
           obtain rfl := sinj hm
           obtain rfl := hfin3 _ rfl
           clear hm
           have hm : (treepatch_ValidPath.j7 x6 y3 : Option (Step ByteArray (Bool ⊕ ByteArray))) = some _ := hmo3
           exact ⟨g12, F.sub trivial, l13, S, hm⟩
        ·clear F S hm; rintro a w ⟨g11, F, l12, S, hm⟩
         refine inb_n ?_
         refine then_n ?_
         exact ⟨g11, F.sub trivial, l12, S, hm⟩
      ·clear F S hm; rintro a w ⟨g10, F, l11, S, hm⟩
       refine rj_n ?_
       refine round_n S 0 rfl hR1 ?_; clear F S a; intro w S; refine ⟨_, rfl, ?_⟩; intro a F
       replace S : St g10 [[(l1, .loop (R1 .ready Option.none))], [(D1, .deferred (some []))], [bx b1 #[.bool false] 4], [(b3, .cells #[.string (⟨#[47]⟩ : ByteArray)] 9 (0, 0))], [bx b2 #[.string x6] 9], [bx b4 #[.i6 0] 3]] fr w := S
       replace F : Fr 52 a [(41, .bool true), (7, .i6 y3), (0, .func (.yield l1) #[] #[]), (1, bp b3 0), (2, bp b2 0), (3, bp b4 0)] := F
       refine wE (ev_not rfl) F S rfl fun a F=>?_
       refine wpList_nil ?_
       refine then_n ?_
       refine wp_condF F rfl rfl ?_
       refine wp_skip ?_
       refine then_n ?_
       refine wp_region_lit ?_
       refine wE (ev_load1 tu9 rfl rfl (box_ptr (cells := [.string x6]) 4 rfl 0 rfl (lb rfl))) F S rfl fun a F=>?_
       refine wE (ev_move rfl) F S rfl fun a F=>?_
       refine wE (ev_load1 tu9 rfl rfl (box_ptr (cells := [.string (⟨#[47]⟩ : ByteArray)]) 3 rfl 0 rfl (lb rfl))) F S rfl fun a F=>?_
       refine wE (ev_lenS rfl tu9) F S rfl fun a F=>?_
       obtain ⟨z3, hz3, hm⟩ := bind_some hm
       refine wE (ev_int rfl rfl (bo_add hz3)) F S rfl fun a F=>?_
       obtain ⟨y5, hy5, hm⟩ := bind_some hm
       refine wE (ev_scut hy5 tu9 rfl (bndV rfl) (bnd0 _)) F S rfl fun a F=>?_
       refine wl_storeC (wn rfl) rfl F S rfl rfl (vs := [.string y5]) rfl ts9 (one_cons rfl one_nil) (k := 4) rfl (lb rfl) (c' := #[.string y5]) rfl rfl ?_; clear S; intro w S
       refine wpList_nil ?_
       refine inb_n ?_
       refine then_n ?_
       obtain rfl := sinj hm
       refine ⟨_, rfl, ?_⟩
       replace S : St g10 [[(l1, .loop (R1 .ready Option.none))], [(D1, .deferred (some []))], [(b3, .cells #[.string (⟨#[47]⟩ : ByteArray)] 9 (0, 0))], [bx b2 #[.string y5] 9], [bx b4 #[.i6 0] 3], [bx b1 #[.bool false] 4]] fr w := St.tail [[(l1, .loop (R1 .ready Option.none))], [(D1, .deferred (some []))], [(b3, .cells #[.string (⟨#[47]⟩ : ByteArray)] 9 (0, 0))], [bx b2 #[.string y5] 9], [bx b4 #[.i6 0] 3], [bx b1 #[.bool false] 4]] _ ((((((S.frontC 2 rfl).frontC 6 rfl).frontC 6 rfl).frontC 6 rfl).frontC 5 rfl).frontC 5 rfl)
       exact ⟨g10, F.sub ⟨rfl, rfl, rfl, rfl, trivial⟩, ((l8.trans l9).trans l11), S⟩
     ·clear F S hm; rintro a w ⟨g9, F, l10, S, hm⟩
      refine round_r S 0 rfl hR1 ?_; clear F S a; intro w S; refine ⟨_, rfl, ?_⟩; intro a F
      replace S : St g9 [[(l1, .loop (R1 .done (some .ret)))], [(D1, .deferred (some []))], [bx b1 #[.bool false] 4], [(b3, .cells #[.string (⟨#[47]⟩ : ByteArray)] 9 (0, 0))], [bx b2 #[.string x6] 9], [bx b4 #[.i6 0] 3]] fr w := S
      replace F : Fr 52 a [(41, .bool false), (7, .i6 y3), (0, .func (.yield l1) #[] #[]), (1, bp b3 0), (2, bp b2 0), (3, bp b4 0)] := F
      refine wE (ev_not rfl) F S rfl fun a F=>?_
      refine wpList_nil ?_
      refine then_n ?_
      refine wp_condT F rfl rfl ?_
      refine wp_ret ?_
      refine then_r ?_
      refine inb_r ?_
      refine then_r ?_
      refine inb_r ?_
      refine then_r ?_
      obtain rfl := sinj hm
      obtain rfl := hfin2 _ rfl
      clear hm
      have hm : (some false : Option Bool) = some _ := hmo2
      refine post_r _ F rfl ar_nil ?_
      refine ⟨_, rfl, ?_⟩; refine rp_r S 0 rfl hR1 ?_; clear F S; intro w S a F
      replace S : St g9 [[(D1, .deferred (some []))], [bx b1 #[.bool false] 4], [(b3, .cells #[.string (⟨#[47]⟩ : ByteArray)] 9 (0, 0))], [bx b2 #[.string x6] 9], [bx b4 #[.i6 0] 3]] fr w := S
      replace F : Fr ⟨32, [mkD D1]⟩ a [(2, bp b1 0)] := F
      refine inb_r ?_
      refine then_r ?_
      obtain rfl := sinj hm
      refine post_rM (fn := Tryz.f53) (rs := [.cell 2 4]) [.bool false] F S 0 rfl rfl (fun w S => (ar_cons (res1 rfl tu4 rfl (box_ptr (cells := [.bool false]) 1 rfl 0 rfl (lb rfl) w S)) ar_nil)) ?_; clear S; intro w S; replace S : St g9 [[bx b1 #[.bool false] 4], [(b3, .cells #[.string (⟨#[47]⟩ : ByteArray)] 9 (0, 0))], [bx b2 #[.string x6] 9], [bx b4 #[.i6 0] 3]] fr w := S
      replace S : St g9 [] fr w := St.tail [] _ S
      exact ⟨_, rfl, g9, ((l8.trans l9).trans l10), S, rfl⟩
  ·clear F S hm; rintro a w ⟨x1, g1, F, l2, S, hm⟩
   refine wp_region_lit ?_
   refine wE (ev_move rfl) F S rfl fun a F=>?_
   refine wE (ev_load1 tu9 rfl rfl (box_ptr (cells := [.string x1]) 2 rfl 0 rfl (lb rfl))) F S rfl fun a F=>?_
   refine wl_yield (wn rfl) rfl (xs := [.tmp 50]) (vs := [.string x1]) (e' := []) trivial F S rfl rfl rfl rfl 0 rfl hR1 rfl rfl ?_; clear F a; intro a F
   replace F : Fr 32 a [(10, .string x1), (2, bp b1 0)] := F
   refine wp_region_lit ?_
   refine wE (ev_assign rfl) F S rfl fun a F=>?_
   refine wpList_nil ?_
   refine then_n ?_
   refine begin_round S 0 rfl hR1 ?_; clear S; intro w S
   replace S : St g1 [[(l1, .loop (R1 .busy Option.none))], [(D1, .deferred (some []))], [bx b2 #[.string x1] 9], [bx b1 #[.bool false] 4]] fr w := S
   refine wp_cutR (fun a w => ∃ (g2 : Gh), Fr 32 a [] ∧ Le g1 g2 ∧ St g2 [[(l1, .loop (R1 .busy Option.none))], [(D1, .deferred (some []))], [bx b1 #[.bool false] 4]] fr w ∧ treepatch_ValidPath.j2 = some r) ?_ ?_
   ·refine wp_cut1 (fun a w => ∃ (g3 : Gh), Fr 32 a [] ∧ Le g1 g3 ∧ St g3 [[(l1, .loop (R1 .busy Option.none))], [(D1, .deferred (some []))], [bx b1 #[.bool false] 4]] fr w ∧ treepatch_ValidPath.j3 = some r) ?_ ?_
    ·refine wp_block ?_
     refine wp_seq ?_
     refine wp_seq ?_
     refine wp_region_lit ?_
     refine wE (ev_move rfl) F S rfl fun a F=>?_
     refine wE (ev_str rfl rfl (bs_eql _ _ _)) F S rfl fun a F=>?_
     refine wE (ev_move rfl) F S rfl fun a F=>?_
     obtain ⟨x2, hx1, hm⟩ := bind_some hm
     refine wl_cut 3 (fun a w' => w = w' ∧ Fr 32 a [(16, .bool x2), (3, .string x1), (2, bp b1 0)]) ?_ ?_
     ·clear hm; obtain ⟨hc3, hm⟩ | ⟨hc3, hm⟩ := ite_or hx1
      ·refine wl_skip rfl rfl rfl rfl (ne_ft hc3) F rfl rfl ?_; clear F a; intro a F
       refine wl_skip rfl rfl rfl rfl (ne_ft hc3) F rfl rfl ?_; clear F a; intro a F
       refine wE (ev_pickT rfl hc3 rfl) F S rfl fun a F=>?_
       obtain rfl := sinj hm
       refine wpList_nil (then_n ?_); exact ⟨rfl, F.sub ⟨rfl, rfl, rfl, trivial⟩⟩
      ·refine wl_ev (wg F rfl rfl rfl rfl hc3) (ev_move rfl) F S rfl rfl ?_; clear F a; intro a F
       refine wl_ev (wg F rfl rfl rfl rfl hc3) (ev_str rfl rfl (bs_eql _ _ _)) F S rfl rfl ?_; clear F a; intro a F
       refine wE (ev_pickF rfl hc3 rfl) F S rfl fun a F=>?_
       obtain rfl := sinj hm
       refine wpList_nil (then_n ?_); exact ⟨rfl, F.sub ⟨rfl, rfl, rfl, trivial⟩⟩
     clear F; rintro a w' ⟨rfl, F⟩
     refine wE (ev_move rfl) F S rfl fun a F=>?_
     obtain ⟨x3, hx2, hm⟩ := bind_some hm
     refine wl_cut 3 (fun a w' => w = w' ∧ Fr 32 a [(20, .bool x3), (3, .string x1), (2, bp b1 0)]) ?_ ?_
     ·clear hm; obtain ⟨hc4, hm⟩ | ⟨hc4, hm⟩ := ite_or hx2
      ·refine wl_skip rfl rfl rfl rfl (ne_ft hc4) F rfl rfl ?_; clear F a; intro a F
       refine wl_skip rfl rfl rfl rfl (ne_ft hc4) F rfl rfl ?_; clear F a; intro a F
       refine wE (ev_pickT rfl hc4 rfl) F S rfl fun a F=>?_
       obtain rfl := sinj hm
       refine wpList_nil (then_n ?_); exact ⟨rfl, F.sub ⟨rfl, rfl, rfl, trivial⟩⟩
      ·refine wl_ev (wg F rfl rfl rfl rfl hc4) (ev_move rfl) F S rfl rfl ?_; clear F a; intro a F
       refine wl_ev (wg F rfl rfl rfl rfl hc4) (ev_str rfl rfl (bs_eql _ _ _)) F S rfl rfl ?_; clear F a; intro a F
       refine wE (ev_pickF rfl hc4 rfl) F S rfl fun a F=>?_
       obtain rfl := sinj hm
       refine wpList_nil (then_n ?_); exact ⟨rfl, F.sub ⟨rfl, rfl, rfl, trivial⟩⟩
     clear F; rintro a w' ⟨rfl, F⟩
     refine wpList_nil ?_
     refine then_n ?_
     obtain ⟨hc5, hm⟩ | ⟨hc5, hm⟩ := ite_or hm
     ·refine wp_condT F rfl hc5 ?_
      refine wp_seq ?_
      refine wp_region_lit ?_
      refine wl_storeC (wn rfl) rfl F S rfl rfl (vs := [.bool false]) rfl ts4 (one_cons rfl one_nil) (k := 3) rfl (lb rfl) (c' := #[.bool false]) rfl rfl ?_; clear S; intro w S
      refine wpList_nil ?_
      refine then_n ?_
      refine wp_ret ?_
      refine then_r ?_
      refine inb_r ?_
      refine then_r ?_
      refine rj_r ?_
      replace S : St g1 [[(l1, .loop (R1 .busy Option.none))], [(D1, .deferred (some []))], [bx b1 #[.bool false] 4]] fr w := St.tail [[(l1, .loop (R1 .busy Option.none))], [(D1, .deferred (some []))], [bx b1 #[.bool false] 4]] _ (((S.frontC 3 rfl).frontC 2 rfl).frontC 2 rfl)
      exact ⟨g1, F.sub trivial, (Le.refl _), S, hm⟩
     ·refine wp_condF F rfl hc5 ?_
      refine wp_skip ?_
      refine then_n ?_
      refine wp_seq ?_
      refine wp_region_lit ?_
      refine wE (ev_move rfl) F S rfl fun a F=>?_
      refine wE (ev_lenS rfl tu9) F S rfl fun a F=>?_
      refine wE (ev_move rfl) F S rfl fun a F=>?_
      refine wpList_nil ?_
      refine then_n ?_
      refine wp_cut1 (fun a w => ∃ (g4 : Gh), Fr 32 a [] ∧ Le g1 g4 ∧ St g4 [[(l1, .loop (R1 .busy Option.none))], [(D1, .deferred (some []))], [bx b1 #[.bool false] 4]] fr w ∧ treepatch_ValidPath.j4 = some r) ?_ ?_
      ·refine wp_block ?_
       obtain ⟨r1, hr1, hm⟩ := bind_some hm
       have hmo1 := hm; clear hm
       refine wp_iter (σ := Int) (ρ := Unit ⊕ Unit) (m := fun s => treepatch_ValidPath.l1 x1 s) (I := fun x4 a w => ∃ (g5 : Gh), Fr 32 a [(23, .i6 x4), (22, .i6 (x1.size : Int)), (3, .string x1), (2, bp b1 0)] ∧ Le g1 g5 ∧ St g5 [[(l1, .loop (R1 .busy Option.none))], [(D1, .deferred (some []))], [bx b1 #[.bool false] 4]] fr w) hr1 ?_ ?_
       ·replace S : St g1 [[(l1, .loop (R1 .busy Option.none))], [(D1, .deferred (some []))], [bx b1 #[.bool false] 4]] fr w := St.tail [[(l1, .loop (R1 .busy Option.none))], [(D1, .deferred (some []))], [bx b1 #[.bool false] 4]] _ (((S.frontC 3 rfl).frontC 2 rfl).frontC 2 rfl)
        exact ⟨g1, F.sub ⟨rfl, rfl, rfl, rfl, trivial⟩, (Le.refl _), S⟩
       ·clear F S; rintro x4 a w x5 ⟨g5, F, l6, S⟩ hx3 hfin1
        have hm : treepatch_ValidPath.l1 x1 x4 = some x5 := hx3; clear hx3
        unfold treepatch_ValidPath.l1 at hm
        refine wp_seq ?_
        refine wp_region_lit ?_
        refine wE (ev_int rfl rfl (bo_lss _ _ _ _)) F S rfl fun a F=>?_
        refine wpList_nil ?_
        refine then_n ?_
        refine wp_seq ?_
        obtain ⟨hc6, hm⟩ | ⟨hc6, hm⟩ := ite_or hm
        ·refine wp_condT F rfl hc6 ?_
         refine wp_skip ?_
         refine then_n ?_
         refine wp_seq ?_
         refine wp_block ?_
         refine wp_seq ?_
         refine wp_region_lit ?_
         refine wE (ev_move rfl) F S rfl fun a F=>?_
         refine wE (ev_assign rfl) F S rfl fun a F=>?_
         refine wpList_nil ?_
         refine then_n ?_
         refine wp_seq ?_
         refine wp_region_lit ?_
         refine wE (ev_move rfl) F S rfl fun a F=>?_
         refine wE (ev_move rfl) F S rfl fun a F=>?_
         obtain ⟨y1, hy1, hm⟩ := bind_some hm
         refine wE (ev_sAt hy1 tu9 rfl rfl) F S rfl fun a F=>?_
         obtain ⟨y2, hy2, hm⟩ := bind_some hm
         refine wl_call0 (wn rfl) rfl F rfl (treepatch_Letter_ok (fr := (fl [[(l1, .loop (R1 .busy Option.none))], [(D1, .deferred (some []))], [bx b1 #[.bool false] 4]] fr)) y1 S hy2) rfl tc107 rfl rfl ?_; clear F a S
         rintro _ a w ⟨g6, l7, S, rfl⟩ F; replace S : St g6 [[(l1, .loop (R1 .busy Option.none))], [(D1, .deferred (some []))], [bx b1 #[.bool false] 4]] fr w := S
         refine wE (ev_not rfl) F S rfl fun a F=>?_
         refine wpList_nil ?_
         refine then_n ?_
         obtain ⟨hc7, hm⟩ | ⟨hc7, hm⟩ := ite_or hm
         ·refine wp_condT F rfl hc7 ?_
          refine wp_seq ?_
          refine wp_region_lit ?_
          refine wl_storeC (wn rfl) rfl F S rfl rfl (vs := [.bool false]) rfl ts4 (one_cons rfl one_nil) (k := 2) rfl (lb rfl) (c' := #[.bool false]) rfl rfl ?_; clear S; intro w S
          refine wpList_nil ?_
          refine then_n ?_
          refine wp_ret ?_
          refine inb_r ?_
          refine then_r ?_
          refine then_r ?_
          refine inb_r ?_
          refine then_r ?_
          refine inb_r ?_
          refine then_r ?_
          refine rj_r ?_
          obtain rfl := sinj hm
          obtain rfl := hfin1 _ rfl
          clear hm
          have hm : (treepatch_ValidPath.j2 : Option Bool) = some _ := hmo1
          exact ⟨g6, F.sub trivial, (l6.trans l7), S, hm⟩
         ·refine wp_condF F rfl hc7 ?_
          refine wp_skip ?_
          refine inb_n ?_
          refine then_n ?_
          refine wp_region_lit ?_
          obtain ⟨z1, hz1, hm⟩ := bind_some hm
          refine wE (ev_int rfl rfl (bo_add hz1)) F S rfl fun a F=>?_
          refine wE (ev_move rfl) F S rfl fun a F=>?_
          refine wpList_nil ?_
          refine then_n ?_
          obtain rfl := sinj hm
          refine ⟨_, rfl, ?_⟩
          exact ⟨g6, F.sub ⟨rfl, rfl, rfl, rfl, trivial⟩, (l6.trans l7), S⟩
        ·refine wp_condF F rfl hc6 ?_
         refine wp_exit ?_
         refine then_e ?_
         refine then_e ?_
         refine inb_x ?_
         refine then_n ?_
         obtain rfl := sinj hm
         obtain rfl := hfin1 _ rfl
         clear hm
         have hm : (treepatch_ValidPath.j4 : Option Bool) = some _ := hmo1
         exact ⟨g5, F.sub trivial, l6, S, hm⟩
      ·clear F S hm; rintro a w ⟨g4, F, l5, S, hm⟩
       refine inb_n ?_
       refine then_n ?_
       exact ⟨g4, F.sub trivial, l5, S, hm⟩
    ·clear F S hm; rintro a w ⟨g3, F, l4, S, hm⟩
     refine rj_n ?_
     refine round_n S 0 rfl hR1 ?_; clear F S a; intro w S; refine ⟨_, rfl, ?_⟩; intro a F
     replace S : St g3 [[(l1, .loop (R1 .ready Option.none))], [(D1, .deferred (some []))], [bx b1 #[.bool false] 4]] fr w := S
     replace F : Fr 52 a [(51, .bool true)] := F
     refine wpList_nil ?_
     refine post_n _ F rfl ar_nil ?_
     refine ⟨_, rfl, ?_⟩; refine rp_n S 0 rfl hR1 ?_; clear F S; intro w S a F
     replace S : St g3 [[(D1, .deferred (some []))], [bx b1 #[.bool false] 4]] fr w := S
     replace F : Fr ⟨32, [mkD D1]⟩ a [(2, bp b1 0)] := F
     refine inb_n ?_
     refine then_n ?_
     refine wp_seq ?_
     refine wp_region_lit ?_
     refine wl_storeC (wn rfl) rfl F S rfl rfl (vs := [.bool true]) rfl ts4 (one_cons rfl one_nil) (k := 1) rfl (lb rfl) (c' := #[.bool true]) rfl rfl ?_; clear S; intro w S
     refine wpList_nil ?_
     refine then_n ?_
     refine wp_ret ?_
     obtain rfl := sinj hm
     refine post_rM (fn := Tryz.f53) (rs := [.cell 2 4]) [.bool true] F S 0 rfl rfl (fun w S => (ar_cons (res1 rfl tu4 rfl (box_ptr (cells := [.bool true]) 1 rfl 0 rfl (lb rfl) w S)) ar_nil)) ?_; clear S; intro w S; replace S : St g3 [[bx b1 #[.bool true] 4]] fr w := S
     replace S : St g3 [] fr w := St.tail [] _ S
     exact ⟨_, rfl, g3, (l2.trans l4), S, rfl⟩
   ·clear F S hm; rintro a w ⟨g2, F, l3, S, hm⟩
    refine round_r S 0 rfl hR1 ?_; clear F S a; intro w S; refine ⟨_, rfl, ?_⟩; intro a F
    replace S : St g2 [[(l1, .loop (R1 .done (some .ret)))], [(D1, .deferred (some []))], [bx b1 #[.bool false] 4]] fr w := S
    replace F : Fr 52 a [(51, .bool false)] := F
    refine wpList_nil ?_
    refine post_n _ F rfl ar_nil ?_
    refine ⟨_, rfl, ?_⟩; refine rp_r S 0 rfl hR1 ?_; clear F S; intro w S a F
    replace S : St g2 [[(D1, .deferred (some []))], [bx b1 #[.bool false] 4]] fr w := S
    replace F : Fr ⟨32, [mkD D1]⟩ a [(2, bp b1 0)] := F
    refine inb_r ?_
    refine then_r ?_
    obtain rfl := sinj hm
    refine post_rM (fn := Tryz.f53) (rs := [.cell 2 4]) [.bool false] F S 0 rfl rfl (fun w S => (ar_cons (res1 rfl tu4 rfl (box_ptr (cells := [.bool false]) 1 rfl 0 rfl (lb rfl) w S)) ar_nil)) ?_; clear S; intro w S; replace S : St g2 [[bx b1 #[.bool false] 4]] fr w := S
    replace S : St g2 [] fr w := St.tail [] _ S
    exact ⟨_, rfl, g2, (l2.trans l3), S, rfl⟩

theorem strings_IndexByte_ok {g : Gh} {fr : Hl} {w : World} {r : Int} (s_ : ByteArray) (c_ : Int) (S : St g [] fr w) (hm : strings_IndexByte s_ c_ = some r) :
  Calls Tryz.prog 169 [.string s_, .int .u8 c_].toArray w (fun en w' => ∃ v, en = .returned v ∧ ∃ (g' : Gh), Le g g' ∧ St g' [] fr w' ∧ .i6 r = v) := by
 unfold strings_IndexByte at hm
 refine calls_enter (fn := Tryz.f169) Tryz.func169 rfl Tryz.ntmps169 (lb rfl) ?_
 intro a F
 replace F : Fr 8 a [(0, .string s_), (1, .int .u8 c_)] := F
 refine wp_seq ?_
 refine wp_region_lit ?_
 refine wE (ev_assign rfl) F S rfl fun a F=>?_
 refine wpList_nil ?_
 refine then_n ?_
 refine wp_seq ?_
 refine wp_region_lit ?_
 refine wE (ev_move rfl) F S rfl fun a F=>?_
 refine wE (ev_move rfl) F S rfl fun a F=>?_
 obtain ⟨y1, hy1, hm⟩ := bind_some hm
 refine wl_call0 (wn rfl) rfl F rfl (stringslite_IndexByte_ok s_ c_ S hy1) rfl tc212 rfl rfl ?_; clear F a S
 rintro _ a w ⟨g1, l1, S, rfl⟩ F; replace S : St g1 [] fr w := S
 refine wE (ev_assign rfl) F S rfl fun a F=>?_
 refine wpList_nil ?_
 refine then_n ?_
 refine wp_ret ?_
 obtain rfl := sinj hm
 refine post_r _ F rfl (ar_cons (resT rfl) ar_nil) ?_
 exact ⟨_, rfl, g1, l1, S, rfl⟩

theorem lines_Validate_ok {g : Gh} {fr : Hl} {w : World} {r : Fault} (lines : (List ByteArray)) (vlines1 : Value) (hlines1 : RepSl g lines vlines1) (S : St g [] fr w) (hm : lines_Validate lines = some r) :
  Calls Tryz.prog 108 [vlines1].toArray w (fun en w' => ∃ v, en = .returned v ∧ ∃ (g' : Gh), Le g g' ∧ St g' [] fr w' ∧ .agg #[.i6 r.Code, .i6 r.Index] = v) := by
 unfold lines_Validate at hm
 refine calls_enter (fn := Tryz.f108) Tryz.func108 rfl Tryz.ntmps108 (lb rfl) ?_
 intro a F
 replace F : Fr 28 a [(0, vlines1)] := F
 refine wp_seq ?_
 refine wp_region_lit ?_
 refine wl_alloc (wn rfl) rfl tz30 (cs := [.i6 0, .i6 0]) rfl F S rfl rfl ?_; clear F a S; rintro b1 a w F S
 refine wpList_nil ?_
 refine then_n ?_
 refine wp_seq ?_
 refine wp_seq ?_
 refine wp_region_lit ?_
 refine wE (ev_move rfl) F S rfl fun a F=>?_
 refine wE (ev_lenSh hlines1 rfl tu42) F S rfl fun a F=>?_
 refine wE (ev_int rfl rfl (bo_gtr _ _ _ _)) F S rfl fun a F=>?_
 refine wpList_nil ?_
 refine then_n ?_
 obtain ⟨hc1, hm⟩ | ⟨hc1, hm⟩ := ite_or hm
 ·refine wp_condT F rfl hc1 ?_
  refine wp_seq ?_
  refine wp_region_lit ?_
  refine wE (ev_build (parts := [(0, .const (.i6 2)), (1, .const (.i6 (-1)))]) (vs := [(0, .i6 2), (1, .i6 (-1))]) rfl (fun w => tb30_0_1 2 (-1) w)) F S rfl fun a F=>?_
  refine wl_storeC (wn rfl) rfl F S rfl rfl (vs := [.i6 2, .i6 (-1)]) rfl ts30 (one_cons rfl (one_cons rfl one_nil)) (k := 0) rfl (lb rfl) (c' := #[.i6 2, .i6 (-1)]) rfl rfl ?_; clear S; intro w S
  refine wpList_nil ?_
  refine then_n ?_
  refine wp_ret ?_
  refine then_r ?_
  obtain rfl := sinj hm
  refine post_r _ F rfl (ar_cons (resA rfl tu30 rfl (box_ptr (cells := [.i6 2, .i6 (-1)]) 0 rfl 0 rfl (lb rfl) w S) ts30) ar_nil) ?_
  replace S : St g [] fr w := St.tail [] _ S
  exact ⟨_, rfl, g, (Le.refl _), S, rfl⟩
 ·refine wp_condF F rfl hc1 ?_
  refine wp_skip ?_
  refine then_n ?_
  refine wp_cut (fun a w => ∃ (g1 : Gh), Fr 28 a [(2, bp b1 0)] ∧ Le g g1 ∧ St g1 [[bx b1 #[.i6 0, .i6 0] 30]] fr w ∧ lines_Validate.j1 = some r) ?_ ?_
  ·refine wp_seq ?_
   refine wp_region_lit ?_
   refine wE (ev_move rfl) F S rfl fun a F=>?_
   refine wE (ev_lenSh hlines1 rfl tu42) F S rfl fun a F=>?_
   refine wE (ev_move rfl) F S rfl fun a F=>?_
   refine wpList_nil ?_
   refine then_n ?_
   refine wp_block ?_
   obtain ⟨r1, hr1, hm⟩ := bind_some hm
   have hmo1 := hm; clear hm
   refine wp_iter (σ := Int) (ρ := Fault ⊕ Unit) (m := fun s => lines_Validate.l1 lines s) (I := fun x1 a w => ∃ (g2 : Gh), Fr 28 a [(11, .i6 x1), (10, .i6 (lines.length : Int)), (9, vlines1), (2, bp b1 0)] ∧ Le g g2 ∧ St g2 [[bx b1 #[.i6 0, .i6 0] 30]] fr w) hr1 ?_ ?_
   ·exact ⟨g, F.sub ⟨rfl, rfl, rfl, rfl, trivial⟩, (Le.refl _), S⟩
   ·clear F S; rintro x1 a w x2 ⟨g2, F, l2, S⟩ hx1 hfin1
    have hm : lines_Validate.l1 lines x1 = some x2 := hx1; clear hx1
    unfold lines_Validate.l1 at hm
    refine wp_seq ?_
    refine wp_region_lit ?_
    refine wE (ev_int rfl rfl (bo_lss _ _ _ _)) F S rfl fun a F=>?_
    refine wpList_nil ?_
    refine then_n ?_
    refine wp_seq ?_
    obtain ⟨hc2, hm⟩ | ⟨hc2, hm⟩ := ite_or hm
    ·refine wp_condT F rfl hc2 ?_
     refine wp_skip ?_
     refine then_n ?_
     refine wp_seq ?_
     refine wp_block ?_
     refine wp_seq ?_
     refine wp_region_lit ?_
     refine wE (ev_move rfl) F S rfl fun a F=>?_
     obtain ⟨y1, hy1, hm⟩ := bind_some hm
     obtain ⟨cs1, hr2, hp1⟩ := elemS (hlines1.mono l2) hy1
     obtain rfl := rep_str hr2
     refine wE (ev_idxS (hlines1.mono l2) hy1 tu42 ts9 rfl rfl) F S rfl fun a F=>?_
     refine wE (ev_load1 tu9 rfl rfl (ptr_mono (cks := [[bx b1 #[.i6 0, .i6 0] 30]]) (fr := fr) hp1 (Le.refl _))) F S rfl fun a F=>?_
     refine wE (ev_assign rfl) F S rfl fun a F=>?_
     refine wE (ev_assign rfl) F S rfl fun a F=>?_
     refine wpList_nil ?_
     refine then_n ?_
     refine wp_seq ?_
     refine wp_seq ?_
     refine wp_region_lit ?_
     refine wE (ev_move rfl) F S rfl fun a F=>?_
     refine wE (ev_lenS rfl tu9) F S rfl fun a F=>?_
     refine wE (ev_int rfl rfl (bo_gtr _ _ _ _)) F S rfl fun a F=>?_
     refine wpList_nil ?_
     refine then_n ?_
     obtain ⟨hc3, hm⟩ | ⟨hc3, hm⟩ := ite_or hm
     ·refine wp_condT F rfl hc3 ?_
      refine wp_seq ?_
      refine wp_region_lit ?_
      refine wE (ev_move rfl) F S rfl fun a F=>?_
      refine wE (ev_build (parts := [(0, .const (.i6 2)), (1, .tmp 19)]) (vs := [(0, .i6 2), (1, .i6 x1)]) rfl (fun w => tb30_0_1 2 x1 w)) F S rfl fun a F=>?_
      refine wl_storeC (wn rfl) rfl F S rfl rfl (vs := [.i6 2, .i6 x1]) rfl ts30 (one_cons rfl (one_cons rfl one_nil)) (k := 0) rfl (lb rfl) (c' := #[.i6 2, .i6 x1]) rfl rfl ?_; clear S; intro w S
      refine wpList_nil ?_
      refine then_n ?_
      refine wp_ret ?_
      refine then_r ?_
      refine inb_r ?_
      refine then_r ?_
      refine then_r ?_
      refine inb_r ?_
      refine then_r ?_
      obtain rfl := sinj hm
      obtain rfl := hfin1 _ rfl
      clear hm
      have hm : (some ({ Code := 2, Index := x1 } : Fault) : Option Fault) = some _ := hmo1
      obtain rfl := sinj hm
      refine post_r _ F rfl (ar_cons (resA rfl tu30 rfl (box_ptr (cells := [.i6 2, .i6 x1]) 0 rfl 0 rfl (lb rfl) w S) ts30) ar_nil) ?_
      replace S : St g2 [] fr w := St.tail [] _ S
      exact ⟨_, rfl, g2, l2, S, rfl⟩
     ·refine wp_condF F rfl hc3 ?_
      refine wp_skip ?_
      refine then_n ?_
      refine wp_seq ?_
      refine wp_region_lit ?_
      refine wE (ev_move rfl) F S rfl fun a F=>?_
      obtain ⟨y2, hy2, hm⟩ := bind_some hm
      refine wl_call0 (wn rfl) rfl F rfl (strings_IndexByte_ok (fr := (fl [[bx b1 #[.i6 0, .i6 0] 30]] fr)) y1 10 S hy2) rfl tc169 rfl rfl ?_; clear F a S
      rintro _ a w ⟨g3, l3, S, rfl⟩ F; replace S : St g3 [[bx b1 #[.i6 0, .i6 0] 30]] fr w := S
      refine wE (ev_int rfl rfl (bo_geq _ _ _ _)) F S rfl fun a F=>?_
      refine wpList_nil ?_
      refine then_n ?_
      obtain ⟨hc4, hm⟩ | ⟨hc4, hm⟩ := ite_or hm
      ·refine wp_condT F rfl hc4 ?_
       refine wp_seq ?_
       refine wp_region_lit ?_
       refine wE (ev_move rfl) F S rfl fun a F=>?_
       refine wE (ev_build (parts := [(0, .const (.i6 5)), (1, .tmp 24)]) (vs := [(0, .i6 5), (1, .i6 x1)]) rfl (fun w => tb30_0_1 5 x1 w)) F S rfl fun a F=>?_
       refine wl_storeC (wn rfl) rfl F S rfl rfl (vs := [.i6 5, .i6 x1]) rfl ts30 (one_cons rfl (one_cons rfl one_nil)) (k := 0) rfl (lb rfl) (c' := #[.i6 5, .i6 x1]) rfl rfl ?_; clear S; intro w S
       refine wpList_nil ?_
       refine then_n ?_
       refine wp_ret ?_
       refine inb_r ?_
       refine then_r ?_
       refine then_r ?_
       refine inb_r ?_
       refine then_r ?_
       obtain rfl := sinj hm
       obtain rfl := hfin1 _ rfl
       clear hm
       have hm : (some ({ Code := 5, Index := x1 } : Fault) : Option Fault) = some _ := hmo1
       obtain rfl := sinj hm
       refine post_r _ F rfl (ar_cons (resA rfl tu30 rfl (box_ptr (cells := [.i6 5, .i6 x1]) 0 rfl 0 rfl (lb rfl) w S) ts30) ar_nil) ?_
       replace S : St g3 [] fr w := St.tail [] _ S
       exact ⟨_, rfl, g3, (l2.trans l3), S, rfl⟩
      ·refine wp_condF F rfl hc4 ?_
       refine wp_skip ?_
       refine inb_n ?_
       refine then_n ?_
       refine wp_region_lit ?_
       obtain ⟨z1, hz1, hm⟩ := bind_some hm
       refine wE (ev_int rfl rfl (bo_add hz1)) F S rfl fun a F=>?_
       refine wE (ev_move rfl) F S rfl fun a F=>?_
       refine wpList_nil ?_
       refine then_n ?_
       obtain rfl := sinj hm
       refine ⟨_, rfl, ?_⟩
       exact ⟨g3, F.sub ⟨rfl, rfl, rfl, rfl, trivial⟩, (l2.trans l3), S⟩
    ·refine wp_condF F rfl hc2 ?_
     refine wp_exit ?_
     refine then_e ?_
     refine then_e ?_
     refine inb_x ?_
     refine then_n ?_
     obtain rfl := sinj hm
     obtain rfl := hfin1 _ rfl
     clear hm
     have hm : (lines_Validate.j1 : Option Fault) = some _ := hmo1
     exact ⟨g2, F.sub ⟨rfl, trivial⟩, l2, S, hm⟩
  ·clear F S hm; rintro a w ⟨g1, F, l1, S, hm⟩
   refine wp_seq ?_
   refine wp_region_lit ?_
   refine wE (ev_build (parts := []) (vs := []) rfl (fun w => tb30_  w)) F S rfl fun a F=>?_
   refine wl_storeC (wn rfl) rfl F S rfl rfl (vs := [.i6 0, .i6 0]) rfl ts30 (one_cons rfl (one_cons rfl one_nil)) (k := 0) rfl (lb rfl) (c' := #[.i6 0, .i6 0]) rfl rfl ?_; clear S; intro w S
   refine wpList_nil ?_
   refine then_n ?_
   refine wp_ret ?_
   obtain rfl := sinj hm
   refine post_r _ F rfl (ar_cons (resA rfl tu30 rfl (box_ptr (cells := [.i6 0, .i6 0]) 0 rfl 0 rfl (lb rfl) w S) ts30) ar_nil) ?_
   replace S : St g1 [] fr w := St.tail [] _ S
   exact ⟨_, rfl, g1, l1, S, rfl⟩

theorem textpatch_End_ok {g : Gh} {fr : Hl} {w : World} {r : Int} (h_ : Hunk) (vh_1 : Value) (hh_1 : RepSl g h_.Old vh_1) (vh_2 : Value) (hh_2 : RepSl g h_.New vh_2) (S : St g [] fr w) (hm : textpatch_End h_ = some r) :
  Calls Tryz.prog 110 [.agg #[.i6 h_.At, vh_1, vh_2]].toArray w (fun en w' => ∃ v, en = .returned v ∧ ∃ (g' : Gh), Le g g' ∧ St g' [] fr w' ∧ .i6 r = v) := by
 unfold textpatch_End at hm
 refine calls_enter (fn := Tryz.f110) Tryz.func110 rfl Tryz.ntmps110 (lb rfl) ?_
 intro a F
 replace F : Fr 9 a [(0, .agg #[.i6 h_.At, vh_1, vh_2])] := F
 refine wp_seq ?_
 refine wp_region_lit ?_
 refine wl_boxC (wn rfl) rfl rfl rfl F S rfl rfl ?_; clear F a S; rintro b1 a w F S
 refine wE (ev_assign rfl) F S rfl fun a F=>?_
 refine wpList_nil ?_
 refine then_n ?_
 refine wp_seq ?_
 refine wp_region_lit ?_
 refine wE (ev_fieldAddr' tu91 tf91_0 (z := 0) ts3 rfl ⟨_, rfl⟩ rfl) F S rfl fun a F=>?_
 refine wE (ev_load1 tu3 rfl rfl (box_ptr (cells := [.i6 h_.At]) 0 rfl 0 rfl (lb rfl))) F S rfl fun a F=>?_
 refine wE (ev_fieldAddr' tu91 tf91_1 (z := 0) ts42 rfl ⟨_, rfl⟩ rfl) F S rfl fun a F=>?_
 refine wE (ev_load1 tu42 rfl rfl (box_ptr (cells := [vh_1]) 0 rfl 1 rfl (lb rfl))) F S rfl fun a F=>?_
 refine wE (ev_lenSh hh_1 rfl tu42) F S rfl fun a F=>?_
 obtain ⟨z1, hz1, hm⟩ := bind_some hm
 refine wE (ev_int rfl rfl (bo_add hz1)) F S rfl fun a F=>?_
 refine wE (ev_assign rfl) F S rfl fun a F=>?_
 refine wpList_nil ?_
 refine then_n ?_
 refine wp_ret ?_
 obtain rfl := sinj hm
 refine post_r _ F rfl (ar_cons (resT rfl) ar_nil) ?_
 replace S : St g [] fr w := St.tail [] _ S
 exact ⟨_, rfl, g, (Le.refl _), S, rfl⟩

theorem textpatch_hunk_ok {g : Gh} {fr : Hl} {w : World} {r : Int} (h_ : Hunk) (vh_1 : Value) (hh_1 : RepSl g h_.Old vh_1) (vh_2 : Value) (hh_2 : RepSl g h_.New vh_2) (end_ : Int) (S : St g [] fr w) (hm : textpatch_hunk h_ end_ = some r) :
  Calls Tryz.prog 109 [.agg #[.i6 h_.At, vh_1, vh_2], .i6 end_].toArray w (fun en w' => ∃ v, en = .returned v ∧ ∃ (g' : Gh), Le g g' ∧ St g' [] fr w' ∧ .i6 r = v) := by
 unfold textpatch_hunk at hm
 refine calls_enter (fn := Tryz.f109) Tryz.func109 rfl Tryz.ntmps109 (lb rfl) ?_
 intro a F
 replace F : Fr 49 a [(0, .agg #[.i6 h_.At, vh_1, vh_2]), (1, .i6 end_)] := F
 refine wp_seq ?_
 refine wp_region_lit ?_
 refine wl_boxC (wn rfl) rfl rfl rfl F S rfl rfl ?_; clear F a S; rintro b1 a w F S
 refine wE (ev_assign rfl) F S rfl fun a F=>?_
 refine wpList_nil ?_
 refine then_n ?_
 refine wp_seq ?_
 refine wp_seq ?_
 refine wp_region_lit ?_
 refine wE (ev_fieldAddr' tu91 tf91_0 (z := 0) ts3 rfl ⟨_, rfl⟩ rfl) F S rfl fun a F=>?_
 refine wE (ev_load1 tu3 rfl rfl (box_ptr (cells := [.i6 h_.At]) 0 rfl 0 rfl (lb rfl))) F S rfl fun a F=>?_
 refine wE (ev_int rfl rfl (bo_lss _ _ _ _)) F S rfl fun a F=>?_
 refine wE (ev_move rfl) F S rfl fun a F=>?_
 obtain ⟨x1, hx1, hm⟩ := bind_some hm
 refine wl_cut 4 (fun a w' => w = w' ∧ Fr 49 a [(15, .bool x1), (2, bp b1 0), (1, .i6 end_)]) ?_ ?_
 ·clear hm; obtain ⟨hc1, hm⟩ | ⟨hc1, hm⟩ := ite_or hx1
  ·refine wl_skip rfl rfl rfl rfl (ne_ft hc1) F rfl rfl ?_; clear F a; intro a F
   refine wl_skip rfl rfl rfl rfl (ne_ft hc1) F rfl rfl ?_; clear F a; intro a F
   refine wl_skip rfl rfl rfl rfl (ne_ft hc1) F rfl rfl ?_; clear F a; intro a F
   refine wE (ev_pickT rfl hc1 rfl) F S rfl fun a F=>?_
   obtain rfl := sinj hm
   refine wpList_nil (then_n ?_); exact ⟨rfl, F.sub ⟨rfl, rfl, rfl, trivial⟩⟩
  ·refine wl_ev (wg F rfl rfl rfl rfl hc1) (ev_fieldAddr' tu91 tf91_0 (z := 0) ts3 rfl ⟨_, rfl⟩ rfl) F S rfl rfl ?_; clear F a; intro a F
   refine wl_ev (wg F rfl rfl rfl rfl hc1) (ev_load1 tu3 rfl rfl (box_ptr (cells := [.i6 h_.At]) 0 rfl 0 rfl (lb rfl))) F S rfl rfl ?_; clear F a; intro a F
   refine wl_ev (wg F rfl rfl rfl rfl hc1) (ev_int rfl rfl (bo_gtr _ _ _ _)) F S rfl rfl ?_; clear F a; intro a F
   refine wE (ev_pickF rfl hc1 rfl) F S rfl fun a F=>?_
   obtain rfl := sinj hm
   refine wpList_nil (then_n ?_); exact ⟨rfl, F.sub ⟨rfl, rfl, rfl, trivial⟩⟩
 clear F; rintro a w' ⟨rfl, F⟩
 refine wpList_nil ?_
 refine then_n ?_
 obtain ⟨hc2, hm⟩ | ⟨hc2, hm⟩ := ite_or hm
 ·refine wp_condT F rfl hc2 ?_
  refine wp_seq ?_
  refine wp_region_lit ?_
  refine wE (ev_assign rfl) F S rfl fun a F=>?_
  refine wpList_nil ?_
  refine then_n ?_
  refine wp_ret ?_
  refine then_r ?_
  obtain rfl := sinj hm
  refine post_r _ F rfl (ar_cons (resT rfl) ar_nil) ?_
  replace S : St g [] fr w := St.tail [] _ S
  exact ⟨_, rfl, g, (Le.refl _), S, rfl⟩
 ·refine wp_condF F rfl hc2 ?_
  refine wp_skip ?_
  refine then_n ?_
  refine wp_cut (fun a w => ∃ (g1 : Gh), Fr 49 a [(2, bp b1 0), (1, .i6 end_)] ∧ Le g g1 ∧ St g1 [[bx b1 #[.i6 h_.At, vh_1, vh_2] 91]] fr w ∧ textpatch_hunk.j1 h_ end_ = some r) ?_ ?_
  ·refine wp_seq ?_
   refine wp_region_lit ?_
   refine wE (ev_fieldAddr' tu91 tf91_1 (z := 0) ts42 rfl ⟨_, rfl⟩ rfl) F S rfl fun a F=>?_
   refine wE (ev_load1 tu42 rfl rfl (box_ptr (cells := [vh_1]) 0 rfl 1 rfl (lb rfl))) F S rfl fun a F=>?_
   refine wE (ev_fieldAddr' tu91 tf91_2 (z := 0) ts42 rfl ⟨_, rfl⟩ rfl) F S rfl fun a F=>?_
   refine wE (ev_load1 tu42 rfl rfl (box_ptr (cells := [vh_2]) 0 rfl 2 rfl (lb rfl))) F S rfl fun a F=>?_
   refine wE (ev_build (parts := [(0, .tmp 17), (1, .tmp 19)]) (vs := [(0, vh_1), (1, vh_2)]) rfl (fun w => tb216_0_1 vh_1 (RepSl.isSl hh_1) vh_2 (RepSl.isSl hh_2) w)) F S rfl fun a F=>?_
   refine wE (ev_move rfl) F S rfl fun a F=>?_
   refine wpList_nil ?_
   refine then_n ?_
   refine wp_block ?_
   obtain ⟨r1, hr1, hm⟩ := bind_some hm
   have hmo1 := hm; clear hm
   refine wp_iter (σ := Int) (ρ := Int ⊕ Unit) (m := fun s => textpatch_hunk.l1 h_ s) (I := fun x3 a w => ∃ (g3 : Gh), Fr 49 a [(21, .i6 x3), (20, .agg #[vh_1, vh_2]), (2, bp b1 0), (1, .i6 end_)] ∧ Le g g3 ∧ St g3 [[bx b1 #[.i6 h_.At, vh_1, vh_2] 91]] fr w) hr1 ?_ ?_
   ·exact ⟨g, F.sub ⟨rfl, rfl, rfl, rfl, trivial⟩, (Le.refl _), S⟩
   ·clear F S; rintro x3 a w x4 ⟨g3, F, l3, S⟩ hx3 hfin1
    have hm : textpatch_hunk.l1 h_ x3 = some x4 := hx3; clear hx3
    unfold textpatch_hunk.l1 at hm
    refine wp_seq ?_
    refine wp_region_lit ?_
    refine wE (ev_int rfl rfl (bo_lss _ _ _ _)) F S rfl fun a F=>?_
    refine wpList_nil ?_
    refine then_n ?_
    refine wp_seq ?_
    obtain ⟨hc6, hm⟩ | ⟨hc6, hm⟩ := ite_or hm
    ·refine wp_condT F rfl hc6 ?_
     refine wp_skip ?_
     refine then_n ?_
     refine wp_seq ?_
     refine wp_block ?_
     refine wp_seq ?_
     refine wp_region_lit ?_
     obtain ⟨y2, hy2, hm⟩ := bind_some hm
     obtain ⟨v1, h1, he1⟩ := ev_indexASl (P := Tryz.prog) (n := 49) (e := [(22, .bool (decide (x3 < 2))), (21, .i6 x3), (20, .agg #[vh_1, vh_2]), (2, bp b1 0), (1, .i6 end_)]) (C := fun w => St g3 [[bx b1 #[.i6 h_.At, vh_1, vh_2] 91]] fr w) (g := g3) (x := .tmp 20) (y := .tmp 21) hy2 tu216 tu42 ts42 rfl (cs := [vh_1, vh_2]) ⟨(hh_1.mono l3), ⟨(hh_2.mono l3), trivial⟩⟩ rfl rfl
     refine wE he1 F S rfl fun a F=>?_
     refine wE (ev_assign rfl) F S rfl fun a F=>?_
     refine wpList_nil ?_
     refine then_n ?_
     refine wp_seq ?_
     refine wp_region_lit ?_
     refine wE (ev_move rfl) F S rfl fun a F=>?_
     obtain ⟨y3, hy3, hm⟩ := bind_some hm
     refine wl_call0 (wn rfl) rfl F rfl (lines_Validate_ok (fr := (fl [[bx b1 #[.i6 h_.At, vh_1, vh_2] 91]] fr)) y2 v1 h1 S hy3) rfl tc108 rfl rfl ?_; clear F a S
     rintro _ a w ⟨g4, l4, S, rfl⟩ F; replace S : St g4 [[bx b1 #[.i6 h_.At, vh_1, vh_2] 91]] fr w := S
     refine wl_alloc (wn rfl) rfl tz30 (cs := [.i6 0, .i6 0]) rfl F S rfl rfl ?_; clear F a S; rintro b2 a w F S
     refine wl_storeC (wn rfl) rfl F S rfl rfl (vs := [.i6 y3.Code, .i6 y3.Index]) rfl ts30 (one_cons rfl (one_cons rfl one_nil)) (k := 0) rfl (lb rfl) (c' := #[.i6 y3.Code, .i6 y3.Index]) rfl rfl ?_; clear S; intro w S
     refine wpList_nil ?_
     refine then_n ?_
     refine wp_seq ?_
     refine wp_region_lit ?_
     refine wE (ev_loadA tu30 rfl (cs := [.i6 y3.Code, .i6 y3.Index]) ts30 rfl (box_ptr (cells := [.i6 y3.Code, .i6 y3.Index]) 0 rfl 0 rfl (lb rfl))) F S rfl fun a F=>?_
     refine wE (ev_build (parts := []) (vs := []) rfl (fun w => tb30_  w)) F S rfl fun a F=>?_
     refine wE (ev_neS tu30 tqa30 tqb30 tqc30 (xs := [.i6 y3.Code, .i6 y3.Index]) (ys := [.i6 0, .i6 0]) rfl rfl ⟨_, _, rfl, by decide, ⟨_, _, rfl, rfl, leaf_int tu3⟩, ⟨_, _, rfl, by decide, ⟨_, _, rfl, rfl, leaf_int tu3⟩, rfl⟩⟩) F S rfl fun a F=>?_
     refine wpList_nil ?_
     refine then_n ?_
     obtain ⟨hc7, hm⟩ | ⟨hc7, hm⟩ := ite_or hm
     ·refine wp_condT F rfl hc7 ?_
      refine wp_seq ?_
      refine wp_region_lit ?_
      refine wE (ev_fieldAddr' tu30 tf30_0 (z := 0) ts3 rfl ⟨_, rfl⟩ rfl) F S rfl fun a F=>?_
      refine wE (ev_load1 tu3 rfl rfl (box_ptr (cells := [.i6 y3.Code]) 0 rfl 0 rfl (lb rfl))) F S rfl fun a F=>?_
      refine wE (ev_assign rfl) F S rfl fun a F=>?_
      refine wpList_nil ?_
      refine then_n ?_
      refine wp_ret ?_
      refine inb_r ?_
      refine then_r ?_
      refine then_r ?_
      refine inb_r ?_
      refine then_r ?_
      obtain rfl := sinj hm
      obtain rfl := hfin1 _ rfl
      clear hm
      have hm : (some y3.Code : Option Int) = some _ := hmo1
      obtain rfl := sinj hm
      refine post_r _ F rfl (ar_cons (resT rfl) ar_nil) ?_
      replace S : St g4 [] fr w := St.tail [] _ S
      exact ⟨_, rfl, g4, (l3.trans l4), S, rfl⟩
     ·refine wp_condF F rfl hc7 ?_
      refine wp_skip ?_
      refine inb_n ?_
      refine then_n ?_
      refine wp_region_lit ?_
      obtain ⟨z2, hz2, hm⟩ := bind_some hm
      refine wE (ev_int rfl rfl (bo_add hz2)) F S rfl fun a F=>?_
      refine wE (ev_move rfl) F S rfl fun a F=>?_
      refine wpList_nil ?_
      refine then_n ?_
      obtain rfl := sinj hm
      refine ⟨_, rfl, ?_⟩
      replace S : St g4 [[bx b1 #[.i6 h_.At, vh_1, vh_2] 91]] fr w := St.tail [[bx b1 #[.i6 h_.At, vh_1, vh_2] 91]] _ (S.frontC 1 rfl)
      exact ⟨g4, F.sub ⟨rfl, rfl, rfl, rfl, trivial⟩, (l3.trans l4), S⟩
    ·refine wp_condF F rfl hc6 ?_
     refine wp_exit ?_
     refine then_e ?_
     refine then_e ?_
     refine inb_x ?_
     refine then_n ?_
     obtain rfl := sinj hm
     obtain rfl := hfin1 _ rfl
     clear hm
     have hm : (textpatch_hunk.j1 h_ end_ : Option Int) = some _ := hmo1
     exact ⟨g3, F.sub ⟨rfl, rfl, trivial⟩, l3, S, hm⟩
  ·clear F S hm; rintro a w ⟨g1, F, l1, S, hm⟩
   refine wp_seq ?_
   refine wp_seq ?_
   refine wp_region_lit ?_
   refine wE (ev_fieldAddr' tu91 tf91_1 (z := 0) ts42 rfl ⟨_, rfl⟩ rfl) F S rfl fun a F=>?_
   refine wE (ev_load1 tu42 rfl rfl (box_ptr (cells := [vh_1]) 0 rfl 1 rfl (lb rfl))) F S rfl fun a F=>?_
   refine wE (ev_lenSh hh_1 rfl tu42) F S rfl fun a F=>?_
   refine wE (ev_fieldAddr' tu91 tf91_2 (z := 0) ts42 rfl ⟨_, rfl⟩ rfl) F S rfl fun a F=>?_
   refine wE (ev_load1 tu42 rfl rfl (box_ptr (cells := [vh_2]) 0 rfl 2 rfl (lb rfl))) F S rfl fun a F=>?_
   refine wE (ev_lenSh hh_2 rfl tu42) F S rfl fun a F=>?_
   obtain ⟨z1, hz1, hm⟩ := bind_some hm
   refine wE (ev_int rfl rfl (bo_add hz1)) F S rfl fun a F=>?_
   refine wE (ev_int rfl rfl (bo_eql _ _ _ _)) F S rfl fun a F=>?_
   refine wE (ev_move rfl) F S rfl fun a F=>?_
   obtain ⟨x2, hx2, hm⟩ := bind_some hm
   refine wl_cut 5 (fun a w' => w = w' ∧ Fr 49 a [(45, .bool x2), (2, bp b1 0)]) ?_ ?_
   ·clear hm; obtain ⟨hc3, hm⟩ | ⟨hc3, hm⟩ := ite_or hx2
    ·refine wl_skip rfl rfl rfl rfl (ne_ft hc3) F rfl rfl ?_; clear F a; intro a F
     refine wl_skip rfl rfl rfl rfl (ne_ft hc3) F rfl rfl ?_; clear F a; intro a F
     refine wl_skip rfl rfl rfl rfl (ne_ft hc3) F rfl rfl ?_; clear F a; intro a F
     refine wl_skip rfl rfl rfl rfl (ne_ft hc3) F rfl rfl ?_; clear F a; intro a F
     refine wE (ev_pickT rfl hc3 rfl) F S rfl fun a F=>?_
     obtain rfl := sinj hm
     refine wpList_nil (then_n ?_); exact ⟨rfl, F.sub ⟨rfl, rfl, trivial⟩⟩
    ·refine wl_ev (wg F rfl rfl rfl rfl hc3) (ev_fieldAddr' tu91 tf91_0 (z := 0) ts3 rfl ⟨_, rfl⟩ rfl) F S rfl rfl ?_; clear F a; intro a F
     refine wl_ev (wg F rfl rfl rfl rfl hc3) (ev_load1 tu3 rfl rfl (box_ptr (cells := [.i6 h_.At]) 0 rfl 0 rfl (lb rfl))) F S rfl rfl ?_; clear F a; intro a F
     refine wl_ev (wg F rfl rfl rfl rfl hc3) (ev_move rfl) F S rfl rfl ?_; clear F a; intro a F
     refine wl_ev (wg F rfl rfl rfl rfl hc3) (ev_int rfl rfl (bo_leq _ _ _ _)) F S rfl rfl ?_; clear F a; intro a F
     refine wE (ev_pickF rfl hc3 rfl) F S rfl fun a F=>?_
     obtain rfl := sinj hm
     refine wpList_nil (then_n ?_); exact ⟨rfl, F.sub ⟨rfl, rfl, trivial⟩⟩
   clear F; rintro a w' ⟨rfl, F⟩
   refine wpList_nil ?_
   refine then_n ?_
   obtain ⟨hc4, hm⟩ | ⟨hc4, hm⟩ := ite_or hm
   ·refine wp_condT F rfl hc4 ?_
    refine wp_seq ?_
    refine wp_region_lit ?_
    refine wE (ev_assign rfl) F S rfl fun a F=>?_
    refine wpList_nil ?_
    refine then_n ?_
    refine wp_ret ?_
    refine then_r ?_
    obtain rfl := sinj hm
    refine post_r _ F rfl (ar_cons (resT rfl) ar_nil) ?_
    replace S : St g1 [] fr w := St.tail [] _ S
    exact ⟨_, rfl, g1, l1, S, rfl⟩
   ·refine wp_condF F rfl hc4 ?_
    refine wp_skip ?_
    refine then_n ?_
    refine wp_seq ?_
    refine wp_seq ?_
    refine wp_region_lit ?_
    refine wE (ev_loadA tu91 rfl (cs := [.i6 h_.At, vh_1, vh_2]) ts91 rfl (box_ptr (cells := [.i6 h_.At, vh_1, vh_2]) 0 rfl 0 rfl (lb rfl))) F S rfl fun a F=>?_
    obtain ⟨y1, hy1, hm⟩ := bind_some hm
    refine wl_call0 (wn rfl) rfl F rfl (textpatch_End_ok (fr := (fl [[bx b1 #[.i6 h_.At, vh_1, vh_2] 91]] fr)) h_ vh_1 (hh_1.mono l1) vh_2 (hh_2.mono l1) S hy1) rfl tc110 rfl rfl ?_; clear F a S
    rintro _ a w ⟨g2, l2, S, rfl⟩ F; replace S : St g2 [[bx b1 #[.i6 h_.At, vh_1, vh_2] 91]] fr w := S
    refine wE (ev_int rfl rfl (bo_gtr _ _ _ _)) F S rfl fun a F=>?_
    refine wpList_nil ?_
    refine then_n ?_
    obtain ⟨hc5, hm⟩ | ⟨hc5, hm⟩ := ite_or hm
    ·refine wp_condT F rfl hc5 ?_
     refine wp_seq ?_
     refine wp_region_lit ?_
     refine wE (ev_assign rfl) F S rfl fun a F=>?_
     refine wpList_nil ?_
     refine then_n ?_
     refine wp_ret ?_
     refine then_r ?_
     obtain rfl := sinj hm
     refine post_r _ F rfl (ar_cons (resT rfl) ar_nil) ?_
     replace S : St g2 [] fr w := St.tail [] _ S
     exact ⟨_, rfl, g2, (l1.trans l2), S, rfl⟩
    ·refine wp_condF F rfl hc5 ?_
     refine wp_skip ?_
     refine then_n ?_
     refine wp_seq ?_
     refine wp_region_lit ?_
     refine wE (ev_assign rfl) F S rfl fun a F=>?_
     refine wpList_nil ?_
     refine then_n ?_
     refine wp_ret ?_
     obtain rfl := sinj hm
     refine post_r _ F rfl (ar_cons (resT rfl) ar_nil) ?_
     replace S : St g2 [] fr w := St.tail [] _ S
     exact ⟨_, rfl, g2, (l1.trans l2), S, rfl⟩

theorem textpatch_Validate_ok {g : Gh} {fr : Hl} {w : World} {r : Fault} (p_ : Patch) (vp_1 : Value) (hp_1 : RepSl g p_.Hunks vp_1) (S : St g [] fr w) (hm : textpatch_Validate p_ = some r) :
  Calls Tryz.prog 55 [.agg #[vp_1]].toArray w (fun en w' => ∃ v, en = .returned v ∧ ∃ (g' : Gh), Le g g' ∧ St g' [] fr w' ∧ .agg #[.i6 r.Code, .i6 r.Index] = v) := by
 unfold textpatch_Validate at hm
 refine calls_enter (fn := Tryz.f55) Tryz.func55 rfl Tryz.ntmps55 (lb rfl) ?_
 intro a F
 replace F : Fr 32 a [(0, .agg #[vp_1])] := F
 refine wp_seq ?_
 refine wp_region_lit ?_
 refine wl_boxC (wn rfl) rfl rfl rfl F S rfl rfl ?_; clear F a S; rintro b1 a w F S
 refine wl_alloc (wn rfl) rfl tz30 (cs := [.i6 0, .i6 0]) rfl F S rfl rfl ?_; clear F a S; rintro b2 a w F S
 refine wpList_nil ?_
 refine then_n ?_
 refine wp_seq ?_
 refine wp_seq ?_
 refine wp_region_lit ?_
 refine wE (ev_fieldAddr' tu45 tf45_0 (z := 0) ts43 rfl ⟨_, rfl⟩ rfl) F S rfl fun a F=>?_
 refine wE (ev_load1 tu43 rfl rfl (box_ptr (cells := [vp_1]) 1 rfl 0 rfl (lb rfl))) F S rfl fun a F=>?_
 refine wE (ev_lenSh hp_1 rfl tu43) F S rfl fun a F=>?_
 refine wE (ev_int rfl rfl (bo_gtr _ _ _ _)) F S rfl fun a F=>?_
 refine wpList_nil ?_
 refine then_n ?_
 obtain ⟨hc1, hm⟩ | ⟨hc1, hm⟩ := ite_or hm
 ·refine wp_condT F rfl hc1 ?_
  refine wp_seq ?_
  refine wp_region_lit ?_
  refine wE (ev_build (parts := [(0, .const (.i6 2)), (1, .const (.i6 (-1)))]) (vs := [(0, .i6 2), (1, .i6 (-1))]) rfl (fun w => tb30_0_1 2 (-1) w)) F S rfl fun a F=>?_
  refine wl_storeC (wn rfl) rfl F S rfl rfl (vs := [.i6 2, .i6 (-1)]) rfl ts30 (one_cons rfl (one_cons rfl one_nil)) (k := 0) rfl (lb rfl) (c' := #[.i6 2, .i6 (-1)]) rfl rfl ?_; clear S; intro w S
  refine wpList_nil ?_
  refine then_n ?_
  refine wp_ret ?_
  refine then_r ?_
  obtain rfl := sinj hm
  refine post_r _ F rfl (ar_cons (resA rfl tu30 rfl (box_ptr (cells := [.i6 2, .i6 (-1)]) 0 rfl 0 rfl (lb rfl) w S) ts30) ar_nil) ?_
  replace S : St g [] fr w := St.tail [] _ S
  exact ⟨_, rfl, g, (Le.refl _), S, rfl⟩
 ·refine wp_condF F rfl hc1 ?_
  refine wp_skip ?_
  refine then_n ?_
  refine wp_seq ?_
  refine wp_region_lit ?_
  refine wE (ev_assign rfl) F S rfl fun a F=>?_
  refine wpList_nil ?_
  refine then_n ?_
  refine wp_cut (fun a w => ∃ (g1 : Gh), Fr 32 a [(2, bp b2 0)] ∧ Le g g1 ∧ St g1 [[bx b2 #[.i6 0, .i6 0] 30]] fr w ∧ textpatch_Validate.j1 = some r) ?_ ?_
  ·refine wp_seq ?_
   refine wp_region_lit ?_
   refine wE (ev_fieldAddr' tu45 tf45_0 (z := 0) ts43 rfl ⟨_, rfl⟩ rfl) F S rfl fun a F=>?_
   refine wE (ev_load1 tu43 rfl rfl (box_ptr (cells := [vp_1]) 1 rfl 0 rfl (lb rfl))) F S rfl fun a F=>?_
   refine wE (ev_lenSh hp_1 rfl tu43) F S rfl fun a F=>?_
   refine wE (ev_move rfl) F S rfl fun a F=>?_
   refine wpList_nil ?_
   refine then_n ?_
   refine wp_block ?_
   obtain ⟨r1, hr1, hm⟩ := bind_some hm
   have hmo1 := hm; clear hm
   refine wp_iter (σ := Int × Int) (ρ := Fault ⊕ Unit) (m := fun s => textpatch_Validate.l1 p_ s.1 s.2) (I := fun s a w => match s with | (x1, x2) => ∃ (g2 : Gh), Fr 32 a [(15, .i6 x1), (14, .i6 (p_.Hunks.length : Int)), (13, vp_1), (3, .i6 x2), (2, bp b2 0)] ∧ Le g g2 ∧ St g2 [[bx b2 #[.i6 0, .i6 0] 30]] fr w) hr1 ?_ ?_
   ·dsimp only
    replace S : St g [[bx b2 #[.i6 0, .i6 0] 30]] fr w := St.tail [[bx b2 #[.i6 0, .i6 0] 30]] _ (S.frontC 0 rfl)
    exact ⟨g, F.sub ⟨rfl, rfl, rfl, rfl, rfl, trivial⟩, (Le.refl _), S⟩
   ·clear F S; rintro ⟨x1, x2⟩ a w x3 ⟨g2, F, l2, S⟩ hx1 hfin1
    have hm : textpatch_Validate.l1 p_ x1 x2 = some x3 := hx1; clear hx1
    unfold textpatch_Validate.l1 at hm
    refine wp_seq ?_
    refine wp_region_lit ?_
    refine wE (ev_int rfl rfl (bo_lss _ _ _ _)) F S rfl fun a F=>?_
    refine wpList_nil ?_
    refine then_n ?_
    refine wp_seq ?_
    obtain ⟨hc2, hm⟩ | ⟨hc2, hm⟩ := ite_or hm
    ·refine wp_condT F rfl hc2 ?_
     refine wp_skip ?_
     refine then_n ?_
     refine wp_seq ?_
     refine wp_block ?_
     refine wp_seq ?_
     refine wp_region_lit ?_
     refine wE (ev_move rfl) F S rfl fun a F=>?_
     obtain ⟨y1, hy1, hm⟩ := bind_some hm
     obtain ⟨cs1, hr2, hp1⟩ := elemS (hp_1.mono l2) hy1
     obtain ⟨v1, v2, rfl, h1, h2⟩ := rep_Hunk hr2
     refine wE (ev_idxS (hp_1.mono l2) hy1 tu43 ts91 rfl rfl) F S rfl fun a F=>?_
     refine wE (ev_loadA tu91 rfl (cs := [.i6 y1.At, v1, v2]) ts91 rfl (ptr_mono (cks := [[bx b2 #[.i6 0, .i6 0] 30]]) (fr := fr) hp1 (Le.refl _))) F S rfl fun a F=>?_
     refine wl_alloc (wn rfl) rfl tz91 (cs := [.i6 0, nilS, nilS]) rfl F S rfl rfl ?_; clear F a S; rintro b3 a w F S
     refine wE (ev_assign rfl) F S rfl fun a F=>?_
     refine wl_storeC (wn rfl) rfl F S rfl rfl (vs := [.i6 y1.At, v1, v2]) rfl ts91 (one_cons rfl (one_cons h1.one (one_cons h2.one one_nil))) (k := 0) rfl (lb rfl) (c' := #[.i6 y1.At, v1, v2]) rfl rfl ?_; clear S; intro w S
     refine wpList_nil ?_
     refine then_n ?_
     refine wp_seq ?_
     refine wp_seq ?_
     refine wp_region_lit ?_
     refine wE (ev_loadA tu91 rfl (cs := [.i6 y1.At, v1, v2]) ts91 rfl (box_ptr (cells := [.i6 y1.At, v1, v2]) 0 rfl 0 rfl (lb rfl))) F S rfl fun a F=>?_
     refine wE (ev_move rfl) F S rfl fun a F=>?_
     obtain ⟨y2, hy2, hm⟩ := bind_some hm
     refine wl_call0 (wn rfl) rfl F rfl (textpatch_hunk_ok (fr := (fl [[bx b3 #[.i6 y1.At, v1, v2] 91], [bx b2 #[.i6 0, .i6 0] 30]] fr)) y1 v1 h1 v2 h2 x2 S hy2) rfl tc109 rfl rfl ?_; clear F a S
     rintro _ a w ⟨g3, l3, S, rfl⟩ F; replace S : St g3 [[bx b3 #[.i6 y1.At, v1, v2] 91], [bx b2 #[.i6 0, .i6 0] 30]] fr w := S
     refine wE (ev_assign rfl) F S rfl fun a F=>?_
     refine wpList_nil ?_
     refine then_n ?_
     refine wp_seq ?_
     refine wp_region_lit ?_
     refine wE (ev_move rfl) F S rfl fun a F=>?_
     refine wE (ev_int rfl rfl (bo_neq _ _ _ _)) F S rfl fun a F=>?_
     refine wpList_nil ?_
     refine then_n ?_
     obtain ⟨hc3, hm⟩ | ⟨hc3, hm⟩ := ite_or hm
     ·refine wp_condT F rfl hc3 ?_
      refine wp_seq ?_
      refine wp_region_lit ?_
      refine wE (ev_move rfl) F S rfl fun a F=>?_
      refine wE (ev_move rfl) F S rfl fun a F=>?_
      refine wE (ev_build (parts := [(0, .tmp 25), (1, .tmp 26)]) (vs := [(0, .i6 y2), (1, .i6 x1)]) rfl (fun w => tb30_0_1 y2 x1 w)) F S rfl fun a F=>?_
      refine wl_storeC (wn rfl) rfl F S rfl rfl (vs := [.i6 y2, .i6 x1]) rfl ts30 (one_cons rfl (one_cons rfl one_nil)) (k := 1) rfl (lb rfl) (c' := #[.i6 y2, .i6 x1]) rfl rfl ?_; clear S; intro w S
      refine wpList_nil ?_
      refine then_n ?_
      refine wp_ret ?_
      refine then_r ?_
      refine inb_r ?_
      refine then_r ?_
      refine then_r ?_
      refine inb_r ?_
      refine then_r ?_
      obtain rfl := sinj hm
      obtain rfl := hfin1 _ rfl
      clear hm
      have hm : (some ({ Code := y2, Index := x1 } : Fault) : Option Fault) = some _ := hmo1
      obtain rfl := sinj hm
      refine post_r _ F rfl (ar_cons (resA rfl tu30 rfl (box_ptr (cells := [.i6 y2, .i6 x1]) 1 rfl 0 rfl (lb rfl) w S) ts30) ar_nil) ?_
      replace S : St g3 [] fr w := St.tail [] _ S
      exact ⟨_, rfl, g3, (l2.trans l3), S, rfl⟩
     ·refine wp_condF F rfl hc3 ?_
      refine wp_skip ?_
      refine then_n ?_
      refine wp_region_lit ?_
      refine wE (ev_loadA tu91 rfl (cs := [.i6 y1.At, v1, v2]) ts91 rfl (box_ptr (cells := [.i6 y1.At, v1, v2]) 0 rfl 0 rfl (lb rfl))) F S rfl fun a F=>?_
      obtain ⟨y3, hy3, hm⟩ := bind_some hm
      refine wl_call0 (wn rfl) rfl F rfl (textpatch_End_ok (fr := (fl [[bx b3 #[.i6 y1.At, v1, v2] 91], [bx b2 #[.i6 0, .i6 0] 30]] fr)) y1 v1 (h1.mono l3) v2 (h2.mono l3) S hy3) rfl tc110 rfl rfl ?_; clear F a S
      rintro _ a w ⟨g4, l4, S, rfl⟩ F; replace S : St g4 [[bx b3 #[.i6 y1.At, v1, v2] 91], [bx b2 #[.i6 0, .i6 0] 30]] fr w := S
      refine wE (ev_assign rfl) F S rfl fun a F=>?_
      refine wpList_nil ?_
      refine inb_n ?_
      refine then_n ?_
      refine wp_region_lit ?_
      obtain ⟨z1, hz1, hm⟩ := bind_some hm
      refine wE (ev_int rfl rfl (bo_add hz1)) F S rfl fun a F=>?_
      refine wE (ev_move rfl) F S rfl fun a F=>?_
      refine wpList_nil ?_
      refine then_n ?_
      obtain rfl := sinj hm
      refine ⟨_, rfl, ?_⟩
      dsimp only
      replace S : St g4 [[bx b2 #[.i6 0, .i6 0] 30]] fr w := St.tail [[bx b2 #[.i6 0, .i6 0] 30]] _ (S.frontC 1 rfl)
      exact ⟨g4, F.sub ⟨rfl, rfl, rfl, rfl, rfl, trivial⟩, ((l2.trans l3).trans l4), S⟩
    ·refine wp_condF F rfl hc2 ?_
     refine wp_exit ?_
     refine then_e ?_
     refine then_e ?_
     refine inb_x ?_
     refine then_n ?_
     obtain rfl := sinj hm
     obtain rfl := hfin1 _ rfl
     clear hm
     have hm : (textpatch_Validate.j1 : Option Fault) = some _ := hmo1
     exact ⟨g2, F.sub ⟨rfl, trivial⟩, l2, S, hm⟩
  ·clear F S hm; rintro a w ⟨g1, F, l1, S, hm⟩
   refine wp_seq ?_
   refine wp_region_lit ?_
   refine wE (ev_build (parts := []) (vs := []) rfl (fun w => tb30_  w)) F S rfl fun a F=>?_
   refine wl_storeC (wn rfl) rfl F S rfl rfl (vs := [.i6 0, .i6 0]) rfl ts30 (one_cons rfl (one_cons rfl one_nil)) (k := 0) rfl (lb rfl) (c' := #[.i6 0, .i6 0]) rfl rfl ?_; clear S; intro w S
   refine wpList_nil ?_
   refine then_n ?_
   refine wp_ret ?_
   obtain rfl := sinj hm
   refine post_r _ F rfl (ar_cons (resA rfl tu30 rfl (box_ptr (cells := [.i6 0, .i6 0]) 0 rfl 0 rfl (lb rfl) w S) ts30) ar_nil) ?_
   replace S : St g1 [] fr w := St.tail [] _ S
   exact ⟨_, rfl, g1, l1, S, rfl⟩

theorem stringslite_HasPrefix_ok {g : Gh} {fr : Hl} {w : World} {r : Bool} (s_ : ByteArray) (prefix_ : ByteArray) (S : St g [] fr w) (hm : stringslite_HasPrefix s_ prefix_ = some r) :
  Calls Tryz.prog 206 [.string s_, .string prefix_].toArray w (fun en w' => ∃ v, en = .returned v ∧ ∃ (g' : Gh), Le g g' ∧ St g' [] fr w' ∧ .bool r = v) := by
 unfold stringslite_HasPrefix at hm
 refine calls_enter (fn := Tryz.f206) Tryz.func206 rfl Tryz.ntmps206 (lb rfl) ?_
 intro a F
 replace F : Fr 18 a [(0, .string s_), (1, .string prefix_)] := F
 refine wp_seq ?_
 refine wp_region_lit ?_
 refine wE (ev_assign rfl) F S rfl fun a F=>?_
 refine wpList_nil ?_
 refine then_n ?_
 refine wp_seq ?_
 refine wp_region_lit ?_
 refine wE (ev_move rfl) F S rfl fun a F=>?_
 refine wE (ev_lenS rfl tu9) F S rfl fun a F=>?_
 refine wE (ev_move rfl) F S rfl fun a F=>?_
 refine wE (ev_lenS rfl tu9) F S rfl fun a F=>?_
 refine wE (ev_int rfl rfl (bo_geq _ _ _ _)) F S rfl fun a F=>?_
 refine wE (ev_move rfl) F S rfl fun a F=>?_
 obtain ⟨x1, hx1, hm⟩ := bind_some hm
 refine wl_cut 7 (fun a w' => w = w' ∧ Fr 18 a [(17, .bool x1), (4, .bool false)]) ?_ ?_
 ·clear hm; obtain ⟨hc1, hm⟩ | ⟨hc1, hm⟩ := ite_or hx1
  ·refine wl_ev (wg F rfl rfl rfl rfl hc1) (ev_move rfl) F S rfl rfl ?_; clear F a; intro a F
   refine wl_ev (wg F rfl rfl rfl rfl hc1) (ev_move rfl) F S rfl rfl ?_; clear F a; intro a F
   refine wl_ev (wg F rfl rfl rfl rfl hc1) (ev_lenS rfl tu9) F S rfl rfl ?_; clear F a; intro a F
   obtain ⟨y1, hy1, hm⟩ := bind_some hm
   refine wl_ev (wg F rfl rfl rfl rfl hc1) (ev_scut hy1 tu9 rfl (bnd0 _) (bndV rfl)) F S rfl rfl ?_; clear F a; intro a F
   refine wl_ev (wg F rfl rfl rfl rfl hc1) (ev_move rfl) F S rfl rfl ?_; clear F a; intro a F
   refine wl_ev (wg F rfl rfl rfl rfl hc1) (ev_str rfl rfl (bs_eql _ _ _)) F S rfl rfl ?_; clear F a; intro a F
   refine wE (ev_pickT rfl hc1 rfl) F S rfl fun a F=>?_
   obtain rfl := sinj hm
   refine wpList_nil (then_n ?_); exact ⟨rfl, F.sub ⟨rfl, rfl, trivial⟩⟩
  ·refine wl_skip rfl rfl rfl rfl (ne_tf hc1) F rfl rfl ?_; clear F a; intro a F
   refine wl_skip rfl rfl rfl rfl (ne_tf hc1) F rfl rfl ?_; clear F a; intro a F
   refine wl_skip rfl rfl rfl rfl (ne_tf hc1) F rfl rfl ?_; clear F a; intro a F
   refine wl_skip rfl rfl rfl rfl (ne_tf hc1) F rfl rfl ?_; clear F a; intro a F
   refine wl_skip rfl rfl rfl rfl (ne_tf hc1) F rfl rfl ?_; clear F a; intro a F
   refine wl_skip rfl rfl rfl rfl (ne_tf hc1) F rfl rfl ?_; clear F a; intro a F
   refine wE (ev_pickF rfl hc1 rfl) F S rfl fun a F=>?_
   obtain rfl := sinj hm
   refine wpList_nil (then_n ?_); exact ⟨rfl, F.sub ⟨rfl, rfl, trivial⟩⟩
 clear F; rintro a w' ⟨rfl, F⟩
 refine wE (ev_assign rfl) F S rfl fun a F=>?_
 refine wpList_nil ?_
 refine then_n ?_
 refine wp_ret ?_
 obtain rfl := sinj hm
 refine post_r _ F rfl (ar_cons (resT rfl) ar_nil) ?_
 exact ⟨_, rfl, g, (Le.refl _), S, rfl⟩

theorem strings_HasPrefix_ok {g : Gh} {fr : Hl} {w : World} {r : Bool} (s_ : ByteArray) (prefix_ : ByteArray) (S : St g [] fr w) (hm : strings_HasPrefix s_ prefix_ = some r) :
  Calls Tryz.prog 150 [.string s_, .string prefix_].toArray w (fun en w' => ∃ v, en = .returned v ∧ ∃ (g' : Gh), Le g g' ∧ St g' [] fr w' ∧ .bool r = v) := by
 unfold strings_HasPrefix at hm
 refine calls_enter (fn := Tryz.f150) Tryz.func150 rfl Tryz.ntmps150 (lb rfl) ?_
 intro a F
 replace F : Fr 8 a [(0, .string s_), (1, .string prefix_)] := F
 refine wp_seq ?_
 refine wp_region_lit ?_
 refine wE (ev_assign rfl) F S rfl fun a F=>?_
 refine wpList_nil ?_
 refine then_n ?_
 refine wp_seq ?_
 refine wp_region_lit ?_
 refine wE (ev_move rfl) F S rfl fun a F=>?_
 refine wE (ev_move rfl) F S rfl fun a F=>?_
 obtain ⟨y1, hy1, hm⟩ := bind_some hm
 refine wl_call0 (wn rfl) rfl F rfl (stringslite_HasPrefix_ok s_ prefix_ S hy1) rfl tc206 rfl rfl ?_; clear F a S
 rintro _ a w ⟨g1, l1, S, rfl⟩ F; replace S : St g1 [] fr w := S
 refine wE (ev_assign rfl) F S rfl fun a F=>?_
 refine wpList_nil ?_
 refine then_n ?_
 refine wp_ret ?_
 obtain rfl := sinj hm
 refine post_r _ F rfl (ar_cons (resT rfl) ar_nil) ?_
 exact ⟨_, rfl, g1, l1, S, rfl⟩

theorem treepatch_Related_ok {g : Gh} {fr : Hl} {w : World} {r : Bool} (a_ : ByteArray) (b_ : ByteArray) (S : St g [] fr w) (hm : treepatch_Related a_ b_ = some r) :
  Calls Tryz.prog 92 [.string a_, .string b_].toArray w (fun en w' => ∃ v, en = .returned v ∧ ∃ (g' : Gh), Le g g' ∧ St g' [] fr w' ∧ .bool r = v) := by
 unfold treepatch_Related at hm
 refine calls_enter (fn := Tryz.f92) Tryz.func92 rfl Tryz.ntmps92 (lb rfl) ?_
 intro a F
 replace F : Fr 20 a [(0, .string a_), (1, .string b_)] := F
 refine wp_seq ?_
 refine wp_region_lit ?_
 refine wE (ev_assign rfl) F S rfl fun a F=>?_
 refine wpList_nil ?_
 refine then_n ?_
 refine wp_seq ?_
 refine wp_region_lit ?_
 refine wE (ev_move rfl) F S rfl fun a F=>?_
 refine wE (ev_move rfl) F S rfl fun a F=>?_
 refine wE (ev_str rfl rfl (bs_eql _ _ _)) F S rfl fun a F=>?_
 refine wE (ev_move rfl) F S rfl fun a F=>?_
 obtain ⟨x1, hx1, hm⟩ := bind_some hm
 refine wl_cut 5 (fun a w => ∃ g1, Fr 20 a [(13, .bool x1), (4, .bool false), (0, .string a_), (1, .string b_)] ∧ Le g g1 ∧ St g1 [] fr w) ?_ ?_
 ·clear hm; obtain ⟨hc1, hm⟩ | ⟨hc1, hm⟩ := ite_or hx1
  ·refine wl_skip rfl rfl rfl rfl (ne_ft hc1) F rfl rfl ?_; clear F a; intro a F
   refine wl_skip rfl rfl rfl rfl (ne_ft hc1) F rfl rfl ?_; clear F a; intro a F
   refine wl_skip rfl rfl rfl rfl (ne_ft hc1) F rfl rfl ?_; clear F a; intro a F
   refine wl_skip rfl rfl rfl rfl (ne_ft hc1) F rfl rfl ?_; clear F a; intro a F
   refine wE (ev_pickT rfl hc1 rfl) F S rfl fun a F=>?_
   obtain rfl := sinj hm
   refine wpList_nil (then_n ?_); exact ⟨g, F.sub ⟨rfl, rfl, rfl, rfl, trivial⟩, (Le.refl _), S⟩
  ·refine wl_ev (wg F rfl rfl rfl rfl hc1) (ev_move rfl) F S rfl rfl ?_; clear F a; intro a F
   refine wl_ev (wg F rfl rfl rfl rfl hc1) (ev_move rfl) F S rfl rfl ?_; clear F a; intro a F
   obtain ⟨z1, hz1, hm⟩ := bind_some hm
   refine wl_ev (wg F rfl rfl rfl rfl hc1) (ev_str rfl rfl (bs_add hz1)) F S rfl rfl ?_; clear F a; intro a F
   obtain ⟨y1, hy1, hm⟩ := bind_some hm
   refine wl_call0 (wg F rfl rfl rfl rfl hc1) rfl F rfl (strings_HasPrefix_ok a_ z1 S hy1) rfl tc150 rfl rfl ?_; clear F a S
   rintro _ a w ⟨g2, l2, S, rfl⟩ F; replace S : St g2 [] fr w := S
   refine wE (ev_pickF rfl hc1 rfl) F S rfl fun a F=>?_
   obtain rfl := sinj hm
   refine wpList_nil (then_n ?_); exact ⟨g2, F.sub ⟨rfl, rfl, rfl, rfl, trivial⟩, l2, S⟩
 clear F S; rintro a w ⟨g1, F, l1, S⟩
 refine wE (ev_move rfl) F S rfl fun a F=>?_
 obtain ⟨x2, hx2, hm⟩ := bind_some hm
 refine wl_cut 5 (fun a w => ∃ g3, Fr 20 a [(19, .bool x2), (4, .bool false)] ∧ Le g1 g3 ∧ St g3 [] fr w) ?_ ?_
 ·clear hm; obtain ⟨hc2, hm⟩ | ⟨hc2, hm⟩ := ite_or hx2
  ·refine wl_skip rfl rfl rfl rfl (ne_ft hc2) F rfl rfl ?_; clear F a; intro a F
   refine wl_skip rfl rfl rfl rfl (ne_ft hc2) F rfl rfl ?_; clear F a; intro a F
   refine wl_skip rfl rfl rfl rfl (ne_ft hc2) F rfl rfl ?_; clear F a; intro a F
   refine wl_skip rfl rfl rfl rfl (ne_ft hc2) F rfl rfl ?_; clear F a; intro a F
   refine wE (ev_pickT rfl hc2 rfl) F S rfl fun a F=>?_
   obtain rfl := sinj hm
   refine wpList_nil (then_n ?_); exact ⟨g1, F.sub ⟨rfl, rfl, trivial⟩, (Le.refl _), S⟩
  ·refine wl_ev (wg F rfl rfl rfl rfl hc2) (ev_move rfl) F S rfl rfl ?_; clear F a; intro a F
   refine wl_ev (wg F rfl rfl rfl rfl hc2) (ev_move rfl) F S rfl rfl ?_; clear F a; intro a F
   obtain ⟨z2, hz2, hm⟩ := bind_some hm
   refine wl_ev (wg F rfl rfl rfl rfl hc2) (ev_str rfl rfl (bs_add hz2)) F S rfl rfl ?_; clear F a; intro a F
   obtain ⟨y2, hy2, hm⟩ := bind_some hm
   refine wl_call0 (wg F rfl rfl rfl rfl hc2) rfl F rfl (strings_HasPrefix_ok b_ z2 S hy2) rfl tc150 rfl rfl ?_; clear F a S
   rintro _ a w ⟨g4, l4, S, rfl⟩ F; replace S : St g4 [] fr w := S
   refine wE (ev_pickF rfl hc2 rfl) F S rfl fun a F=>?_
   obtain rfl := sinj hm
   refine wpList_nil (then_n ?_); exact ⟨g4, F.sub ⟨rfl, rfl, trivial⟩, l4, S⟩
 clear F S; rintro a w ⟨g3, F, l3, S⟩
 refine wE (ev_assign rfl) F S rfl fun a F=>?_
 refine wpList_nil ?_
 refine then_n ?_
 refine wp_ret ?_
 obtain rfl := sinj hm
 refine post_r _ F rfl (ar_cons (resT rfl) ar_nil) ?_
 exact ⟨_, rfl, g3, (l1.trans l3), S, rfl⟩
end Go.Dc
