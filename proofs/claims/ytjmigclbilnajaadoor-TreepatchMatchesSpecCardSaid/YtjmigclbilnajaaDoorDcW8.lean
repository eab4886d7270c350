/- Walks: each function comes to what its model says. -/
import Derived.Test.YtjmigclbilnajaaDoorDcTab
import Derived.Test.YtjmigclbilnajaaDoorDcM
namespace Go.Dc
open Go Go.Proofs
set_option maxRecDepth 100000
set_option maxHeartbeats 4000000
set_option linter.unusedVariables false
theorem changeforgeref2_pathByte_ok {g : Gh} {fr : Hl} {w : World} {r : Bool} (c_ : Int) (S : St g [] fr w) (hm : changeforgeref2_pathByte c_ = some r) :
  Calls Tryd.prog 53 [.int .u8 c_].toArray w (fun en w' => ∃ v, en = .returned v ∧ ∃ (g' : Gh), Le g g' ∧ St g' [] fr w' ∧ .bool r = v) := by
 unfold changeforgeref2_pathByte at hm
 refine calls_enter (fn := Tryd.f53) Tryd.func53 rfl Tryd.ntmps53 (lb rfl) ?_
 intro a F
 replace F : Fr 37 a [(0, .int .u8 c_)] := F
 refine wp_seq ?_
 refine wp_region_lit ?_
 refine wE (ev_assign rfl) F S rfl fun a F=>?_
 refine wpList_nil ?_
 refine then_n ?_
 refine wp_seq ?_
 refine wp_region_lit ?_
 refine wE (ev_move rfl) F S rfl fun a F=>?_
 refine wE (ev_int rfl rfl (bo_geq _ _ _ _)) F S rfl fun a F=>?_
 refine wE (ev_move rfl) F S rfl fun a F=>?_
 obtain ⟨x1, hx1, hm⟩ := bind_some hm
 refine wl_cut 3 (fun a w' => w = w' ∧ Fr 37 a [(8, .bool x1), (2, .bool false), (0, .int .u8 c_)]) ?_ ?_
 ·clear hm; obtain ⟨hc1, hm⟩ | ⟨hc1, hm⟩ := ite_or hx1
  ·refine wl_ev (wg F rfl rfl rfl rfl hc1) (ev_move rfl) F S rfl rfl ?_; clear F a; intro a F
   refine wl_ev (wg F rfl rfl rfl rfl hc1) (ev_int rfl rfl (bo_leq _ _ _ _)) F S rfl rfl ?_; clear F a; intro a F
   refine wE (ev_pickT rfl hc1 rfl) F S rfl fun a F=>?_
   obtain rfl := sinj hm
   refine wpList_nil (then_n ?_); exact ⟨rfl, F.sub ⟨rfl, rfl, rfl, trivial⟩⟩
  ·refine wl_skip rfl rfl rfl rfl (ne_tf hc1) F rfl rfl ?_; clear F a; intro a F
   refine wl_skip rfl rfl rfl rfl (ne_tf hc1) F rfl rfl ?_; clear F a; intro a F
   refine wE (ev_pickF rfl hc1 rfl) F S rfl fun a F=>?_
   obtain rfl := sinj hm
   refine wpList_nil (then_n ?_); exact ⟨rfl, F.sub ⟨rfl, rfl, rfl, trivial⟩⟩
 clear F; rintro a w' ⟨rfl, F⟩
 refine wE (ev_move rfl) F S rfl fun a F=>?_
 obtain ⟨x2, hx2, hm⟩ := bind_some hm
 refine wl_cut 7 (fun a w' => w = w' ∧ Fr 37 a [(16, .bool x2), (2, .bool false), (0, .int .u8 c_)]) ?_ ?_
 ·clear hm; obtain ⟨hc2, hm⟩ | ⟨hc2, hm⟩ := ite_or hx2
  ·refine wl_skip rfl rfl rfl rfl (ne_ft hc2) F rfl rfl ?_; clear F a; intro a F
   refine wl_skip rfl rfl rfl rfl (ne_ft hc2) F rfl rfl ?_; clear F a; intro a F
   refine wl_skip rfl rfl rfl rfl (ne_ft hc2) F rfl rfl ?_; clear F a; intro a F
   refine wl_skipu rfl rfl rfl rfl F rfl rfl ?_; clear F a; intro a F
   refine wl_skipu rfl rfl rfl rfl F rfl rfl ?_; clear F a; intro a F
   refine wl_skip rfl rfl rfl rfl (ne_ft hc2) F rfl rfl ?_; clear F a; intro a F
   refine wE (ev_pickT rfl hc2 rfl) F S rfl fun a F=>?_
   obtain rfl := sinj hm
   refine wpList_nil (then_n ?_); exact ⟨rfl, F.sub ⟨rfl, rfl, rfl, trivial⟩⟩
  ·refine wl_ev (wg F rfl rfl rfl rfl hc2) (ev_move rfl) F S rfl rfl ?_; clear F a; intro a F
   refine wl_ev (wg F rfl rfl rfl rfl hc2) (ev_int rfl rfl (bo_geq _ _ _ _)) F S rfl rfl ?_; clear F a; intro a F
   refine wl_ev (wg F rfl rfl rfl rfl hc2) (ev_move rfl) F S rfl rfl ?_; clear F a; intro a F
   obtain ⟨x3, hx3, hm⟩ := bind_some hm
   refine wl_cut 3 (fun a w' => w = w' ∧ Fr 37 a [(15, .bool x3), (9, .bool x1), (2, .bool false), (0, .int .u8 c_)]) ?_ ?_
   ·clear hm; obtain ⟨hc3, hm⟩ | ⟨hc3, hm⟩ := ite_or hx3
    ·refine wl_ev (wg F rfl rfl rfl rfl hc3) (ev_move rfl) F S rfl rfl ?_; clear F a; intro a F
     refine wl_ev (wg F rfl rfl rfl rfl hc3) (ev_int rfl rfl (bo_leq _ _ _ _)) F S rfl rfl ?_; clear F a; intro a F
     refine wl_ev (wg F rfl rfl rfl rfl hc2) (ev_pickT rfl hc3 rfl) F S rfl rfl ?_; clear F a; intro a F
     obtain rfl := sinj hm
     refine wpList_nil (then_n ?_); exact ⟨rfl, F.sub ⟨rfl, rfl, rfl, rfl, trivial⟩⟩
    ·refine wl_skip rfl rfl rfl rfl (ne_tf hc3) F rfl rfl ?_; clear F a; intro a F
     refine wl_skip rfl rfl rfl rfl (ne_tf hc3) F rfl rfl ?_; clear F a; intro a F
     refine wl_ev (wg F rfl rfl rfl rfl hc2) (ev_pickF rfl hc3 rfl) F S rfl rfl ?_; clear F a; intro a F
     obtain rfl := sinj hm
     refine wpList_nil (then_n ?_); exact ⟨rfl, F.sub ⟨rfl, rfl, rfl, rfl, trivial⟩⟩
   clear F; rintro a w' ⟨rfl, F⟩
   refine wE (ev_pickF rfl hc2 rfl) F S rfl fun a F=>?_
   obtain rfl := sinj hm
   refine wpList_nil (then_n ?_); exact ⟨rfl, F.sub ⟨rfl, rfl, rfl, trivial⟩⟩
 clear F; rintro a w' ⟨rfl, F⟩
 refine wE (ev_move rfl) F S rfl fun a F=>?_
 obtain ⟨x4, hx4, hm⟩ := bind_some hm
 refine wl_cut 7 (fun a w' => w = w' ∧ Fr 37 a [(24, .bool x4), (2, .bool false), (0, .int .u8 c_)]) ?_ ?_
 ·clear hm; obtain ⟨hc4, hm⟩ | ⟨hc4, hm⟩ := ite_or hx4
  ·refine wl_skip rfl rfl rfl rfl (ne_ft hc4) F rfl rfl ?_; clear F a; intro a F
   refine wl_skip rfl rfl rfl rfl (ne_ft hc4) F rfl rfl ?_; clear F a; intro a F
   refine wl_skip rfl rfl rfl rfl (ne_ft hc4) F rfl rfl ?_; clear F a; intro a F
   refine wl_skipu rfl rfl rfl rfl F rfl rfl ?_; clear F a; intro a F
   refine wl_skipu rfl rfl rfl rfl F rfl rfl ?_; clear F a; intro a F
   refine wl_skip rfl rfl rfl rfl (ne_ft hc4) F rfl rfl ?_; clear F a; intro a F
   refine wE (ev_pickT rfl hc4 rfl) F S rfl fun a F=>?_
   obtain rfl := sinj hm
   refine wpList_nil (then_n ?_); exact ⟨rfl, F.sub ⟨rfl, rfl, rfl, trivial⟩⟩
  ·refine wl_ev (wg F rfl rfl rfl rfl hc4) (ev_move rfl) F S rfl rfl ?_; clear F a; intro a F
   refine wl_ev (wg F rfl rfl rfl rfl hc4) (ev_int rfl rfl (bo_geq _ _ _ _)) F S rfl rfl ?_; clear F a; intro a F
   refine wl_ev (wg F rfl rfl rfl rfl hc4) (ev_move rfl) F S rfl rfl ?_; clear F a; intro a F
   obtain ⟨x5, hx5, hm⟩ := bind_some hm
   refine wl_cut 3 (fun a w' => w = w' ∧ Fr 37 a [(23, .bool x5), (17, .bool x2), (2, .bool false), (0, .int .u8 c_)]) ?_ ?_
   ·clear hm; obtain ⟨hc5, hm⟩ | ⟨hc5, hm⟩ := ite_or hx5
    ·refine wl_ev (wg F rfl rfl rfl rfl hc5) (ev_move rfl) F S rfl rfl ?_; clear F a; intro a F
     refine wl_ev (wg F rfl rfl rfl rfl hc5) (ev_int rfl rfl (bo_leq _ _ _ _)) F S rfl rfl ?_; clear F a; intro a F
     refine wl_ev (wg F rfl rfl rfl rfl hc4) (ev_pickT rfl hc5 rfl) F S rfl rfl ?_; clear F a; intro a F
     obtain rfl := sinj hm
     refine wpList_nil (then_n ?_); exact ⟨rfl, F.sub ⟨rfl, rfl, rfl, rfl, trivial⟩⟩
    ·refine wl_skip rfl rfl rfl rfl (ne_tf hc5) F rfl rfl ?_; clear F a; intro a F
     refine wl_skip rfl rfl rfl rfl (ne_tf hc5) F rfl rfl ?_; clear F a; intro a F
     refine wl_ev (wg F rfl rfl rfl rfl hc4) (ev_pickF rfl hc5 rfl) F S rfl rfl ?_; clear F a; intro a F
     obtain rfl := sinj hm
     refine wpList_nil (then_n ?_); exact ⟨rfl, F.sub ⟨rfl, rfl, rfl, rfl, trivial⟩⟩
   clear F; rintro a w' ⟨rfl, F⟩
   refine wE (ev_pickF rfl hc4 rfl) F S rfl fun a F=>?_
   obtain rfl := sinj hm
   refine wpList_nil (then_n ?_); exact ⟨rfl, F.sub ⟨rfl, rfl, rfl, trivial⟩⟩
 clear F; rintro a w' ⟨rfl, F⟩
 refine wE (ev_move rfl) F S rfl fun a F=>?_
 obtain ⟨x6, hx6, hm⟩ := bind_some hm
 refine wl_cut 3 (fun a w' => w = w' ∧ Fr 37 a [(28, .bool x6), (2, .bool false), (0, .int .u8 c_)]) ?_ ?_
 ·clear hm; obtain ⟨hc6, hm⟩ | ⟨hc6, hm⟩ := ite_or hx6
  ·refine wl_skip rfl rfl rfl rfl (ne_ft hc6) F rfl rfl ?_; clear F a; intro a F
   refine wl_skip rfl rfl rfl rfl (ne_ft hc6) F rfl rfl ?_; clear F a; intro a F
   refine wE (ev_pickT rfl hc6 rfl) F S rfl fun a F=>?_
   obtain rfl := sinj hm
   refine wpList_nil (then_n ?_); exact ⟨rfl, F.sub ⟨rfl, rfl, rfl, trivial⟩⟩
  ·refine wl_ev (wg F rfl rfl rfl rfl hc6) (ev_move rfl) F S rfl rfl ?_; clear F a; intro a F
   refine wl_ev (wg F rfl rfl rfl rfl hc6) (ev_int rfl rfl (bo_eql _ _ _ _)) F S rfl rfl ?_; clear F a; intro a F
   refine wE (ev_pickF rfl hc6 rfl) F S rfl fun a F=>?_
   obtain rfl := sinj hm
   refine wpList_nil (then_n ?_); exact ⟨rfl, F.sub ⟨rfl, rfl, rfl, trivial⟩⟩
 clear F; rintro a w' ⟨rfl, F⟩
 refine wE (ev_move rfl) F S rfl fun a F=>?_
 obtain ⟨x7, hx7, hm⟩ := bind_some hm
 refine wl_cut 3 (fun a w' => w = w' ∧ Fr 37 a [(32, .bool x7), (2, .bool false), (0, .int .u8 c_)]) ?_ ?_
 ·clear hm; obtain ⟨hc7, hm⟩ | ⟨hc7, hm⟩ := ite_or hx7
  ·refine wl_skip rfl rfl rfl rfl (ne_ft hc7) F rfl rfl ?_; clear F a; intro a F
   refine wl_skip rfl rfl rfl rfl (ne_ft hc7) F rfl rfl ?_; clear F a; intro a F
   refine wE (ev_pickT rfl hc7 rfl) F S rfl fun a F=>?_
   obtain rfl := sinj hm
   refine wpList_nil (then_n ?_); exact ⟨rfl, F.sub ⟨rfl, rfl, rfl, trivial⟩⟩
  ·refine wl_ev (wg F rfl rfl rfl rfl hc7) (ev_move rfl) F S rfl rfl ?_; clear F a; intro a F
   refine wl_ev (wg F rfl rfl rfl rfl hc7) (ev_int rfl rfl (bo_eql _ _ _ _)) F S rfl rfl ?_; clear F a; intro a F
   refine wE (ev_pickF rfl hc7 rfl) F S rfl fun a F=>?_
   obtain rfl := sinj hm
   refine wpList_nil (then_n ?_); exact ⟨rfl, F.sub ⟨rfl, rfl, rfl, trivial⟩⟩
 clear F; rintro a w' ⟨rfl, F⟩
 refine wE (ev_move rfl) F S rfl fun a F=>?_
 obtain ⟨x8, hx8, hm⟩ := bind_some hm
 refine wl_cut 3 (fun a w' => w = w' ∧ Fr 37 a [(36, .bool x8), (2, .bool false)]) ?_ ?_
 ·clear hm; obtain ⟨hc8, hm⟩ | ⟨hc8, hm⟩ := ite_or hx8
  ·refine wl_skip rfl rfl rfl rfl (ne_ft hc8) F rfl rfl ?_; clear F a; intro a F
   refine wl_skip rfl rfl rfl rfl (ne_ft hc8) F rfl rfl ?_; clear F a; intro a F
   refine wE (ev_pickT rfl hc8 rfl) F S rfl fun a F=>?_
   obtain rfl := sinj hm
   refine wpList_nil (then_n ?_); exact ⟨rfl, F.sub ⟨rfl, rfl, trivial⟩⟩
  ·refine wl_ev (wg F rfl rfl rfl rfl hc8) (ev_move rfl) F S rfl rfl ?_; clear F a; intro a F
   refine wl_ev (wg F rfl rfl rfl rfl hc8) (ev_int rfl rfl (bo_eql _ _ _ _)) F S rfl rfl ?_; clear F a; intro a F
   refine wE (ev_pickF rfl hc8 rfl) F S rfl fun a F=>?_
   obtain rfl := sinj hm
   refine wpList_nil (then_n ?_); exact ⟨rfl, F.sub ⟨rfl, rfl, trivial⟩⟩
 clear F; rintro a w' ⟨rfl, F⟩
 refine wE (ev_assign rfl) F S rfl fun a F=>?_
 refine wpList_nil ?_
 refine then_n ?_
 refine wp_ret ?_
 obtain rfl := sinj hm
 refine post_r _ F rfl (ar_cons (resT rfl) ar_nil) ?_
 exact ⟨_, rfl, g, (Le.refl _), S, rfl⟩

theorem changeforgeref2_PathValid_ok {g : Gh} {fr : Hl} {w : World} {r : Bool} (s_ : ByteArray) (S : St g [] fr w) (hm : changeforgeref2_PathValid s_ = some r) :
  Calls Tryd.prog 21 [.string s_].toArray w (fun en w' => ∃ v, en = .returned v ∧ ∃ (g' : Gh), Le g g' ∧ St g' [] fr w' ∧ .bool r = v) := by
 unfold changeforgeref2_PathValid at hm
 refine calls_enter (fn := Tryd.f21) Tryd.func21 rfl Tryd.ntmps21 (lb rfl) ?_
 intro a F
 replace F : Fr 47 a [(0, .string s_)] := F
 refine wp_seq ?_
 refine wp_region_lit ?_
 refine wE (ev_assign rfl) F S rfl fun a F=>?_
 refine wpList_nil ?_
 refine then_n ?_
 refine wp_seq ?_
 refine wp_seq ?_
 refine wp_region_lit ?_
 refine wE (ev_move rfl) F S rfl fun a F=>?_
 refine wE (ev_lenS rfl tu9) F S rfl fun a F=>?_
 refine wE (ev_int rfl rfl (bo_gtr _ _ _ _)) F S rfl fun a F=>?_
 refine wpList_nil ?_
 refine then_n ?_
 obtain ⟨hc1, hm⟩ | ⟨hc1, hm⟩ := ite_or hm
 ·refine wp_condT F rfl hc1 ?_
  refine wp_seq ?_
  refine wp_region_lit ?_
  refine wE (ev_assign rfl) F S rfl fun a F=>?_
  refine wpList_nil ?_
  refine then_n ?_
  refine wp_ret ?_
  refine then_r ?_
  obtain rfl := sinj hm
  refine post_r _ F rfl (ar_cons (resT rfl) ar_nil) ?_
  exact ⟨_, rfl, g, (Le.refl _), S, rfl⟩
 ·refine wp_condF F rfl hc1 ?_
  refine wp_skip ?_
  refine then_n ?_
  refine wp_seq ?_
  refine wp_region_lit ?_
  refine wE (ev_move rfl) F S rfl fun a F=>?_
  refine wE (ev_lenS rfl tu9) F S rfl fun a F=>?_
  refine wE (ev_assign rfl) F S rfl fun a F=>?_
  refine wpList_nil ?_
  refine then_n ?_
  refine wp_cut (fun a w => ∃ (g1 : Gh), Fr 47 a [] ∧ Le g g1 ∧ St g1 [] fr w ∧ changeforgeref2_PathValid.j1 = some r) ?_ ?_
  ·refine wp_seq ?_
   refine wp_region_lit ?_
   refine wE (ev_move rfl) F S rfl fun a F=>?_
   refine wE (ev_lenS rfl tu9) F S rfl fun a F=>?_
   obtain ⟨z1, hz1, hm⟩ := bind_some hm
   refine wE (ev_int rfl rfl (bo_sub hz1)) F S rfl fun a F=>?_
   refine wE (ev_assign rfl) F S rfl fun a F=>?_
   refine wpList_nil ?_
   refine then_n ?_
   refine wp_block ?_
   obtain ⟨r1, hr1, hm⟩ := bind_some hm
   have hmo1 := hm; clear hm
   refine wp_iter (σ := Int × Int) (ρ := Bool ⊕ Unit) (m := fun s => changeforgeref2_PathValid.l1 s_ s.1 s.2) (I := fun s a w => match s with | (x1, x2) => ∃ (g2 : Gh), Fr 47 a [(4, .i6 x1), (3, .i6 x2), (0, .string s_)] ∧ Le g g2 ∧ St g2 [] fr w) hr1 ?_ ?_
   ·dsimp only
    exact ⟨g, F.sub ⟨rfl, rfl, rfl, trivial⟩, (Le.refl _), S⟩
   ·clear F S; rintro ⟨x1, x2⟩ a w x3 ⟨g2, F, l2, S⟩ hx1 hfin1
    have hm : changeforgeref2_PathValid.l1 s_ x1 x2 = some x3 := hx1; clear hx1
    unfold changeforgeref2_PathValid.l1 at hm
    refine wp_seq ?_
    refine wp_seq ?_
    refine wp_region_lit ?_
    refine wE (ev_move rfl) F S rfl fun a F=>?_
    refine wE (ev_int rfl rfl (bo_geq _ _ _ _)) F S rfl fun a F=>?_
    refine wpList_nil ?_
    refine then_n ?_
    obtain ⟨hc2, hm⟩ | ⟨hc2, hm⟩ := ite_or hm
    ·refine wp_condT F rfl hc2 ?_
     refine wp_skip ?_
     refine then_n ?_
     refine wp_cut (fun a w => ∃ (x4 : Int) (g3 : Gh), Fr 47 a [(4, .i6 x1), (3, .i6 x4), (0, .string s_)] ∧ Le g2 g3 ∧ St g3 [] fr w ∧ changeforgeref2_PathValid.j2 x1 x4 = some x3) ?_ ?_
     ·refine wp_block ?_
      refine wp_seq ?_
      refine wp_seq ?_
      refine wp_region_lit ?_
      refine wE (ev_move rfl) F S rfl fun a F=>?_
      refine wE (ev_int rfl rfl (bo_geq _ _ _ _)) F S rfl fun a F=>?_
      refine wE (ev_move rfl) F S rfl fun a F=>?_
      obtain ⟨x5, hx2, hm⟩ := bind_some hm
      refine wl_cut 5 (fun a w' => w = w' ∧ Fr 47 a [(25, .bool x5), (4, .i6 x1), (3, .i6 x2), (0, .string s_)]) ?_ ?_
      ·clear hm; obtain ⟨hc3, hm⟩ | ⟨hc3, hm⟩ := ite_or hx2
       ·refine wl_ev (wg F rfl rfl rfl rfl hc3) (ev_move rfl) F S rfl rfl ?_; clear F a; intro a F
        refine wl_ev (wg F rfl rfl rfl rfl hc3) (ev_move rfl) F S rfl rfl ?_; clear F a; intro a F
        obtain ⟨y1, hy1, hm⟩ := bind_some hm
        refine wl_ev (wg F rfl rfl rfl rfl hc3) (ev_sAt hy1 tu9 rfl rfl) F S rfl rfl ?_; clear F a; intro a F
        refine wl_ev (wg F rfl rfl rfl rfl hc3) (ev_int rfl rfl (bo_neq _ _ _ _)) F S rfl rfl ?_; clear F a; intro a F
        refine wE (ev_pickT rfl hc3 rfl) F S rfl fun a F=>?_
        obtain rfl := sinj hm
        refine wpList_nil (then_n ?_); exact ⟨rfl, F.sub ⟨rfl, rfl, rfl, rfl, trivial⟩⟩
       ·refine wl_skip rfl rfl rfl rfl (ne_tf hc3) F rfl rfl ?_; clear F a; intro a F
        refine wl_skip rfl rfl rfl rfl (ne_tf hc3) F rfl rfl ?_; clear F a; intro a F
        refine wl_skip rfl rfl rfl rfl (ne_tf hc3) F rfl rfl ?_; clear F a; intro a F
        refine wl_skip rfl rfl rfl rfl (ne_tf hc3) F rfl rfl ?_; clear F a; intro a F
        refine wE (ev_pickF rfl hc3 rfl) F S rfl fun a F=>?_
        obtain rfl := sinj hm
        refine wpList_nil (then_n ?_); exact ⟨rfl, F.sub ⟨rfl, rfl, rfl, rfl, trivial⟩⟩
      clear F; rintro a w' ⟨rfl, F⟩
      refine wpList_nil ?_
      refine then_n ?_
      obtain ⟨hc4, hm⟩ | ⟨hc4, hm⟩ := ite_or hm
      ·refine wp_condT F rfl hc4 ?_
       refine wp_seq ?_
       refine wp_seq ?_
       refine wp_region_lit ?_
       refine wE (ev_move rfl) F S rfl fun a F=>?_
       refine wE (ev_move rfl) F S rfl fun a F=>?_
       obtain ⟨y2, hy2, hm⟩ := bind_some hm
       refine wE (ev_sAt hy2 tu9 rfl rfl) F S rfl fun a F=>?_
       obtain ⟨y3, hy3, hm⟩ := bind_some hm
       refine wl_call0 (wn rfl) rfl F rfl (changeforgeref2_pathByte_ok y2 S hy3) rfl tc53 rfl rfl ?_; clear F a S
       rintro _ a w ⟨g4, l4, S, rfl⟩ F; replace S : St g4 [] fr w := S
       refine wE (ev_not rfl) F S rfl fun a F=>?_
       refine wpList_nil ?_
       refine then_n ?_
       obtain ⟨hc5, hm⟩ | ⟨hc5, hm⟩ := ite_or hm
       ·refine wp_condT F rfl hc5 ?_
        refine wp_seq ?_
        refine wp_region_lit ?_
        refine wE (ev_assign rfl) F S rfl fun a F=>?_
        refine wpList_nil ?_
        refine then_n ?_
        refine wp_ret ?_
        refine then_r ?_
        refine then_r ?_
        refine inb_r ?_
        refine then_r ?_
        refine then_r ?_
        refine inb_r ?_
        refine then_r ?_
        obtain rfl := sinj hm
        obtain rfl := hfin1 _ rfl
        clear hm
        have hm : (some false : Option Bool) = some _ := hmo1
        obtain rfl := sinj hm
        refine post_r _ F rfl (ar_cons (resT rfl) ar_nil) ?_
        exact ⟨_, rfl, g4, (l2.trans l4), S, rfl⟩
       ·refine wp_condF F rfl hc5 ?_
        refine wp_skip ?_
        refine then_n ?_
        refine wp_exit ?_
        refine then_e ?_
        refine inb_x ?_
        refine then_n ?_
        exact ⟨x2, g4, F.sub ⟨rfl, rfl, rfl, trivial⟩, l4, S, hm⟩
      ·refine wp_condF F rfl hc4 ?_
       refine wp_skip ?_
       refine then_n ?_
       refine wp_seq ?_
       refine wp_region_lit ?_
       refine wE (ev_move rfl) F S rfl fun a F=>?_
       refine wE (ev_move rfl) F S rfl fun a F=>?_
       obtain ⟨z3, hz3, hm⟩ := bind_some hm
       refine wE (ev_int rfl rfl (bo_add hz3)) F S rfl fun a F=>?_
       refine wE (ev_move rfl) F S rfl fun a F=>?_
       obtain ⟨y4, hy4, hm⟩ := bind_some hm
       refine wE (ev_scut hy4 tu9 rfl (bndV rfl) (bndV rfl)) F S rfl fun a F=>?_
       refine wE (ev_assign rfl) F S rfl fun a F=>?_
       refine wpList_nil ?_
       refine then_n ?_
       refine wp_seq ?_
       refine wp_seq ?_
       refine wp_region_lit ?_
       refine wE (ev_move rfl) F S rfl fun a F=>?_
       refine wE (ev_str rfl rfl (bs_eql _ _ _)) F S rfl fun a F=>?_
       refine wE (ev_move rfl) F S rfl fun a F=>?_
       obtain ⟨x6, hx3, hm⟩ := bind_some hm
       refine wl_cut 3 (fun a w' => w = w' ∧ Fr 47 a [(41, .bool x6), (5, .string y4), (4, .i6 x1), (0, .string s_)]) ?_ ?_
       ·clear hm; obtain ⟨hc6, hm⟩ | ⟨hc6, hm⟩ := ite_or hx3
        ·refine wl_skip rfl rfl rfl rfl (ne_ft hc6) F rfl rfl ?_; clear F a; intro a F
         refine wl_skip rfl rfl rfl rfl (ne_ft hc6) F rfl rfl ?_; clear F a; intro a F
         refine wE (ev_pickT rfl hc6 rfl) F S rfl fun a F=>?_
         obtain rfl := sinj hm
         refine wpList_nil (then_n ?_); exact ⟨rfl, F.sub ⟨rfl, rfl, rfl, rfl, trivial⟩⟩
        ·refine wl_ev (wg F rfl rfl rfl rfl hc6) (ev_move rfl) F S rfl rfl ?_; clear F a; intro a F
         refine wl_ev (wg F rfl rfl rfl rfl hc6) (ev_str rfl rfl (bs_eql _ _ _)) F S rfl rfl ?_; clear F a; intro a F
         refine wE (ev_pickF rfl hc6 rfl) F S rfl fun a F=>?_
         obtain rfl := sinj hm
         refine wpList_nil (then_n ?_); exact ⟨rfl, F.sub ⟨rfl, rfl, rfl, rfl, trivial⟩⟩
       clear F; rintro a w' ⟨rfl, F⟩
       refine wE (ev_move rfl) F S rfl fun a F=>?_
       obtain ⟨x7, hx4, hm⟩ := bind_some hm
       refine wl_cut 3 (fun a w' => w = w' ∧ Fr 47 a [(45, .bool x7), (4, .i6 x1), (0, .string s_)]) ?_ ?_
       ·clear hm; obtain ⟨hc7, hm⟩ | ⟨hc7, hm⟩ := ite_or hx4
        ·refine wl_skip rfl rfl rfl rfl (ne_ft hc7) F rfl rfl ?_; clear F a; intro a F
         refine wl_skip rfl rfl rfl rfl (ne_ft hc7) F rfl rfl ?_; clear F a; intro a F
         refine wE (ev_pickT rfl hc7 rfl) F S rfl fun a F=>?_
         obtain rfl := sinj hm
         refine wpList_nil (then_n ?_); exact ⟨rfl, F.sub ⟨rfl, rfl, rfl, trivial⟩⟩
        ·refine wl_ev (wg F rfl rfl rfl rfl hc7) (ev_move rfl) F S rfl rfl ?_; clear F a; intro a F
         refine wl_ev (wg F rfl rfl rfl rfl hc7) (ev_str rfl rfl (bs_eql _ _ _)) F S rfl rfl ?_; clear F a; intro a F
         refine wE (ev_pickF rfl hc7 rfl) F S rfl fun a F=>?_
         obtain rfl := sinj hm
         refine wpList_nil (then_n ?_); exact ⟨rfl, F.sub ⟨rfl, rfl, rfl, trivial⟩⟩
       clear F; rintro a w' ⟨rfl, F⟩
       refine wpList_nil ?_
       refine then_n ?_
       obtain ⟨hc8, hm⟩ | ⟨hc8, hm⟩ := ite_or hm
       ·refine wp_condT F rfl hc8 ?_
        refine wp_seq ?_
        refine wp_region_lit ?_
        refine wE (ev_assign rfl) F S rfl fun a F=>?_
        refine wpList_nil ?_
        refine then_n ?_
        refine wp_ret ?_
        refine then_r ?_
        refine inb_r ?_
        refine then_r ?_
        refine then_r ?_
        refine inb_r ?_
        refine then_r ?_
        obtain rfl := sinj hm
        obtain rfl := hfin1 _ rfl
        clear hm
        have hm : (some false : Option Bool) = some _ := hmo1
        obtain rfl := sinj hm
        refine post_r _ F rfl (ar_cons (resT rfl) ar_nil) ?_
        exact ⟨_, rfl, g2, l2, S, rfl⟩
       ·refine wp_condF F rfl hc8 ?_
        refine wp_skip ?_
        refine then_n ?_
        refine wp_region_lit ?_
        refine wE (ev_move rfl) F S rfl fun a F=>?_
        refine wE (ev_assign rfl) F S rfl fun a F=>?_
        refine wpList_nil ?_
        refine inb_n ?_
        refine then_n ?_
        exact ⟨x1, g2, F.sub ⟨rfl, rfl, rfl, trivial⟩, (Le.refl _), S, hm⟩
     ·clear F S hm; rintro a w ⟨x4, g3, F, l3, S, hm⟩
      refine wp_region_lit ?_
      refine wE (ev_move rfl) F S rfl fun a F=>?_
      obtain ⟨z2, hz2, hm⟩ := bind_some hm
      refine wE (ev_int rfl rfl (bo_sub hz2)) F S rfl fun a F=>?_
      refine wE (ev_assign rfl) F S rfl fun a F=>?_
      refine wpList_nil ?_
      refine then_n ?_
      obtain rfl := sinj hm
      refine ⟨_, rfl, ?_⟩
      dsimp only
      exact ⟨g3, F.sub ⟨rfl, rfl, rfl, trivial⟩, (l2.trans l3), S⟩
    ·refine wp_condF F rfl hc2 ?_
     refine wp_exit ?_
     refine then_e ?_
     refine then_e ?_
     refine inb_x ?_
     refine then_n ?_
     obtain rfl := sinj hm
     obtain rfl := hfin1 _ rfl
     clear hm
     have hm : (changeforgeref2_PathValid.j1 : Option Bool) = some _ := hmo1
     exact ⟨g2, F.sub trivial, l2, S, hm⟩
  ·clear F S hm; rintro a w ⟨g1, F, l1, S, hm⟩
   refine wp_seq ?_
   refine wp_region_lit ?_
   refine wE (ev_assign rfl) F S rfl fun a F=>?_
   refine wpList_nil ?_
   refine then_n ?_
   refine wp_ret ?_
   obtain rfl := sinj hm
   refine post_r _ F rfl (ar_cons (resT rfl) ar_nil) ?_
   exact ⟨_, rfl, g1, l1, S, rfl⟩

theorem changeforgeref2_Related.body_ok {rec_ : ByteArray → ByteArray → Option Bool} (hrec : ∀ {g : Gh} {fr : Hl} {w : World} {r : Bool} (a_ : ByteArray) (b_ : ByteArray) (S : St g [] fr w) (hm : rec_ a_ b_ = some r), Calls Tryd.prog 55 [.string a_, .string b_].toArray w (fun en w' => ∃ v, en = .returned v ∧ ∃ (g' : Gh), Le g g' ∧ St g' [] fr w' ∧ .bool r = v)) {g : Gh} {fr : Hl} {w : World} {r : Bool} (a_ : ByteArray) (b_ : ByteArray) (S : St g [] fr w) (hm : changeforgeref2_Related.body rec_ a_ b_ = some r) :
  Calls Tryd.prog 55 [.string a_, .string b_].toArray w (fun en w' => ∃ v, en = .returned v ∧ ∃ (g' : Gh), Le g g' ∧ St g' [] fr w' ∧ .bool r = v) := by
 unfold changeforgeref2_Related.body at hm
 refine calls_enter (fn := Tryd.f55) Tryd.func55 rfl Tryd.ntmps55 (lb rfl) ?_
 intro a F
 replace F : Fr 33 a [(0, .string a_), (1, .string b_)] := F
 refine wp_seq ?_
 refine wp_region_lit ?_
 refine wE (ev_assign rfl) F S rfl fun a F=>?_
 refine wpList_nil ?_
 refine then_n ?_
 refine wp_seq ?_
 refine wp_seq ?_
 refine wp_region_lit ?_
 refine wE (ev_move rfl) F S rfl fun a F=>?_
 refine wE (ev_lenS rfl tu9) F S rfl fun a F=>?_
 refine wE (ev_move rfl) F S rfl fun a F=>?_
 refine wE (ev_lenS rfl tu9) F S rfl fun a F=>?_
 refine wE (ev_int rfl rfl (bo_gtr _ _ _ _)) F S rfl fun a F=>?_
 refine wpList_nil ?_
 refine then_n ?_
 obtain ⟨hc1, hm⟩ | ⟨hc1, hm⟩ := ite_or hm
 ·refine wp_condT F rfl hc1 ?_
  refine wp_seq ?_
  refine wp_region_lit ?_
  refine wE (ev_move rfl) F S rfl fun a F=>?_
  refine wE (ev_move rfl) F S rfl fun a F=>?_
  obtain ⟨y1, hy1, hm⟩ := bind_some hm
  refine wl_call0 (wn rfl) rfl F rfl (hrec b_ a_ S hy1) rfl tc55 rfl rfl ?_; clear F a S
  rintro _ a w ⟨g1, l1, S, rfl⟩ F; replace S : St g1 [] fr w := S
  refine wE (ev_assign rfl) F S rfl fun a F=>?_
  refine wpList_nil ?_
  refine then_n ?_
  refine wp_ret ?_
  refine then_r ?_
  obtain rfl := sinj hm
  refine post_r _ F rfl (ar_cons (resT rfl) ar_nil) ?_
  exact ⟨_, rfl, g1, l1, S, rfl⟩
 ·refine wp_condF F rfl hc1 ?_
  refine wp_skip ?_
  refine then_n ?_
  refine wp_seq ?_
  refine wp_region_lit ?_
  refine wE (ev_move rfl) F S rfl fun a F=>?_
  refine wE (ev_move rfl) F S rfl fun a F=>?_
  refine wE (ev_lenS rfl tu9) F S rfl fun a F=>?_
  obtain ⟨y2, hy2, hm⟩ := bind_some hm
  refine wE (ev_scut hy2 tu9 rfl (bnd0 _) (bndV rfl)) F S rfl fun a F=>?_
  refine wE (ev_move rfl) F S rfl fun a F=>?_
  refine wE (ev_str rfl rfl (bs_eql _ _ _)) F S rfl fun a F=>?_
  refine wE (ev_move rfl) F S rfl fun a F=>?_
  obtain ⟨x1, hx1, hm⟩ := bind_some hm
  refine wl_cut 13 (fun a w' => w = w' ∧ Fr 33 a [(32, .bool x1), (4, .bool false)]) ?_ ?_
  ·clear hm; obtain ⟨hc2, hm⟩ | ⟨hc2, hm⟩ := ite_or hx1
   ·refine wl_ev (wg F rfl rfl rfl rfl hc2) (ev_move rfl) F S rfl rfl ?_; clear F a; intro a F
    refine wl_ev (wg F rfl rfl rfl rfl hc2) (ev_lenS rfl tu9) F S rfl rfl ?_; clear F a; intro a F
    refine wl_ev (wg F rfl rfl rfl rfl hc2) (ev_move rfl) F S rfl rfl ?_; clear F a; intro a F
    refine wl_ev (wg F rfl rfl rfl rfl hc2) (ev_lenS rfl tu9) F S rfl rfl ?_; clear F a; intro a F
    refine wl_ev (wg F rfl rfl rfl rfl hc2) (ev_int rfl rfl (bo_eql _ _ _ _)) F S rfl rfl ?_; clear F a; intro a F
    refine wl_ev (wg F rfl rfl rfl rfl hc2) (ev_move rfl) F S rfl rfl ?_; clear F a; intro a F
    obtain ⟨x2, hx2, hm⟩ := bind_some hm
    refine wl_cut 6 (fun a w' => w = w' ∧ Fr 33 a [(31, .bool x2), (19, .bool (decide (y2 = a_))), (4, .bool false)]) ?_ ?_
    ·clear hm; obtain ⟨hc3, hm⟩ | ⟨hc3, hm⟩ := ite_or hx2
     ·refine wl_skip rfl rfl rfl rfl (ne_ft hc3) F rfl rfl ?_; clear F a; intro a F
      refine wl_skip rfl rfl rfl rfl (ne_ft hc3) F rfl rfl ?_; clear F a; intro a F
      refine wl_skip rfl rfl rfl rfl (ne_ft hc3) F rfl rfl ?_; clear F a; intro a F
      refine wl_skip rfl rfl rfl rfl (ne_ft hc3) F rfl rfl ?_; clear F a; intro a F
      refine wl_skip rfl rfl rfl rfl (ne_ft hc3) F rfl rfl ?_; clear F a; intro a F
      refine wl_ev (wg F rfl rfl rfl rfl hc2) (ev_pickT rfl hc3 rfl) F S rfl rfl ?_; clear F a; intro a F
      obtain rfl := sinj hm
      refine wpList_nil (then_n ?_); exact ⟨rfl, F.sub ⟨rfl, rfl, rfl, trivial⟩⟩
     ·refine wl_ev (wg F rfl rfl rfl rfl hc3) (ev_move rfl) F S rfl rfl ?_; clear F a; intro a F
      refine wl_ev (wg F rfl rfl rfl rfl hc3) (ev_move rfl) F S rfl rfl ?_; clear F a; intro a F
      refine wl_ev (wg F rfl rfl rfl rfl hc3) (ev_lenS rfl tu9) F S rfl rfl ?_; clear F a; intro a F
      obtain ⟨y3, hy3, hm⟩ := bind_some hm
      refine wl_ev (wg F rfl rfl rfl rfl hc3) (ev_sAt hy3 tu9 rfl rfl) F S rfl rfl ?_; clear F a; intro a F
      refine wl_ev (wg F rfl rfl rfl rfl hc3) (ev_int rfl rfl (bo_eql _ _ _ _)) F S rfl rfl ?_; clear F a; intro a F
      refine wl_ev (wg F rfl rfl rfl rfl hc2) (ev_pickF rfl hc3 rfl) F S rfl rfl ?_; clear F a; intro a F
      obtain rfl := sinj hm
      refine wpList_nil (then_n ?_); exact ⟨rfl, F.sub ⟨rfl, rfl, rfl, trivial⟩⟩
    clear F; rintro a w' ⟨rfl, F⟩
    refine wE (ev_pickT rfl hc2 rfl) F S rfl fun a F=>?_
    obtain rfl := sinj hm
    refine wpList_nil (then_n ?_); exact ⟨rfl, F.sub ⟨rfl, rfl, trivial⟩⟩
   ·refine wl_skip rfl rfl rfl rfl (ne_tf hc2) F rfl rfl ?_; clear F a; intro a F
    refine wl_skip rfl rfl rfl rfl (ne_tf hc2) F rfl rfl ?_; clear F a; intro a F
    refine wl_skip rfl rfl rfl rfl (ne_tf hc2) F rfl rfl ?_; clear F a; intro a F
    refine wl_skip rfl rfl rfl rfl (ne_tf hc2) F rfl rfl ?_; clear F a; intro a F
    refine wl_skip rfl rfl rfl rfl (ne_tf hc2) F rfl rfl ?_; clear F a; intro a F
    refine wl_skip rfl rfl rfl rfl (ne_tf hc2) F rfl rfl ?_; clear F a; intro a F
    refine wl_skipu rfl rfl rfl rfl F rfl rfl ?_; clear F a; intro a F
    refine wl_skipu rfl rfl rfl rfl F rfl rfl ?_; clear F a; intro a F
    refine wl_skipu rfl rfl rfl rfl F rfl rfl ?_; clear F a; intro a F
    refine wl_skipu rfl rfl rfl rfl F rfl rfl ?_; clear F a; intro a F
    refine wl_skipu rfl rfl rfl rfl F rfl rfl ?_; clear F a; intro a F
    refine wl_skip rfl rfl rfl rfl (ne_tf hc2) F rfl rfl ?_; clear F a; intro a F
    refine wE (ev_pickF rfl hc2 rfl) F S rfl fun a F=>?_
    obtain rfl := sinj hm
    refine wpList_nil (then_n ?_); exact ⟨rfl, F.sub ⟨rfl, rfl, trivial⟩⟩
  clear F; rintro a w' ⟨rfl, F⟩
  refine wE (ev_assign rfl) F S rfl fun a F=>?_
  refine wpList_nil ?_
  refine then_n ?_
  refine wp_ret ?_
  obtain rfl := sinj hm
  refine post_r _ F rfl (ar_cons (resT rfl) ar_nil) ?_
  exact ⟨_, rfl, g, (Le.refl _), S, rfl⟩

theorem changeforgeref2_Related.m_ok : ∀ (fu_ : Nat) {g : Gh} {fr : Hl} {w : World} {r : Bool} (a_ : ByteArray) (b_ : ByteArray) (S : St g [] fr w) (hm : changeforgeref2_Related.m fu_ a_ b_ = some r), Calls Tryd.prog 55 [.string a_, .string b_].toArray w (fun en w' => ∃ v, en = .returned v ∧ ∃ (g' : Gh), Le g g' ∧ St g' [] fr w' ∧ .bool r = v)
 | 0 => by intros; rename_i hm; cases hm
 | fu_ + 1 => changeforgeref2_Related.body_ok (changeforgeref2_Related.m_ok fu_)

theorem changeforgeref2_Related_ok {g : Gh} {fr : Hl} {w : World} {r : Bool} (a_ : ByteArray) (b_ : ByteArray) (S : St g [] fr w) (hm : changeforgeref2_Related a_ b_ = some r) :
  Calls Tryd.prog 55 [.string a_, .string b_].toArray w (fun en w' => ∃ v, en = .returned v ∧ ∃ (g' : Gh), Le g g' ∧ St g' [] fr w' ∧ .bool r = v) := changeforgeref2_Related.m_ok _ a_ b_ S hm

theorem changeforgeref1_At_ok {g : Gh} {fr : Hl} {w : World} {r : Fault} (code : Int) (index : Int) (S : St g [] fr w) (hm : changeforgeref1_At code index = some r) :
  Calls Tryd.prog 36 [.i6 code, .i6 index].toArray w (fun en w' => ∃ v, en = .returned v ∧ ∃ (g' : Gh), Le g g' ∧ St g' [] fr w' ∧ .agg #[.i6 r.Code, .i6 r.Index] = v) := by
 unfold changeforgeref1_At at hm
 refine calls_enter (fn := Tryd.f36) Tryd.func36 rfl Tryd.ntmps36 (lb rfl) ?_
 intro a F
 replace F : Fr 8 a [(0, .i6 code), (1, .i6 index)] := F
 refine wp_seq ?_
 refine wp_region_lit ?_
 refine wl_alloc (wn rfl) rfl tz29 (cs := [.i6 0, .i6 0]) rfl F S rfl rfl ?_; clear F a S; rintro b1 a w F S
 refine wpList_nil ?_
 refine then_n ?_
 refine wp_seq ?_
 refine wp_region_lit ?_
 refine wE (ev_move rfl) F S rfl fun a F=>?_
 refine wE (ev_move rfl) F S rfl fun a F=>?_
 refine wE (ev_build (parts := [(0, .tmp 5), (1, .tmp 6)]) (vs := [(0, .i6 code), (1, .i6 index)]) rfl (fun w => tb29_0_1 code index w)) F S rfl fun a F=>?_
 refine wl_storeC (wn rfl) rfl F S rfl rfl (vs := [.i6 code, .i6 index]) rfl ts29 (one_cons rfl (one_cons rfl one_nil)) (k := 0) rfl (lb rfl) (c' := #[.i6 code, .i6 index]) rfl rfl ?_; clear S; intro w S
 refine wpList_nil ?_
 refine then_n ?_
 refine wp_ret ?_
 obtain rfl := sinj hm
 refine post_r _ F rfl (ar_cons (resA rfl tu29 rfl (box_ptr (cells := [.i6 code, .i6 index]) 0 rfl 0 rfl (lb rfl) w S) ts29) ar_nil) ?_
 replace S : St g [] fr w := St.tail [] _ S
 exact ⟨_, rfl, g, (Le.refl _), S, rfl⟩

theorem changeforgeref1_LinesFault_ok {g : Gh} {fr : Hl} {w : World} {r : Fault} (l_ : (List ByteArray)) (vl_1 : Value) (hl_1 : RepSl g l_ vl_1) (S : St g [] fr w) (hm : changeforgeref1_LinesFault l_ = some r) :
  Calls Tryd.prog 97 [vl_1].toArray w (fun en w' => ∃ v, en = .returned v ∧ ∃ (g' : Gh), Le g g' ∧ St g' [] fr w' ∧ .agg #[.i6 r.Code, .i6 r.Index] = v) := by
 unfold changeforgeref1_LinesFault at hm
 refine calls_enter (fn := Tryd.f97) Tryd.func97 rfl Tryd.ntmps97 (lb rfl) ?_
 intro a F
 replace F : Fr 42 a [(0, vl_1)] := F
 refine wp_seq ?_
 refine wp_region_lit ?_
 refine wl_alloc (wn rfl) rfl tz29 (cs := [.i6 0, .i6 0]) rfl F S rfl rfl ?_; clear F a S; rintro b1 a w F S
 refine wpList_nil ?_
 refine then_n ?_
 refine wp_seq ?_
 refine wp_seq ?_
 refine wp_region_lit ?_
 refine wE (ev_move rfl) F S rfl fun a F=>?_
 refine wE (ev_lenSh hl_1 rfl tu22) F S rfl fun a F=>?_
 refine wE (ev_int rfl rfl (bo_gtr _ _ _ _)) F S rfl fun a F=>?_
 refine wpList_nil ?_
 refine then_n ?_
 obtain ⟨hc1, hm⟩ | ⟨hc1, hm⟩ := ite_or hm
 ·refine wp_condT F rfl hc1 ?_
  refine wp_seq ?_
  refine wp_region_lit ?_
  obtain ⟨y1, hy1, hm⟩ := bind_some hm
  refine wl_call0 (wn rfl) rfl F rfl (changeforgeref1_At_ok (fr := (fl [[bx b1 #[.i6 0, .i6 0] 29]] fr)) 2 (-1) S hy1) rfl tc36 rfl rfl ?_; clear F a S
  rintro _ a w ⟨g1, l1, S, rfl⟩ F; replace S : St g1 [[bx b1 #[.i6 0, .i6 0] 29]] fr w := S
  refine wl_storeC (wn rfl) rfl F S rfl rfl (vs := [.i6 y1.Code, .i6 y1.Index]) rfl ts29 (one_cons rfl (one_cons rfl one_nil)) (k := 0) rfl (lb rfl) (c' := #[.i6 y1.Code, .i6 y1.Index]) rfl rfl ?_; clear S; intro w S
  refine wpList_nil ?_
  refine then_n ?_
  refine wp_ret ?_
  refine then_r ?_
  obtain rfl := sinj hm
  refine post_r _ F rfl (ar_cons (resA rfl tu29 rfl (box_ptr (cells := [.i6 y1.Code, .i6 y1.Index]) 0 rfl 0 rfl (lb rfl) w S) ts29) ar_nil) ?_
  replace S : St g1 [] fr w := St.tail [] _ S
  exact ⟨_, rfl, g1, l1, S, rfl⟩
 ·refine wp_condF F rfl hc1 ?_
  refine wp_skip ?_
  refine then_n ?_
  refine wp_cut (fun a w => ∃ (g2 : Gh), Fr 42 a [(2, bp b1 0)] ∧ Le g g2 ∧ St g2 [[bx b1 #[.i6 0, .i6 0] 29]] fr w ∧ changeforgeref1_LinesFault.j1 = some r) ?_ ?_
  ·refine wp_seq ?_
   refine wp_region_lit ?_
   refine wE (ev_assign rfl) F S rfl fun a F=>?_
   refine wpList_nil ?_
   refine then_n ?_
   refine wp_block ?_
   obtain ⟨r1, hr1, hm⟩ := bind_some hm
   have hmo1 := hm; clear hm
   refine wp_iter (σ := Int) (ρ := Fault ⊕ Unit) (m := fun s => changeforgeref1_LinesFault.l1 l_ s) (I := fun x1 a w => ∃ (g3 : Gh), Fr 42 a [(3, .i6 x1), (2, bp b1 0), (0, vl_1)] ∧ Le g g3 ∧ St g3 [[bx b1 #[.i6 0, .i6 0] 29]] fr w) hr1 ?_ ?_
   ·exact ⟨g, F.sub ⟨rfl, rfl, rfl, trivial⟩, (Le.refl _), S⟩
   ·clear F S; rintro x1 a w x2 ⟨g3, F, l3, S⟩ hx1 hfin1
    have hm : changeforgeref1_LinesFault.l1 l_ x1 = some x2 := hx1; clear hx1
    unfold changeforgeref1_LinesFault.l1 at hm
    refine wp_seq ?_
    refine wp_seq ?_
    refine wp_region_lit ?_
    refine wE (ev_move rfl) F S rfl fun a F=>?_
    refine wE (ev_move rfl) F S rfl fun a F=>?_
    refine wE (ev_lenSh hl_1 rfl tu22) F S rfl fun a F=>?_
    refine wE (ev_int rfl rfl (bo_lss _ _ _ _)) F S rfl fun a F=>?_
    refine wpList_nil ?_
    refine then_n ?_
    obtain ⟨hc2, hm⟩ | ⟨hc2, hm⟩ := ite_or hm
    ·refine wp_condT F rfl hc2 ?_
     refine wp_skip ?_
     refine then_n ?_
     refine wp_cut (fun a w => ∃ (g4 : Gh), Fr 42 a [(3, .i6 x1), (2, bp b1 0), (0, vl_1)] ∧ Le g3 g4 ∧ St g4 [[bx b1 #[.i6 0, .i6 0] 29]] fr w ∧ changeforgeref1_LinesFault.j2 x1 = some x2) ?_ ?_
     ·refine wp_block ?_
      refine wp_seq ?_
      refine wp_seq ?_
      refine wp_region_lit ?_
      refine wE (ev_move rfl) F S rfl fun a F=>?_
      refine wE (ev_move rfl) F S rfl fun a F=>?_
      obtain ⟨y2, hy2, hm⟩ := bind_some hm
      obtain ⟨cs1, hr2, hp1⟩ := elemS (hl_1.mono l3) hy2
      obtain rfl := rep_str hr2
      refine wE (ev_idxS (hl_1.mono l3) hy2 tu22 ts9 rfl rfl) F S rfl fun a F=>?_
      refine wE (ev_load1 tu9 rfl rfl (ptr_mono (cks := [[bx b1 #[.i6 0, .i6 0] 29]]) (fr := fr) hp1 (Le.refl _))) F S rfl fun a F=>?_
      refine wE (ev_lenS rfl tu9) F S rfl fun a F=>?_
      refine wE (ev_int rfl rfl (bo_gtr _ _ _ _)) F S rfl fun a F=>?_
      refine wpList_nil ?_
      refine then_n ?_
      obtain ⟨hc3, hm⟩ | ⟨hc3, hm⟩ := ite_or hm
      ·refine wp_condT F rfl hc3 ?_
       refine wp_seq ?_
       refine wp_region_lit ?_
       refine wE (ev_move rfl) F S rfl fun a F=>?_
       obtain ⟨y3, hy3, hm⟩ := bind_some hm
       refine wl_call0 (wn rfl) rfl F rfl (changeforgeref1_At_ok (fr := (fl [[bx b1 #[.i6 0, .i6 0] 29]] fr)) 2 x1 S hy3) rfl tc36 rfl rfl ?_; clear F a S
       rintro _ a w ⟨g5, l5, S, rfl⟩ F; replace S : St g5 [[bx b1 #[.i6 0, .i6 0] 29]] fr w := S
       refine wl_storeC (wn rfl) rfl F S rfl rfl (vs := [.i6 y3.Code, .i6 y3.Index]) rfl ts29 (one_cons rfl (one_cons rfl one_nil)) (k := 0) rfl (lb rfl) (c' := #[.i6 y3.Code, .i6 y3.Index]) rfl rfl ?_; clear S; intro w S
       refine wpList_nil ?_
       refine then_n ?_
       refine wp_ret ?_
       refine then_r ?_
       refine inb_r ?_
       refine then_r ?_
       refine then_r ?_
       refine inb_r ?_
       refine then_r ?_
       obtain rfl := sinj hm
       obtain rfl := hfin1 _ rfl
       clear hm
       have hm : (some y3 : Option Fault) = some _ := hmo1
       obtain rfl := sinj hm
       refine post_r _ F rfl (ar_cons (resA rfl tu29 rfl (box_ptr (cells := [.i6 y3.Code, .i6 y3.Index]) 0 rfl 0 rfl (lb rfl) w S) ts29) ar_nil) ?_
       replace S : St g5 [] fr w := St.tail [] _ S
       exact ⟨_, rfl, g5, (l3.trans l5), S, rfl⟩
      ·refine wp_condF F rfl hc3 ?_
       refine wp_skip ?_
       refine then_n ?_
       refine wp_seq ?_
       refine wp_region_lit ?_
       refine wE (ev_assign rfl) F S rfl fun a F=>?_
       refine wpList_nil ?_
       refine then_n ?_
       refine wp_cut1 (fun a w => ∃ (g6 : Gh), Fr 42 a [(3, .i6 x1), (2, bp b1 0), (0, vl_1)] ∧ Le g3 g6 ∧ St g6 [[bx b1 #[.i6 0, .i6 0] 29]] fr w ∧ changeforgeref1_LinesFault.j3 x1 = some x2) ?_ ?_
       ·refine wp_block ?_
        obtain ⟨r2, hr3, hm⟩ := bind_some hm
        have hmo2 := hm; clear hm
        refine wp_iter (σ := Int) (ρ := Fault ⊕ Unit) (m := fun s => changeforgeref1_LinesFault.l2 l_ x1 s) (I := fun x3 a w => ∃ (g7 : Gh), Fr 42 a [(4, .i6 x3), (3, .i6 x1), (2, bp b1 0), (0, vl_1)] ∧ Le g3 g7 ∧ St g7 [[bx b1 #[.i6 0, .i6 0] 29]] fr w) hr3 ?_ ?_
        ·exact ⟨g3, F.sub ⟨rfl, rfl, rfl, rfl, trivial⟩, (Le.refl _), S⟩
        ·clear F S; rintro x3 a w x4 ⟨g7, F, l7, S⟩ hx2 hfin2
         have hm : changeforgeref1_LinesFault.l2 l_ x1 x3 = some x4 := hx2; clear hx2
         unfold changeforgeref1_LinesFault.l2 at hm
         refine wp_seq ?_
         refine wp_seq ?_
         refine wp_region_lit ?_
         refine wE (ev_move rfl) F S rfl fun a F=>?_
         refine wE (ev_move rfl) F S rfl fun a F=>?_
         refine wE (ev_move rfl) F S rfl fun a F=>?_
         obtain ⟨y4, hy4, hm⟩ := bind_some hm
         obtain ⟨cs2, hr4, hp2⟩ := elemS (hl_1.mono (l3.trans l7)) hy4
         obtain rfl := rep_str hr4
         refine wE (ev_idxS (hl_1.mono (l3.trans l7)) hy4 tu22 ts9 rfl rfl) F S rfl fun a F=>?_
         refine wE (ev_load1 tu9 rfl rfl (ptr_mono (cks := [[bx b1 #[.i6 0, .i6 0] 29]]) (fr := fr) hp2 (Le.refl _))) F S rfl fun a F=>?_
         refine wE (ev_lenS rfl tu9) F S rfl fun a F=>?_
         refine wE (ev_int rfl rfl (bo_lss _ _ _ _)) F S rfl fun a F=>?_
         refine wpList_nil ?_
         refine then_n ?_
         obtain ⟨hc4, hm⟩ | ⟨hc4, hm⟩ := ite_or hm
         ·refine wp_condT F rfl hc4 ?_
          refine wp_skip ?_
          refine then_n ?_
          refine wp_seq ?_
          refine wp_block ?_
          refine wp_seq ?_
          refine wp_region_lit ?_
          refine wE (ev_move rfl) F S rfl fun a F=>?_
          refine wE (ev_move rfl) F S rfl fun a F=>?_
          obtain ⟨y5, hy5, hm⟩ := bind_some hm
          obtain ⟨cs3, hr5, hp3⟩ := elemS (hl_1.mono (l3.trans l7)) hy5
          obtain rfl := rep_str hr5
          refine wE (ev_idxS (hl_1.mono (l3.trans l7)) hy5 tu22 ts9 rfl rfl) F S rfl fun a F=>?_
          refine wE (ev_load1 tu9 rfl rfl (ptr_mono (cks := [[bx b1 #[.i6 0, .i6 0] 29]]) (fr := fr) hp3 (Le.refl _))) F S rfl fun a F=>?_
          refine wE (ev_move rfl) F S rfl fun a F=>?_
          obtain ⟨y6, hy6, hm⟩ := bind_some hm
          refine wE (ev_sAt hy6 tu9 rfl rfl) F S rfl fun a F=>?_
          refine wE (ev_int rfl rfl (bo_eql _ _ _ _)) F S rfl fun a F=>?_
          refine wpList_nil ?_
          refine then_n ?_
          obtain ⟨hc5, hm⟩ | ⟨hc5, hm⟩ := ite_or hm
          ·refine wp_condT F rfl hc5 ?_
           refine wp_seq ?_
           refine wp_region_lit ?_
           refine wE (ev_move rfl) F S rfl fun a F=>?_
           obtain ⟨y7, hy7, hm⟩ := bind_some hm
           refine wl_call0 (wn rfl) rfl F rfl (changeforgeref1_At_ok (fr := (fl [[bx b1 #[.i6 0, .i6 0] 29]] fr)) 5 x1 S hy7) rfl tc36 rfl rfl ?_; clear F a S
           rintro _ a w ⟨g8, l8, S, rfl⟩ F; replace S : St g8 [[bx b1 #[.i6 0, .i6 0] 29]] fr w := S
           refine wl_storeC (wn rfl) rfl F S rfl rfl (vs := [.i6 y7.Code, .i6 y7.Index]) rfl ts29 (one_cons rfl (one_cons rfl one_nil)) (k := 0) rfl (lb rfl) (c' := #[.i6 y7.Code, .i6 y7.Index]) rfl rfl ?_; clear S; intro w S
           refine wpList_nil ?_
           refine then_n ?_
           refine wp_ret ?_
           refine inb_r ?_
           refine then_r ?_
           refine then_r ?_
           refine inb_r ?_
           refine then_r ?_
           refine inb_r ?_
           refine then_r ?_
           refine then_r ?_
           refine inb_r ?_
           refine then_r ?_
           obtain rfl := sinj hm
           obtain rfl := hfin2 _ rfl
           clear hm
           have hm : (some (Step.done (Sum.inl y7)) : Option (Step Int (Fault ⊕ Unit))) = some _ := hmo2
           obtain rfl := sinj hm
           obtain rfl := hfin1 _ rfl
           clear hm
           have hm : (some y7 : Option Fault) = some _ := hmo1
           obtain rfl := sinj hm
           refine post_r _ F rfl (ar_cons (resA rfl tu29 rfl (box_ptr (cells := [.i6 y7.Code, .i6 y7.Index]) 0 rfl 0 rfl (lb rfl) w S) ts29) ar_nil) ?_
           replace S : St g8 [] fr w := St.tail [] _ S
           exact ⟨_, rfl, g8, ((l3.trans l7).trans l8), S, rfl⟩
          ·refine wp_condF F rfl hc5 ?_
           refine wp_skip ?_
           refine inb_n ?_
           refine then_n ?_
           refine wp_region_lit ?_
           refine wE (ev_move rfl) F S rfl fun a F=>?_
           obtain ⟨z2, hz2, hm⟩ := bind_some hm
           refine wE (ev_int rfl rfl (bo_add hz2)) F S rfl fun a F=>?_
           refine wE (ev_assign rfl) F S rfl fun a F=>?_
           refine wpList_nil ?_
           refine then_n ?_
           obtain rfl := sinj hm
           refine ⟨_, rfl, ?_⟩
           exact ⟨g7, F.sub ⟨rfl, rfl, rfl, rfl, trivial⟩, l7, S⟩
         ·refine wp_condF F rfl hc4 ?_
          refine wp_exit ?_
          refine then_e ?_
          refine then_e ?_
          refine inb_x ?_
          refine then_n ?_
          obtain rfl := sinj hm
          obtain rfl := hfin2 _ rfl
          clear hm
          have hm : (changeforgeref1_LinesFault.j3 x1 : Option (Step Int (Fault ⊕ Unit))) = some _ := hmo2
          exact ⟨g7, F.sub ⟨rfl, rfl, rfl, trivial⟩, l7, S, hm⟩
       ·clear F S hm; rintro a w ⟨g6, F, l6, S, hm⟩
        refine inb_n ?_
        refine then_n ?_
        exact ⟨g6, F.sub ⟨rfl, rfl, rfl, trivial⟩, l6, S, hm⟩
     ·clear F S hm; rintro a w ⟨g4, F, l4, S, hm⟩
      refine wp_region_lit ?_
      refine wE (ev_move rfl) F S rfl fun a F=>?_
      obtain ⟨z1, hz1, hm⟩ := bind_some hm
      refine wE (ev_int rfl rfl (bo_add hz1)) F S rfl fun a F=>?_
      refine wE (ev_assign rfl) F S rfl fun a F=>?_
      refine wpList_nil ?_
      refine then_n ?_
      obtain rfl := sinj hm
      refine ⟨_, rfl, ?_⟩
      exact ⟨g4, F.sub ⟨rfl, rfl, rfl, trivial⟩, (l3.trans l4), S⟩
    ·refine wp_condF F rfl hc2 ?_
     refine wp_exit ?_
     refine then_e ?_
     refine then_e ?_
     refine inb_x ?_
     refine then_n ?_
     obtain rfl := sinj hm
     obtain rfl := hfin1 _ rfl
     clear hm
     have hm : (changeforgeref1_LinesFault.j1 : Option Fault) = some _ := hmo1
     exact ⟨g3, F.sub ⟨rfl, trivial⟩, l3, S, hm⟩
  ·clear F S hm; rintro a w ⟨g2, F, l2, S, hm⟩
   refine wp_seq ?_
   refine wp_region_lit ?_
   refine wE (ev_build (parts := []) (vs := []) rfl (fun w => tb29_  w)) F S rfl fun a F=>?_
   refine wl_storeC (wn rfl) rfl F S rfl rfl (vs := [.i6 0, .i6 0]) rfl ts29 (one_cons rfl (one_cons rfl one_nil)) (k := 0) rfl (lb rfl) (c' := #[.i6 0, .i6 0]) rfl rfl ?_; clear S; intro w S
   refine wpList_nil ?_
   refine then_n ?_
   refine wp_ret ?_
   obtain rfl := sinj hm
   refine post_r _ F rfl (ar_cons (resA rfl tu29 rfl (box_ptr (cells := [.i6 0, .i6 0]) 0 rfl 0 rfl (lb rfl) w S) ts29) ar_nil) ?_
   replace S : St g2 [] fr w := St.tail [] _ S
   exact ⟨_, rfl, g2, l2, S, rfl⟩

theorem changeforgeref1_LinesCode_ok {g : Gh} {fr : Hl} {w : World} {r : Int} (l_ : (List ByteArray)) (vl_1 : Value) (hl_1 : RepSl g l_ vl_1) (S : St g [] fr w) (hm : changeforgeref1_LinesCode l_ = some r) :
  Calls Tryd.prog 56 [vl_1].toArray w (fun en w' => ∃ v, en = .returned v ∧ ∃ (g' : Gh), Le g g' ∧ St g' [] fr w' ∧ .i6 r = v) := by
 unfold changeforgeref1_LinesCode at hm
 refine calls_enter (fn := Tryd.f56) Tryd.func56 rfl Tryd.ntmps56 (lb rfl) ?_
 intro a F
 replace F : Fr 6 a [(0, vl_1)] := F
 refine wp_seq ?_
 refine wp_region_lit ?_
 refine wE (ev_assign rfl) F S rfl fun a F=>?_
 refine wpList_nil ?_
 refine then_n ?_
 refine wp_seq ?_
 refine wp_region_lit ?_
 refine wE (ev_move rfl) F S rfl fun a F=>?_
 obtain ⟨y1, hy1, hm⟩ := bind_some hm
 refine wl_call0 (wn rfl) rfl F rfl (changeforgeref1_LinesFault_ok l_ vl_1 hl_1 S hy1) rfl tc97 rfl rfl ?_; clear F a S
 rintro _ a w ⟨g1, l1, S, rfl⟩ F; replace S : St g1 [] fr w := S
 refine wE (ev_field1 tu29 tf29_0 tu3 rfl (cs := [.i6 y1.Code, .i6 y1.Index]) rfl rfl) F S rfl fun a F=>?_
 refine wE (ev_assign rfl) F S rfl fun a F=>?_
 refine wpList_nil ?_
 refine then_n ?_
 refine wp_ret ?_
 obtain rfl := sinj hm
 refine post_r _ F rfl (ar_cons (resT rfl) ar_nil) ?_
 exact ⟨_, rfl, g1, l1, S, rfl⟩

theorem changeforgeref1_End_ok {g : Gh} {fr : Hl} {w : World} {r : Int} (h_ : Hunk) (vh_1 : Value) (hh_1 : RepSl g h_.Old vh_1) (vh_2 : Value) (hh_2 : RepSl g h_.New vh_2) (S : St g [] fr w) (hm : changeforgeref1_End h_ = some r) :
  Calls Tryd.prog 80 [.agg #[.i6 h_.At, vh_1, vh_2]].toArray w (fun en w' => ∃ v, en = .returned v ∧ ∃ (g' : Gh), Le g g' ∧ St g' [] fr w' ∧ .i6 r = v) := by
 unfold changeforgeref1_End at hm
 refine calls_enter (fn := Tryd.f80) Tryd.func80 rfl Tryd.ntmps80 (lb rfl) ?_
 intro a F
 replace F : Fr 9 a [(0, .agg #[.i6 h_.At, vh_1, vh_2])] := F
 refine wp_seq ?_
 refine wp_region_lit ?_
 refine wl_boxC (wn rfl) rfl rfl rfl F S rfl rfl ?_; clear F a S; rintro b1 a w F S
 refine wE (ev_assign rfl) F S rfl fun a F=>?_
 refine wpList_nil ?_
 refine then_n ?_
 refine wp_seq ?_
 refine wp_region_lit ?_
 refine wE (ev_fieldAddr' tu69 tf69_0 (z := 0) ts3 rfl ⟨_, rfl⟩ rfl) F S rfl fun a F=>?_
 refine wE (ev_load1 tu3 rfl rfl (box_ptr (cells := [.i6 h_.At]) 0 rfl 0 rfl (lb rfl))) F S rfl fun a F=>?_
 refine wE (ev_fieldAddr' tu69 tf69_1 (z := 0) ts22 rfl ⟨_, rfl⟩ rfl) F S rfl fun a F=>?_
 refine wE (ev_load1 tu22 rfl rfl (box_ptr (cells := [vh_1]) 0 rfl 1 rfl (lb rfl))) F S rfl fun a F=>?_
 refine wE (ev_lenSh hh_1 rfl tu22) F S rfl fun a F=>?_
 obtain ⟨z1, hz1, hm⟩ := bind_some hm
 refine wE (ev_int rfl rfl (bo_add hz1)) F S rfl fun a F=>?_
 refine wE (ev_assign rfl) F S rfl fun a F=>?_
 refine wpList_nil ?_
 refine then_n ?_
 refine wp_ret ?_
 obtain rfl := sinj hm
 refine post_r _ F rfl (ar_cons (resT rfl) ar_nil) ?_
 replace S : St g [] fr w := St.tail [] _ S
 exact ⟨_, rfl, g, (Le.refl _), S, rfl⟩

theorem changeforgeref1_PatchFault_ok {g : Gh} {fr : Hl} {w : World} {r : Fault} (p_ : Patch) (vp_1 : Value) (hp_1 : RepSl g p_.Hunks vp_1) (S : St g [] fr w) (hm : changeforgeref1_PatchFault p_ = some r) :
  Calls Tryd.prog 77 [.agg #[vp_1]].toArray w (fun en w' => ∃ v, en = .returned v ∧ ∃ (g' : Gh), Le g g' ∧ St g' [] fr w' ∧ .agg #[.i6 r.Code, .i6 r.Index] = v) := by
 unfold changeforgeref1_PatchFault at hm
 refine calls_enter (fn := Tryd.f77) Tryd.func77 rfl Tryd.ntmps77 (lb rfl) ?_
 intro a F
 replace F : Fr 82 a [(0, .agg #[vp_1])] := F
 refine wp_seq ?_
 refine wp_region_lit ?_
 refine wl_boxC (wn rfl) rfl rfl rfl F S rfl rfl ?_; clear F a S; rintro b1 a w F S
 refine wl_alloc (wn rfl) rfl tz29 (cs := [.i6 0, .i6 0]) rfl F S rfl rfl ?_; clear F a S; rintro b2 a w F S
 refine wpList_nil ?_
 refine then_n ?_
 refine wp_seq ?_
 refine wp_seq ?_
 refine wp_region_lit ?_
 refine wE (ev_fieldAddr' tu25 tf25_0 (z := 0) ts23 rfl ⟨_, rfl⟩ rfl) F S rfl fun a F=>?_
 refine wE (ev_load1 tu23 rfl rfl (box_ptr (cells := [vp_1]) 1 rfl 0 rfl (lb rfl))) F S rfl fun a F=>?_
 refine wE (ev_lenSh hp_1 rfl tu23) F S rfl fun a F=>?_
 refine wE (ev_int rfl rfl (bo_gtr _ _ _ _)) F S rfl fun a F=>?_
 refine wpList_nil ?_
 refine then_n ?_
 obtain ⟨hc1, hm⟩ | ⟨hc1, hm⟩ := ite_or hm
 ·refine wp_condT F rfl hc1 ?_
  refine wp_seq ?_
  refine wp_region_lit ?_
  obtain ⟨y1, hy1, hm⟩ := bind_some hm
  refine wl_call0 (wn rfl) rfl F rfl (changeforgeref1_At_ok (fr := (fl [[bx b2 #[.i6 0, .i6 0] 29], [bx b1 #[vp_1] 25]] fr)) 2 (-1) S hy1) rfl tc36 rfl rfl ?_; clear F a S
  rintro _ a w ⟨g1, l1, S, rfl⟩ F; replace S : St g1 [[bx b2 #[.i6 0, .i6 0] 29], [bx b1 #[vp_1] 25]] fr w := S
  refine wl_storeC (wn rfl) rfl F S rfl rfl (vs := [.i6 y1.Code, .i6 y1.Index]) rfl ts29 (one_cons rfl (one_cons rfl one_nil)) (k := 0) rfl (lb rfl) (c' := #[.i6 y1.Code, .i6 y1.Index]) rfl rfl ?_; clear S; intro w S
  refine wpList_nil ?_
  refine then_n ?_
  refine wp_ret ?_
  refine then_r ?_
  obtain rfl := sinj hm
  refine post_r _ F rfl (ar_cons (resA rfl tu29 rfl (box_ptr (cells := [.i6 y1.Code, .i6 y1.Index]) 0 rfl 0 rfl (lb rfl) w S) ts29) ar_nil) ?_
  replace S : St g1 [] fr w := St.tail [] _ S
  exact ⟨_, rfl, g1, l1, S, rfl⟩
 ·refine wp_condF F rfl hc1 ?_
  refine wp_skip ?_
  refine then_n ?_
  refine wp_cut (fun a w => ∃ (g2 : Gh), Fr 82 a [(2, bp b2 0)] ∧ Le g g2 ∧ St g2 [[bx b2 #[.i6 0, .i6 0] 29]] fr w ∧ changeforgeref1_PatchFault.j1 = some r) ?_ ?_
  ·refine wp_seq ?_
   refine wp_region_lit ?_
   refine wE (ev_assign rfl) F S rfl fun a F=>?_
   refine wpList_nil ?_
   refine then_n ?_
   refine wp_block ?_
   obtain ⟨r1, hr1, hm⟩ := bind_some hm
   have hmo1 := hm; clear hm
   refine wp_iter (σ := Int) (ρ := Fault ⊕ Unit) (m := fun s => changeforgeref1_PatchFault.l1 p_ s) (I := fun x1 a w => ∃ (g3 : Gh), Fr 82 a [(3, .i6 x1), (2, bp b2 0), (1, bp b1 0)] ∧ Le g g3 ∧ St g3 [[bx b2 #[.i6 0, .i6 0] 29], [bx b1 #[vp_1] 25]] fr w) hr1 ?_ ?_
   ·exact ⟨g, F.sub ⟨rfl, rfl, rfl, trivial⟩, (Le.refl _), S⟩
   ·clear F S; rintro x1 a w x2 ⟨g3, F, l3, S⟩ hx1 hfin1
    have hm : changeforgeref1_PatchFault.l1 p_ x1 = some x2 := hx1; clear hx1
    unfold changeforgeref1_PatchFault.l1 at hm
    refine wp_seq ?_
    refine wp_seq ?_
    refine wp_region_lit ?_
    refine wE (ev_move rfl) F S rfl fun a F=>?_
    refine wE (ev_fieldAddr' tu25 tf25_0 (z := 0) ts23 rfl ⟨_, rfl⟩ rfl) F S rfl fun a F=>?_
    refine wE (ev_load1 tu23 rfl rfl (box_ptr (cells := [vp_1]) 1 rfl 0 rfl (lb rfl))) F S rfl fun a F=>?_
    refine wE (ev_lenSh hp_1 rfl tu23) F S rfl fun a F=>?_
    refine wE (ev_int rfl rfl (bo_lss _ _ _ _)) F S rfl fun a F=>?_
    refine wpList_nil ?_
    refine then_n ?_
    obtain ⟨hc2, hm⟩ | ⟨hc2, hm⟩ := ite_or hm
    ·refine wp_condT F rfl hc2 ?_
     refine wp_skip ?_
     refine then_n ?_
     refine wp_seq ?_
     refine wp_block ?_
     refine wp_seq ?_
     refine wp_region_lit ?_
     refine wE (ev_fieldAddr' tu25 tf25_0 (z := 0) ts23 rfl ⟨_, rfl⟩ rfl) F S rfl fun a F=>?_
     refine wE (ev_load1 tu23 rfl rfl (box_ptr (cells := [vp_1]) 1 rfl 0 rfl (lb rfl))) F S rfl fun a F=>?_
     refine wE (ev_move rfl) F S rfl fun a F=>?_
     obtain ⟨y2, hy2, hm⟩ := bind_some hm
     obtain ⟨cs1, hr2, hp1⟩ := elemS (hp_1.mono l3) hy2
     obtain ⟨v1, v2, rfl, h1, h2⟩ := rep_Hunk hr2
     refine wE (ev_idxS (hp_1.mono l3) hy2 tu23 ts69 rfl rfl) F S rfl fun a F=>?_
     refine wE (ev_loadA tu69 rfl (cs := [.i6 y2.At, v1, v2]) ts69 rfl (ptr_mono (cks := [[bx b2 #[.i6 0, .i6 0] 29], [bx b1 #[vp_1] 25]]) (fr := fr) hp1 (Le.refl _))) F S rfl fun a F=>?_
     refine wl_alloc (wn rfl) rfl tz69 (cs := [.i6 0, nilS, nilS]) rfl F S rfl rfl ?_; clear F a S; rintro b3 a w F S
     refine wl_storeC (wn rfl) rfl F S rfl rfl (vs := [.i6 y2.At, v1, v2]) rfl ts69 (one_cons rfl (one_cons h1.one (one_cons h2.one one_nil))) (k := 0) rfl (lb rfl) (c' := #[.i6 y2.At, v1, v2]) rfl rfl ?_; clear S; intro w S
     refine wpList_nil ?_
     refine then_n ?_
     refine wp_seq ?_
     refine wp_seq ?_
     refine wp_region_lit ?_
     refine wE (ev_fieldAddr' tu69 tf69_0 (z := 0) ts3 rfl ⟨_, rfl⟩ rfl) F S rfl fun a F=>?_
     refine wE (ev_load1 tu3 rfl rfl (box_ptr (cells := [.i6 y2.At]) 0 rfl 0 rfl (lb rfl))) F S rfl fun a F=>?_
     refine wE (ev_int rfl rfl (bo_lss _ _ _ _)) F S rfl fun a F=>?_
     refine wE (ev_move rfl) F S rfl fun a F=>?_
     obtain ⟨x3, hx2, hm⟩ := bind_some hm
     refine wl_cut 4 (fun a w' => w = w' ∧ Fr 82 a [(31, .bool x3), (4, bp b3 0), (3, .i6 x1), (2, bp b2 0), (1, bp b1 0)]) ?_ ?_
     ·clear hm; obtain ⟨hc3, hm⟩ | ⟨hc3, hm⟩ := ite_or hx2
      ·refine wl_skip rfl rfl rfl rfl (ne_ft hc3) F rfl rfl ?_; clear F a; intro a F
       refine wl_skip rfl rfl rfl rfl (ne_ft hc3) F rfl rfl ?_; clear F a; intro a F
       refine wl_skip rfl rfl rfl rfl (ne_ft hc3) F rfl rfl ?_; clear F a; intro a F
       refine wE (ev_pickT rfl hc3 rfl) F S rfl fun a F=>?_
       obtain rfl := sinj hm
       refine wpList_nil (then_n ?_); exact ⟨rfl, F.sub ⟨rfl, rfl, rfl, rfl, rfl, trivial⟩⟩
      ·refine wl_ev (wg F rfl rfl rfl rfl hc3) (ev_fieldAddr' tu69 tf69_0 (z := 0) ts3 rfl ⟨_, rfl⟩ rfl) F S rfl rfl ?_; clear F a; intro a F
       refine wl_ev (wg F rfl rfl rfl rfl hc3) (ev_load1 tu3 rfl rfl (box_ptr (cells := [.i6 y2.At]) 0 rfl 0 rfl (lb rfl))) F S rfl rfl ?_; clear F a; intro a F
       refine wl_ev (wg F rfl rfl rfl rfl hc3) (ev_int rfl rfl (bo_gtr _ _ _ _)) F S rfl rfl ?_; clear F a; intro a F
       refine wE (ev_pickF rfl hc3 rfl) F S rfl fun a F=>?_
       obtain rfl := sinj hm
       refine wpList_nil (then_n ?_); exact ⟨rfl, F.sub ⟨rfl, rfl, rfl, rfl, rfl, trivial⟩⟩
     clear F; rintro a w' ⟨rfl, F⟩
     refine wpList_nil ?_
     refine then_n ?_
     obtain ⟨hc4, hm⟩ | ⟨hc4, hm⟩ := ite_or hm
     ·refine wp_condT F rfl hc4 ?_
      refine wp_seq ?_
      refine wp_region_lit ?_
      refine wE (ev_move rfl) F S rfl fun a F=>?_
      obtain ⟨y3, hy3, hm⟩ := bind_some hm
      refine wl_call0 (wn rfl) rfl F rfl (changeforgeref1_At_ok (fr := (fl [[bx b3 #[.i6 y2.At, v1, v2] 69], [bx b2 #[.i6 0, .i6 0] 29], [bx b1 #[vp_1] 25]] fr)) 3 x1 S hy3) rfl tc36 rfl rfl ?_; clear F a S
      rintro _ a w ⟨g4, l4, S, rfl⟩ F; replace S : St g4 [[bx b3 #[.i6 y2.At, v1, v2] 69], [bx b2 #[.i6 0, .i6 0] 29], [bx b1 #[vp_1] 25]] fr w := S
      refine wl_storeC (wn rfl) rfl F S rfl rfl (vs := [.i6 y3.Code, .i6 y3.Index]) rfl ts29 (one_cons rfl (one_cons rfl one_nil)) (k := 1) rfl (lb rfl) (c' := #[.i6 y3.Code, .i6 y3.Index]) rfl rfl ?_; clear S; intro w S
      refine wpList_nil ?_
      refine then_n ?_
      refine wp_ret ?_
      refine then_r ?_
      refine inb_r ?_
      refine then_r ?_
      refine then_r ?_
      refine inb_r ?_
      refine then_r ?_
      obtain rfl := sinj hm
      obtain rfl := hfin1 _ rfl
      clear hm
      have hm : (some y3 : Option Fault) = some _ := hmo1
      obtain rfl := sinj hm
      refine post_r _ F rfl (ar_cons (resA rfl tu29 rfl (box_ptr (cells := [.i6 y3.Code, .i6 y3.Index]) 1 rfl 0 rfl (lb rfl) w S) ts29) ar_nil) ?_
      replace S : St g4 [] fr w := St.tail [] _ S
      exact ⟨_, rfl, g4, (l3.trans l4), S, rfl⟩
     ·refine wp_condF F rfl hc4 ?_
      refine wp_skip ?_
      refine then_n ?_
      refine wp_seq ?_
      refine wp_seq ?_
      refine wp_region_lit ?_
      refine wE (ev_fieldAddr' tu69 tf69_1 (z := 0) ts22 rfl ⟨_, rfl⟩ rfl) F S rfl fun a F=>?_
      refine wE (ev_load1 tu22 rfl rfl (box_ptr (cells := [v1]) 0 rfl 1 rfl (lb rfl))) F S rfl fun a F=>?_
      obtain ⟨y4, hy4, hm⟩ := bind_some hm
      refine wl_call0 (wn rfl) rfl F rfl (changeforgeref1_LinesCode_ok (fr := (fl [[bx b3 #[.i6 y2.At, v1, v2] 69], [bx b2 #[.i6 0, .i6 0] 29], [bx b1 #[vp_1] 25]] fr)) y2.Old v1 h1 S hy4) rfl tc56 rfl rfl ?_; clear F a S
      rintro _ a w ⟨g5, l5, S, rfl⟩ F; replace S : St g5 [[bx b3 #[.i6 y2.At, v1, v2] 69], [bx b2 #[.i6 0, .i6 0] 29], [bx b1 #[vp_1] 25]] fr w := S
      refine wE (ev_assign rfl) F S rfl fun a F=>?_
      refine wpList_nil ?_
      refine then_n ?_
      refine wp_seq ?_
      refine wp_region_lit ?_
      refine wE (ev_move rfl) F S rfl fun a F=>?_
      refine wE (ev_int rfl rfl (bo_neq _ _ _ _)) F S rfl fun a F=>?_
      refine wpList_nil ?_
      refine then_n ?_
      obtain ⟨hc5, hm⟩ | ⟨hc5, hm⟩ := ite_or hm
      ·refine wp_condT F rfl hc5 ?_
       refine wp_seq ?_
       refine wp_region_lit ?_
       refine wE (ev_move rfl) F S rfl fun a F=>?_
       refine wE (ev_move rfl) F S rfl fun a F=>?_
       obtain ⟨y5, hy5, hm⟩ := bind_some hm
       refine wl_call0 (wn rfl) rfl F rfl (changeforgeref1_At_ok (fr := (fl [[bx b3 #[.i6 y2.At, v1, v2] 69], [bx b2 #[.i6 0, .i6 0] 29], [bx b1 #[vp_1] 25]] fr)) y4 x1 S hy5) rfl tc36 rfl rfl ?_; clear F a S
       rintro _ a w ⟨g6, l6, S, rfl⟩ F; replace S : St g6 [[bx b3 #[.i6 y2.At, v1, v2] 69], [bx b2 #[.i6 0, .i6 0] 29], [bx b1 #[vp_1] 25]] fr w := S
       refine wl_storeC (wn rfl) rfl F S rfl rfl (vs := [.i6 y5.Code, .i6 y5.Index]) rfl ts29 (one_cons rfl (one_cons rfl one_nil)) (k := 1) rfl (lb rfl) (c' := #[.i6 y5.Code, .i6 y5.Index]) rfl rfl ?_; clear S; intro w S
       refine wpList_nil ?_
       refine then_n ?_
       refine wp_ret ?_
       refine then_r ?_
       refine inb_r ?_
       refine then_r ?_
       refine then_r ?_
       refine inb_r ?_
       refine then_r ?_
       obtain rfl := sinj hm
       obtain rfl := hfin1 _ rfl
       clear hm
       have hm : (some y5 : Option Fault) = some _ := hmo1
       obtain rfl := sinj hm
       refine post_r _ F rfl (ar_cons (resA rfl tu29 rfl (box_ptr (cells := [.i6 y5.Code, .i6 y5.Index]) 1 rfl 0 rfl (lb rfl) w S) ts29) ar_nil) ?_
       replace S : St g6 [] fr w := St.tail [] _ S
       exact ⟨_, rfl, g6, ((l3.trans l5).trans l6), S, rfl⟩
      ·refine wp_condF F rfl hc5 ?_
       refine wp_skip ?_
       refine then_n ?_
       refine wp_seq ?_
       refine wp_seq ?_
       refine wp_region_lit ?_
       refine wE (ev_fieldAddr' tu69 tf69_2 (z := 0) ts22 rfl ⟨_, rfl⟩ rfl) F S rfl fun a F=>?_
       refine wE (ev_load1 tu22 rfl rfl (box_ptr (cells := [v2]) 0 rfl 2 rfl (lb rfl))) F S rfl fun a F=>?_
       obtain ⟨y6, hy6, hm⟩ := bind_some hm
       refine wl_call0 (wn rfl) rfl F rfl (changeforgeref1_LinesCode_ok (fr := (fl [[bx b3 #[.i6 y2.At, v1, v2] 69], [bx b2 #[.i6 0, .i6 0] 29], [bx b1 #[vp_1] 25]] fr)) y2.New v2 (h2.mono l5) S hy6) rfl tc56 rfl rfl ?_; clear F a S
       rintro _ a w ⟨g7, l7, S, rfl⟩ F; replace S : St g7 [[bx b3 #[.i6 y2.At, v1, v2] 69], [bx b2 #[.i6 0, .i6 0] 29], [bx b1 #[vp_1] 25]] fr w := S
       refine wE (ev_assign rfl) F S rfl fun a F=>?_
       refine wpList_nil ?_
       refine then_n ?_
       refine wp_seq ?_
       refine wp_region_lit ?_
       refine wE (ev_move rfl) F S rfl fun a F=>?_
       refine wE (ev_int rfl rfl (bo_neq _ _ _ _)) F S rfl fun a F=>?_
       refine wpList_nil ?_
       refine then_n ?_
       obtain ⟨hc6, hm⟩ | ⟨hc6, hm⟩ := ite_or hm
       ·refine wp_condT F rfl hc6 ?_
        refine wp_seq ?_
        refine wp_region_lit ?_
        refine wE (ev_move rfl) F S rfl fun a F=>?_
        refine wE (ev_move rfl) F S rfl fun a F=>?_
        obtain ⟨y7, hy7, hm⟩ := bind_some hm
        refine wl_call0 (wn rfl) rfl F rfl (changeforgeref1_At_ok (fr := (fl [[bx b3 #[.i6 y2.At, v1, v2] 69], [bx b2 #[.i6 0, .i6 0] 29], [bx b1 #[vp_1] 25]] fr)) y6 x1 S hy7) rfl tc36 rfl rfl ?_; clear F a S
        rintro _ a w ⟨g8, l8, S, rfl⟩ F; replace S : St g8 [[bx b3 #[.i6 y2.At, v1, v2] 69], [bx b2 #[.i6 0, .i6 0] 29], [bx b1 #[vp_1] 25]] fr w := S
        refine wl_storeC (wn rfl) rfl F S rfl rfl (vs := [.i6 y7.Code, .i6 y7.Index]) rfl ts29 (one_cons rfl (one_cons rfl one_nil)) (k := 1) rfl (lb rfl) (c' := #[.i6 y7.Code, .i6 y7.Index]) rfl rfl ?_; clear S; intro w S
        refine wpList_nil ?_
        refine then_n ?_
        refine wp_ret ?_
        refine then_r ?_
        refine inb_r ?_
        refine then_r ?_
        refine then_r ?_
        refine inb_r ?_
        refine then_r ?_
        obtain rfl := sinj hm
        obtain rfl := hfin1 _ rfl
        clear hm
        have hm : (some y7 : Option Fault) = some _ := hmo1
        obtain rfl := sinj hm
        refine post_r _ F rfl (ar_cons (resA rfl tu29 rfl (box_ptr (cells := [.i6 y7.Code, .i6 y7.Index]) 1 rfl 0 rfl (lb rfl) w S) ts29) ar_nil) ?_
        replace S : St g8 [] fr w := St.tail [] _ S
        exact ⟨_, rfl, g8, (((l3.trans l5).trans l7).trans l8), S, rfl⟩
       ·refine wp_condF F rfl hc6 ?_
        refine wp_skip ?_
        refine then_n ?_
        refine wp_seq ?_
        refine wp_seq ?_
        refine wp_quiet mo (by kernel_rfl) S ?_
        refine wq_ev (wn rfl) (ev_fieldAddr' tu69 tf69_1 (z := 0) ts22 rfl ⟨_, rfl⟩ rfl) F rfl rfl ?_; clear F a; intro a F
        refine wq_ev (wn rfl) (ev_load1 tu22 rfl rfl (box_ptr (cells := [v1]) 0 rfl 1 rfl (lb rfl))) F rfl rfl ?_; clear F a; intro a F
        refine wq_ev (wn rfl) (ev_lenSh h1 rfl tu22) F rfl rfl ?_; clear F a; intro a F
        refine wq_ev (wn rfl) (ev_fieldAddr' tu69 tf69_2 (z := 0) ts22 rfl ⟨_, rfl⟩ rfl) F rfl rfl ?_; clear F a; intro a F
        refine wq_ev (wn rfl) (ev_load1 tu22 rfl rfl (box_ptr (cells := [v2]) 0 rfl 2 rfl (lb rfl))) F rfl rfl ?_; clear F a; intro a F
        refine wq_ev (wn rfl) (ev_lenSh h2 rfl tu22) F rfl rfl ?_; clear F a; intro a F
        obtain ⟨z1, hz1, hm⟩ := bind_some hm
        refine wq_ev (wn rfl) (ev_int rfl rfl (bo_add hz1)) F rfl rfl ?_; clear F a; intro a F
        refine wq_ev (wn rfl) (ev_int rfl rfl (bo_eql _ _ _ _)) F rfl rfl ?_; clear F a; intro a F
        refine wq_ev (wn rfl) (ev_move rfl) F rfl rfl ?_; clear F a; intro a F
        obtain ⟨x4, hx3, hm⟩ := bind_some hm
        refine wq_cut 15 (fun a => Fr 82 a [(73, .bool x4), (4, bp b3 0), (3, .i6 x1), (2, bp b2 0), (1, bp b1 0)]) ?_ ?_
        ·clear hm; obtain ⟨hc7, hm⟩ | ⟨hc7, hm⟩ := ite_or hx3
         ·refine wq_skip rfl rfl rfl rfl (ne_ft hc7) F rfl rfl ?_; clear F a; intro a F
          refine wq_skip rfl rfl rfl rfl (ne_ft hc7) F rfl rfl ?_; clear F a; intro a F
          refine wq_skip rfl rfl rfl rfl (ne_ft hc7) F rfl rfl ?_; clear F a; intro a F
          refine wq_skipu rfl rfl rfl rfl F rfl rfl ?_; clear F a; intro a F
          refine wq_skipu rfl rfl rfl rfl F rfl rfl ?_; clear F a; intro a F
          refine wq_skipu rfl rfl rfl rfl F rfl rfl ?_; clear F a; intro a F
          refine wq_skipu rfl rfl rfl rfl F rfl rfl ?_; clear F a; intro a F
          refine wq_skipu rfl rfl rfl rfl F rfl rfl ?_; clear F a; intro a F
          refine wq_skipu rfl rfl rfl rfl F rfl rfl ?_; clear F a; intro a F
          refine wq_skipu rfl rfl rfl rfl F rfl rfl ?_; clear F a; intro a F
          refine wq_skipu rfl rfl rfl rfl F rfl rfl ?_; clear F a; intro a F
          refine wq_skipu rfl rfl rfl rfl F rfl rfl ?_; clear F a; intro a F
          refine wq_skipu rfl rfl rfl rfl F rfl rfl ?_; clear F a; intro a F
          refine wq_skip rfl rfl rfl rfl (ne_ft hc7) F rfl rfl ?_; clear F a; intro a F
          refine wq_ev (wn rfl) (ev_pickT rfl hc7 rfl) F rfl rfl ?_; clear F a; intro a F
          obtain rfl := sinj hm
          refine wq_nil ?_; exact F.sub ⟨rfl, rfl, rfl, rfl, rfl, trivial⟩
         ·refine wq_ev (wg F rfl rfl rfl rfl hc7) (ev_move rfl) F rfl rfl ?_; clear F a; intro a F
          refine wq_ev (wg F rfl rfl rfl rfl hc7) (ev_int rfl rfl (bo_gtr _ _ _ _)) F rfl rfl ?_; clear F a; intro a F
          refine wq_ev (wg F rfl rfl rfl rfl hc7) (ev_move rfl) F rfl rfl ?_; clear F a; intro a F
          obtain ⟨x5, hx4, hm⟩ := bind_some hm
          refine wq_cut 11 (fun a => Fr 82 a [(72, .bool x5), (61, .bool (decide (x1 > 0))), (60, .bool (decide (x1 > 0))), (59, .i6 x1), (58, .bool (decide (z1 = 0))), (4, bp b3 0), (3, .i6 x1), (2, bp b2 0), (1, bp b1 0)]) ?_ ?_
          ·clear hm; obtain ⟨hc8, hm⟩ | ⟨hc8, hm⟩ := ite_or hx4
           ·refine wq_ev (wg F rfl rfl rfl rfl hc8) (ev_fieldAddr' tu69 tf69_0 (z := 0) ts3 rfl ⟨_, rfl⟩ rfl) F rfl rfl ?_; clear F a; intro a F
            refine wq_ev (wg F rfl rfl rfl rfl hc8) (ev_load1 tu3 rfl rfl (box_ptr (cells := [.i6 y2.At]) 0 rfl 0 rfl (lb rfl))) F rfl rfl ?_; clear F a; intro a F
            refine wq_ev (wg F rfl rfl rfl rfl hc8) (ev_fieldAddr' tu25 tf25_0 (z := 0) ts23 rfl ⟨_, rfl⟩ rfl) F rfl rfl ?_; clear F a; intro a F
            refine wq_ev (wg F rfl rfl rfl rfl hc8) (ev_load1 tu23 rfl rfl (box_ptr (cells := [vp_1]) 2 rfl 0 rfl (lb rfl))) F rfl rfl ?_; clear F a; intro a F
            refine wq_ev (wg F rfl rfl rfl rfl hc8) (ev_move rfl) F rfl rfl ?_; clear F a; intro a F
            obtain ⟨z2, hz2, hm⟩ := bind_some hm
            refine wq_ev (wg F rfl rfl rfl rfl hc8) (ev_int rfl rfl (bo_sub hz2)) F rfl rfl ?_; clear F a; intro a F
            obtain ⟨y8, hy8, hm⟩ := bind_some hm
            obtain ⟨cs2, hr3, hp2⟩ := elemS (hp_1.mono ((l3.trans l5).trans l7)) hy8
            obtain ⟨v3, v4, rfl, h3, h4⟩ := rep_Hunk hr3
            refine wq_ev (wg F rfl rfl rfl rfl hc8) (ev_idxS (hp_1.mono ((l3.trans l5).trans l7)) hy8 tu23 ts69 rfl rfl) F rfl rfl ?_; clear F a; intro a F
            refine wq_ev (wg F rfl rfl rfl rfl hc8) (ev_loadA tu69 rfl (cs := [.i6 y8.At, v3, v4]) ts69 rfl (ptr_mono (cks := [[bx b3 #[.i6 y2.At, v1, v2] 69], [bx b2 #[.i6 0, .i6 0] 29], [bx b1 #[vp_1] 25]]) (fr := fr) hp2 (Le.refl _))) F rfl rfl ?_; clear F a; intro a F
            obtain ⟨y9, hy9, hm⟩ := bind_some hm
            refine wq_call (wg F rfl rfl rfl rfl hc8) rfl (xs := [.tmp 69]) (vs := [.agg #[.i6 y8.At, v3, v4]]) (cap := []) F rfl rfl tc80 (v := .i6 y9) (fun w S => (changeforgeref1_End_ok (g := g7) (fr := (fl [[bx b3 #[.i6 y2.At, v1, v2] 69], [bx b2 #[.i6 0, .i6 0] 29], [bx b1 #[vp_1] 25]] fr)) (w := w) y8 v3 h3 v4 h4 S hy9).mono (by rintro en w' ⟨_, rfl, g2, l2, S2, rfl⟩; exact ⟨rfl, S2.weak l2⟩)) rfl rfl ?_; clear F a; intro a F
            refine wq_ev (wg F rfl rfl rfl rfl hc8) (ev_int rfl rfl (bo_leq _ _ _ _)) F rfl rfl ?_; clear F a; intro a F
            refine wq_ev (wg F rfl rfl rfl rfl hc7) (ev_pickT rfl hc8 rfl) F rfl rfl ?_; clear F a; intro a F
            obtain rfl := sinj hm
            refine wq_nil ?_; exact F.sub ⟨rfl, rfl, rfl, rfl, rfl, rfl, rfl, rfl, rfl, trivial⟩
           ·refine wq_skip rfl rfl rfl rfl (ne_tf hc8) F rfl rfl ?_; clear F a; intro a F
            refine wq_skip rfl rfl rfl rfl (ne_tf hc8) F rfl rfl ?_; clear F a; intro a F
            refine wq_skip rfl rfl rfl rfl (ne_tf hc8) F rfl rfl ?_; clear F a; intro a F
            refine wq_skip rfl rfl rfl rfl (ne_tf hc8) F rfl rfl ?_; clear F a; intro a F
            refine wq_skip rfl rfl rfl rfl (ne_tf hc8) F rfl rfl ?_; clear F a; intro a F
            refine wq_skip rfl rfl rfl rfl (ne_tf hc8) F rfl rfl ?_; clear F a; intro a F
            refine wq_skip rfl rfl rfl rfl (ne_tf hc8) F rfl rfl ?_; clear F a; intro a F
            refine wq_skip rfl rfl rfl rfl (ne_tf hc8) F rfl rfl ?_; clear F a; intro a F
            refine wq_skip rfl rfl rfl rfl (ne_tf hc8) F rfl rfl ?_; clear F a; intro a F
            refine wq_skip rfl rfl rfl rfl (ne_tf hc8) F rfl rfl ?_; clear F a; intro a F
            refine wq_ev (wg F rfl rfl rfl rfl hc7) (ev_pickF rfl hc8 rfl) F rfl rfl ?_; clear F a; intro a F
            obtain rfl := sinj hm
            refine wq_nil ?_; exact F.sub ⟨rfl, rfl, rfl, rfl, rfl, rfl, rfl, rfl, rfl, trivial⟩
          clear F; intro a F
          refine wq_ev (wn rfl) (ev_pickF rfl hc7 rfl) F rfl rfl ?_; clear F a; intro a F
          obtain rfl := sinj hm
          refine wq_nil ?_; exact F.sub ⟨rfl, rfl, rfl, rfl, rfl, trivial⟩
        clear F; intro a F
        refine wq_nil ?_; clear S; intro w S
        refine then_n ?_
        obtain ⟨hc9, hm⟩ | ⟨hc9, hm⟩ := ite_or hm
        ·refine wp_condT F rfl hc9 ?_
         refine wp_seq ?_
         refine wp_region_lit ?_
         refine wE (ev_move rfl) F S rfl fun a F=>?_
         obtain ⟨y10, hy10, hm⟩ := bind_some hm
         refine wl_call0 (wn rfl) rfl F rfl (changeforgeref1_At_ok (fr := (fl [[bx b3 #[.i6 y2.At, v1, v2] 69], [bx b2 #[.i6 0, .i6 0] 29], [bx b1 #[vp_1] 25]] fr)) 5 x1 S hy10) rfl tc36 rfl rfl ?_; clear F a S
         rintro _ a w ⟨g10, l10, S, rfl⟩ F; replace S : St g10 [[bx b3 #[.i6 y2.At, v1, v2] 69], [bx b2 #[.i6 0, .i6 0] 29], [bx b1 #[vp_1] 25]] fr w := S
         refine wl_storeC (wn rfl) rfl F S rfl rfl (vs := [.i6 y10.Code, .i6 y10.Index]) rfl ts29 (one_cons rfl (one_cons rfl one_nil)) (k := 1) rfl (lb rfl) (c' := #[.i6 y10.Code, .i6 y10.Index]) rfl rfl ?_; clear S; intro w S
         refine wpList_nil ?_
         refine then_n ?_
         refine wp_ret ?_
         refine then_r ?_
         refine inb_r ?_
         refine then_r ?_
         refine then_r ?_
         refine inb_r ?_
         refine then_r ?_
         obtain rfl := sinj hm
         obtain rfl := hfin1 _ rfl
         clear hm
         have hm : (some y10 : Option Fault) = some _ := hmo1
         obtain rfl := sinj hm
         refine post_r _ F rfl (ar_cons (resA rfl tu29 rfl (box_ptr (cells := [.i6 y10.Code, .i6 y10.Index]) 1 rfl 0 rfl (lb rfl) w S) ts29) ar_nil) ?_
         replace S : St g10 [] fr w := St.tail [] _ S
         exact ⟨_, rfl, g10, (((l3.trans l5).trans l7).trans l10), S, rfl⟩
        ·refine wp_condF F rfl hc9 ?_
         refine wp_skip ?_
         refine then_n ?_
         refine wp_seq ?_
         refine wp_region_lit ?_
         refine wE (ev_loadA tu69 rfl (cs := [.i6 y2.At, v1, v2]) ts69 rfl (box_ptr (cells := [.i6 y2.At, v1, v2]) 0 rfl 0 rfl (lb rfl))) F S rfl fun a F=>?_
         obtain ⟨y11, hy11, hm⟩ := bind_some hm
         refine wl_call0 (wn rfl) rfl F rfl (changeforgeref1_End_ok (fr := (fl [[bx b3 #[.i6 y2.At, v1, v2] 69], [bx b2 #[.i6 0, .i6 0] 29], [bx b1 #[vp_1] 25]] fr)) y2 v1 (h1.mono (l5.trans l7)) v2 (h2.mono (l5.trans l7)) S hy11) rfl tc80 rfl rfl ?_; clear F a S
         rintro _ a w ⟨g11, l11, S, rfl⟩ F; replace S : St g11 [[bx b3 #[.i6 y2.At, v1, v2] 69], [bx b2 #[.i6 0, .i6 0] 29], [bx b1 #[vp_1] 25]] fr w := S
         refine wE (ev_int rfl rfl (bo_gtr _ _ _ _)) F S rfl fun a F=>?_
         refine wpList_nil ?_
         refine then_n ?_
         obtain ⟨hc10, hm⟩ | ⟨hc10, hm⟩ := ite_or hm
         ·refine wp_condT F rfl hc10 ?_
          refine wp_seq ?_
          refine wp_region_lit ?_
          refine wE (ev_move rfl) F S rfl fun a F=>?_
          obtain ⟨y12, hy12, hm⟩ := bind_some hm
          refine wl_call0 (wn rfl) rfl F rfl (changeforgeref1_At_ok (fr := (fl [[bx b3 #[.i6 y2.At, v1, v2] 69], [bx b2 #[.i6 0, .i6 0] 29], [bx b1 #[vp_1] 25]] fr)) 3 x1 S hy12) rfl tc36 rfl rfl ?_; clear F a S
          rintro _ a w ⟨g12, l12, S, rfl⟩ F; replace S : St g12 [[bx b3 #[.i6 y2.At, v1, v2] 69], [bx b2 #[.i6 0, .i6 0] 29], [bx b1 #[vp_1] 25]] fr w := S
          refine wl_storeC (wn rfl) rfl F S rfl rfl (vs := [.i6 y12.Code, .i6 y12.Index]) rfl ts29 (one_cons rfl (one_cons rfl one_nil)) (k := 1) rfl (lb rfl) (c' := #[.i6 y12.Code, .i6 y12.Index]) rfl rfl ?_; clear S; intro w S
          refine wpList_nil ?_
          refine then_n ?_
          refine wp_ret ?_
          refine inb_r ?_
          refine then_r ?_
          refine then_r ?_
          refine inb_r ?_
          refine then_r ?_
          obtain rfl := sinj hm
          obtain rfl := hfin1 _ rfl
          clear hm
          have hm : (some y12 : Option Fault) = some _ := hmo1
          obtain rfl := sinj hm
          refine post_r _ F rfl (ar_cons (resA rfl tu29 rfl (box_ptr (cells := [.i6 y12.Code, .i6 y12.Index]) 1 rfl 0 rfl (lb rfl) w S) ts29) ar_nil) ?_
          replace S : St g12 [] fr w := St.tail [] _ S
          exact ⟨_, rfl, g12, ((((l3.trans l5).trans l7).trans l11).trans l12), S, rfl⟩
         ·refine wp_condF F rfl hc10 ?_
          refine wp_skip ?_
          refine inb_n ?_
          refine then_n ?_
          refine wp_region_lit ?_
          refine wE (ev_move rfl) F S rfl fun a F=>?_
          obtain ⟨z3, hz3, hm⟩ := bind_some hm
          refine wE (ev_int rfl rfl (bo_add hz3)) F S rfl fun a F=>?_
          refine wE (ev_assign rfl) F S rfl fun a F=>?_
          refine wpList_nil ?_
          refine then_n ?_
          obtain rfl := sinj hm
          refine ⟨_, rfl, ?_⟩
          replace S : St g11 [[bx b2 #[.i6 0, .i6 0] 29], [bx b1 #[vp_1] 25]] fr w := St.tail [[bx b2 #[.i6 0, .i6 0] 29], [bx b1 #[vp_1] 25]] _ ((S.frontC 2 rfl).frontC 2 rfl)
          exact ⟨g11, F.sub ⟨rfl, rfl, rfl, trivial⟩, (((l3.trans l5).trans l7).trans l11), S⟩
    ·refine wp_condF F rfl hc2 ?_
     refine wp_exit ?_
     refine then_e ?_
     refine then_e ?_
     refine inb_x ?_
     refine then_n ?_
     obtain rfl := sinj hm
     obtain rfl := hfin1 _ rfl
     clear hm
     have hm : (changeforgeref1_PatchFault.j1 : Option Fault) = some _ := hmo1
     replace S : St g3 [[bx b2 #[.i6 0, .i6 0] 29]] fr w := St.tail [[bx b2 #[.i6 0, .i6 0] 29]] _ (S.frontC 0 rfl)
     exact ⟨g3, F.sub ⟨rfl, trivial⟩, l3, S, hm⟩
  ·clear F S hm; rintro a w ⟨g2, F, l2, S, hm⟩
   refine wp_seq ?_
   refine wp_region_lit ?_
   refine wE (ev_build (parts := []) (vs := []) rfl (fun w => tb29_  w)) F S rfl fun a F=>?_
   refine wl_storeC (wn rfl) rfl F S rfl rfl (vs := [.i6 0, .i6 0]) rfl ts29 (one_cons rfl (one_cons rfl one_nil)) (k := 0) rfl (lb rfl) (c' := #[.i6 0, .i6 0]) rfl rfl ?_; clear S; intro w S
   refine wpList_nil ?_
   refine then_n ?_
   refine wp_ret ?_
   obtain rfl := sinj hm
   refine post_r _ F rfl (ar_cons (resA rfl tu29 rfl (box_ptr (cells := [.i6 0, .i6 0]) 0 rfl 0 rfl (lb rfl) w S) ts29) ar_nil) ?_
   replace S : St g2 [] fr w := St.tail [] _ S
   exact ⟨_, rfl, g2, l2, S, rfl⟩

theorem changeforgeref2_ChangeCode_ok {g : Gh} {fr : Hl} {w : World} {r : Int} (c_ : TreeChange) (vc_1 : Value) (hc_1 : RepSl g c_.Lines vc_1) (vc_2 : Value) (hc_2 : RepSl g c_.Patch.Hunks vc_2) (S : St g [] fr w) (hm : changeforgeref2_ChangeCode c_ = some r) :
  Calls Tryd.prog 35 [.agg #[.i6 c_.Kind, .string c_.Path, .string c_.To, vc_1, vc_2]].toArray w (fun en w' => ∃ v, en = .returned v ∧ ∃ (g' : Gh), Le g g' ∧ St g' [] fr w' ∧ .i6 r = v) := by
 unfold changeforgeref2_ChangeCode at hm
 refine calls_enter (fn := Tryd.f35) Tryd.func35 rfl Tryd.ntmps35 (lb rfl) ?_
 intro a F
 replace F : Fr 109 a [(0, .agg #[.i6 c_.Kind, .string c_.Path, .string c_.To, vc_1, vc_2])] := F
 refine wp_seq ?_
 refine wp_region_lit ?_
 refine wl_boxC (wn rfl) rfl rfl rfl F S rfl rfl ?_; clear F a S; rintro b1 a w F S
 refine wE (ev_assign rfl) F S rfl fun a F=>?_
 refine wpList_nil ?_
 refine then_n ?_
 refine wp_seq ?_
 refine wp_region_lit ?_
 refine wE (ev_fieldAddr' tu27 tf27_0 (z := 0) ts3 rfl ⟨_, rfl⟩ rfl) F S rfl fun a F=>?_
 refine wE (ev_load1 tu3 rfl rfl (box_ptr (cells := [.i6 c_.Kind]) 0 rfl 0 rfl (lb rfl))) F S rfl fun a F=>?_
 refine wE (ev_int rfl rfl (bo_eql _ _ _ _)) F S rfl fun a F=>?_
 refine wE (ev_assign rfl) F S rfl fun a F=>?_
 refine wpList_nil ?_
 refine then_n ?_
 refine wp_seq ?_
 refine wp_region_lit ?_
 refine wE (ev_fieldAddr' tu27 tf27_0 (z := 0) ts3 rfl ⟨_, rfl⟩ rfl) F S rfl fun a F=>?_
 refine wE (ev_load1 tu3 rfl rfl (box_ptr (cells := [.i6 c_.Kind]) 0 rfl 0 rfl (lb rfl))) F S rfl fun a F=>?_
 refine wE (ev_int rfl rfl (bo_eql _ _ _ _)) F S rfl fun a F=>?_
 refine wE (ev_assign rfl) F S rfl fun a F=>?_
 refine wpList_nil ?_
 refine then_n ?_
 refine wp_seq ?_
 refine wp_region_lit ?_
 refine wE (ev_fieldAddr' tu27 tf27_0 (z := 0) ts3 rfl ⟨_, rfl⟩ rfl) F S rfl fun a F=>?_
 refine wE (ev_load1 tu3 rfl rfl (box_ptr (cells := [.i6 c_.Kind]) 0 rfl 0 rfl (lb rfl))) F S rfl fun a F=>?_
 refine wE (ev_int rfl rfl (bo_eql _ _ _ _)) F S rfl fun a F=>?_
 refine wE (ev_assign rfl) F S rfl fun a F=>?_
 refine wpList_nil ?_
 refine then_n ?_
 refine wp_seq ?_
 refine wp_region_lit ?_
 refine wE (ev_fieldAddr' tu27 tf27_0 (z := 0) ts3 rfl ⟨_, rfl⟩ rfl) F S rfl fun a F=>?_
 refine wE (ev_load1 tu3 rfl rfl (box_ptr (cells := [.i6 c_.Kind]) 0 rfl 0 rfl (lb rfl))) F S rfl fun a F=>?_
 refine wE (ev_int rfl rfl (bo_eql _ _ _ _)) F S rfl fun a F=>?_
 refine wE (ev_assign rfl) F S rfl fun a F=>?_
 refine wpList_nil ?_
 refine then_n ?_
 refine wp_seq ?_
 refine wp_seq ?_
 refine wp_region_lit ?_
 refine wE (ev_move rfl) F S rfl fun a F=>?_
 refine wE (ev_not rfl) F S rfl fun a F=>?_
 refine wE (ev_move rfl) F S rfl fun a F=>?_
 obtain ⟨x1, hx1, hm⟩ := bind_some hm
 refine wl_cut 3 (fun a w' => w = w' ∧ Fr 109 a [(25, .bool x1), (6, .bool (decide (c_.Kind = 4))), (5, .bool (decide (c_.Kind = 3))), (4, .bool (decide (c_.Kind = 2))), (3, .bool (decide (c_.Kind = 1))), (1, bp b1 0)]) ?_ ?_
 ·clear hm; obtain ⟨hc1, hm⟩ | ⟨hc1, hm⟩ := ite_or hx1
  ·refine wl_ev (wg F rfl rfl rfl rfl hc1) (ev_move rfl) F S rfl rfl ?_; clear F a; intro a F
   refine wl_ev (wg F rfl rfl rfl rfl hc1) (ev_not rfl) F S rfl rfl ?_; clear F a; intro a F
   refine wE (ev_pickT rfl hc1 rfl) F S rfl fun a F=>?_
   obtain rfl := sinj hm
   refine wpList_nil (then_n ?_); exact ⟨rfl, F.sub ⟨rfl, rfl, rfl, rfl, rfl, rfl, trivial⟩⟩
  ·refine wl_skip rfl rfl rfl rfl (ne_tf hc1) F rfl rfl ?_; clear F a; intro a F
   refine wl_skip rfl rfl rfl rfl (ne_tf hc1) F rfl rfl ?_; clear F a; intro a F
   refine wE (ev_pickF rfl hc1 rfl) F S rfl fun a F=>?_
   obtain rfl := sinj hm
   refine wpList_nil (then_n ?_); exact ⟨rfl, F.sub ⟨rfl, rfl, rfl, rfl, rfl, rfl, trivial⟩⟩
 clear F; rintro a w' ⟨rfl, F⟩
 refine wE (ev_move rfl) F S rfl fun a F=>?_
 obtain ⟨x2, hx2, hm⟩ := bind_some hm
 refine wl_cut 3 (fun a w' => w = w' ∧ Fr 109 a [(29, .bool x2), (6, .bool (decide (c_.Kind = 4))), (5, .bool (decide (c_.Kind = 3))), (4, .bool (decide (c_.Kind = 2))), (3, .bool (decide (c_.Kind = 1))), (1, bp b1 0)]) ?_ ?_
 ·clear hm; obtain ⟨hc2, hm⟩ | ⟨hc2, hm⟩ := ite_or hx2
  ·refine wl_ev (wg F rfl rfl rfl rfl hc2) (ev_move rfl) F S rfl rfl ?_; clear F a; intro a F
   refine wl_ev (wg F rfl rfl rfl rfl hc2) (ev_not rfl) F S rfl rfl ?_; clear F a; intro a F
   refine wE (ev_pickT rfl hc2 rfl) F S rfl fun a F=>?_
   obtain rfl := sinj hm
   refine wpList_nil (then_n ?_); exact ⟨rfl, F.sub ⟨rfl, rfl, rfl, rfl, rfl, rfl, trivial⟩⟩
  ·refine wl_skip rfl rfl rfl rfl (ne_tf hc2) F rfl rfl ?_; clear F a; intro a F
   refine wl_skip rfl rfl rfl rfl (ne_tf hc2) F rfl rfl ?_; clear F a; intro a F
   refine wE (ev_pickF rfl hc2 rfl) F S rfl fun a F=>?_
   obtain rfl := sinj hm
   refine wpList_nil (then_n ?_); exact ⟨rfl, F.sub ⟨rfl, rfl, rfl, rfl, rfl, rfl, trivial⟩⟩
 clear F; rintro a w' ⟨rfl, F⟩
 refine wE (ev_move rfl) F S rfl fun a F=>?_
 obtain ⟨x3, hx3, hm⟩ := bind_some hm
 refine wl_cut 3 (fun a w' => w = w' ∧ Fr 109 a [(33, .bool x3), (6, .bool (decide (c_.Kind = 4))), (5, .bool (decide (c_.Kind = 3))), (4, .bool (decide (c_.Kind = 2))), (3, .bool (decide (c_.Kind = 1))), (1, bp b1 0)]) ?_ ?_
 ·clear hm; obtain ⟨hc3, hm⟩ | ⟨hc3, hm⟩ := ite_or hx3
  ·refine wl_ev (wg F rfl rfl rfl rfl hc3) (ev_move rfl) F S rfl rfl ?_; clear F a; intro a F
   refine wl_ev (wg F rfl rfl rfl rfl hc3) (ev_not rfl) F S rfl rfl ?_; clear F a; intro a F
   refine wE (ev_pickT rfl hc3 rfl) F S rfl fun a F=>?_
   obtain rfl := sinj hm
   refine wpList_nil (then_n ?_); exact ⟨rfl, F.sub ⟨rfl, rfl, rfl, rfl, rfl, rfl, trivial⟩⟩
  ·refine wl_skip rfl rfl rfl rfl (ne_tf hc3) F rfl rfl ?_; clear F a; intro a F
   refine wl_skip rfl rfl rfl rfl (ne_tf hc3) F rfl rfl ?_; clear F a; intro a F
   refine wE (ev_pickF rfl hc3 rfl) F S rfl fun a F=>?_
   obtain rfl := sinj hm
   refine wpList_nil (then_n ?_); exact ⟨rfl, F.sub ⟨rfl, rfl, rfl, rfl, rfl, rfl, trivial⟩⟩
 clear F; rintro a w' ⟨rfl, F⟩
 refine wpList_nil ?_
 refine then_n ?_
 obtain ⟨hc4, hm⟩ | ⟨hc4, hm⟩ := ite_or hm
 ·refine wp_condT F rfl hc4 ?_
  refine wp_seq ?_
  refine wp_region_lit ?_
  refine wE (ev_assign rfl) F S rfl fun a F=>?_
  refine wpList_nil ?_
  refine then_n ?_
  refine wp_ret ?_
  refine then_r ?_
  obtain rfl := sinj hm
  refine post_r _ F rfl (ar_cons (resT rfl) ar_nil) ?_
  replace S : St g [] fr w := St.tail [] _ S
  exact ⟨_, rfl, g, (Le.refl _), S, rfl⟩
 ·refine wp_condF F rfl hc4 ?_
  refine wp_skip ?_
  refine then_n ?_
  refine wp_seq ?_
  refine wp_seq ?_
  refine wp_region_lit ?_
  refine wE (ev_fieldAddr' tu27 tf27_1 (z := 0) ts9 rfl ⟨_, rfl⟩ rfl) F S rfl fun a F=>?_
  refine wE (ev_load1 tu9 rfl rfl (box_ptr (cells := [.string c_.Path]) 0 rfl 1 rfl (lb rfl))) F S rfl fun a F=>?_
  obtain ⟨y1, hy1, hm⟩ := bind_some hm
  refine wl_call0 (wn rfl) rfl F rfl (changeforgeref2_PathValid_ok (fr := (fl [[bx b1 #[.i6 c_.Kind, .string c_.Path, .string c_.To, vc_1, vc_2] 27]] fr)) c_.Path S hy1) rfl tc21 rfl rfl ?_; clear F a S
  rintro _ a w ⟨g1, l1, S, rfl⟩ F; replace S : St g1 [[bx b1 #[.i6 c_.Kind, .string c_.Path, .string c_.To, vc_1, vc_2] 27]] fr w := S
  refine wE (ev_not rfl) F S rfl fun a F=>?_
  refine wE (ev_move rfl) F S rfl fun a F=>?_
  obtain ⟨x4, hx4, hm⟩ := bind_some hm
  refine wl_cut 8 (fun a w => ∃ g2, Fr 109 a [(46, .bool x4), (6, .bool (decide (c_.Kind = 4))), (5, .bool (decide (c_.Kind = 3))), (4, .bool (decide (c_.Kind = 2))), (3, .bool (decide (c_.Kind = 1))), (1, bp b1 0)] ∧ Le g1 g2 ∧ St g2 [[bx b1 #[.i6 c_.Kind, .string c_.Path, .string c_.To, vc_1, vc_2] 27]] fr w) ?_ ?_
  ·clear hm; obtain ⟨hc5, hm⟩ | ⟨hc5, hm⟩ := ite_or hx4
   ·refine wl_skip rfl rfl rfl rfl (ne_ft hc5) F rfl rfl ?_; clear F a; intro a F
    refine wl_skip rfl rfl rfl rfl (ne_ft hc5) F rfl rfl ?_; clear F a; intro a F
    refine wl_skipu rfl rfl rfl rfl F rfl rfl ?_; clear F a; intro a F
    refine wl_skipu rfl rfl rfl rfl F rfl rfl ?_; clear F a; intro a F
    refine wl_skipu rfl rfl rfl rfl F rfl rfl ?_; clear F a; intro a F
    refine wl_skipu rfl rfl rfl rfl F rfl rfl ?_; clear F a; intro a F
    refine wl_skip rfl rfl rfl rfl (ne_ft hc5) F rfl rfl ?_; clear F a; intro a F
    refine wE (ev_pickT rfl hc5 rfl) F S rfl fun a F=>?_
    obtain rfl := sinj hm
    refine wpList_nil (then_n ?_); exact ⟨g1, F.sub ⟨rfl, rfl, rfl, rfl, rfl, rfl, trivial⟩, (Le.refl _), S⟩
   ·refine wl_ev (wg F rfl rfl rfl rfl hc5) (ev_move rfl) F S rfl rfl ?_; clear F a; intro a F
    refine wl_ev (wg F rfl rfl rfl rfl hc5) (ev_move rfl) F S rfl rfl ?_; clear F a; intro a F
    obtain ⟨x5, hx5, hm⟩ := bind_some hm
    refine wl_cut 5 (fun a w => ∃ g3, Fr 109 a [(45, .bool x5), (38, .bool !y1), (6, .bool (decide (c_.Kind = 4))), (5, .bool (decide (c_.Kind = 3))), (4, .bool (decide (c_.Kind = 2))), (3, .bool (decide (c_.Kind = 1))), (1, bp b1 0)] ∧ Le g1 g3 ∧ St g3 [[bx b1 #[.i6 c_.Kind, .string c_.Path, .string c_.To, vc_1, vc_2] 27]] fr w) ?_ ?_
    ·clear hm; obtain ⟨hc6, hm⟩ | ⟨hc6, hm⟩ := ite_or hx5
     ·refine wl_ev (wg F rfl rfl rfl rfl hc6) (ev_fieldAddr' tu27 tf27_2 (z := 0) ts9 rfl ⟨_, rfl⟩ rfl) F S rfl rfl ?_; clear F a; intro a F
      refine wl_ev (wg F rfl rfl rfl rfl hc6) (ev_load1 tu9 rfl rfl (box_ptr (cells := [.string c_.To]) 0 rfl 2 rfl (lb rfl))) F S rfl rfl ?_; clear F a; intro a F
      obtain ⟨y2, hy2, hm⟩ := bind_some hm
      refine wl_call0 (wg F rfl rfl rfl rfl hc6) rfl F rfl (changeforgeref2_PathValid_ok (fr := (fl [[bx b1 #[.i6 c_.Kind, .string c_.Path, .string c_.To, vc_1, vc_2] 27]] fr)) c_.To S hy2) rfl tc21 rfl rfl ?_; clear F a S
      rintro _ a w ⟨g4, l4, S, rfl⟩ F; replace S : St g4 [[bx b1 #[.i6 c_.Kind, .string c_.Path, .string c_.To, vc_1, vc_2] 27]] fr w := S
      refine wl_ev (wg F rfl rfl rfl rfl hc6) (ev_not rfl) F S rfl rfl ?_; clear F a; intro a F
      refine wl_ev (wg F rfl rfl rfl rfl hc5) (ev_pickT rfl hc6 rfl) F S rfl rfl ?_; clear F a; intro a F
      obtain rfl := sinj hm
      refine wpList_nil (then_n ?_); exact ⟨g4, F.sub ⟨rfl, rfl, rfl, rfl, rfl, rfl, rfl, trivial⟩, l4, S⟩
     ·refine wl_skip rfl rfl rfl rfl (ne_tf hc6) F rfl rfl ?_; clear F a; intro a F
      refine wl_skip rfl rfl rfl rfl (ne_tf hc6) F rfl rfl ?_; clear F a; intro a F
      refine wl_skip rfl rfl rfl rfl (ne_tf hc6) F rfl rfl ?_; clear F a; intro a F
      refine wl_skip rfl rfl rfl rfl (ne_tf hc6) F rfl rfl ?_; clear F a; intro a F
      refine wl_ev (wg F rfl rfl rfl rfl hc5) (ev_pickF rfl hc6 rfl) F S rfl rfl ?_; clear F a; intro a F
      obtain rfl := sinj hm
      refine wpList_nil (then_n ?_); exact ⟨g1, F.sub ⟨rfl, rfl, rfl, rfl, rfl, rfl, rfl, trivial⟩, (Le.refl _), S⟩
    clear F S; rintro a w ⟨g3, F, l3, S⟩
    refine wE (ev_pickF rfl hc5 rfl) F S rfl fun a F=>?_
    obtain rfl := sinj hm
    refine wpList_nil (then_n ?_); exact ⟨g3, F.sub ⟨rfl, rfl, rfl, rfl, rfl, rfl, trivial⟩, l3, S⟩
  clear F S; rintro a w ⟨g2, F, l2, S⟩
  refine wpList_nil ?_
  refine then_n ?_
  obtain ⟨hc7, hm⟩ | ⟨hc7, hm⟩ := ite_or hm
  ·refine wp_condT F rfl hc7 ?_
   refine wp_seq ?_
   refine wp_region_lit ?_
   refine wE (ev_assign rfl) F S rfl fun a F=>?_
   refine wpList_nil ?_
   refine then_n ?_
   refine wp_ret ?_
   refine then_r ?_
   obtain rfl := sinj hm
   refine post_r _ F rfl (ar_cons (resT rfl) ar_nil) ?_
   replace S : St g2 [] fr w := St.tail [] _ S
   exact ⟨_, rfl, g2, (l1.trans l2), S, rfl⟩
  ·refine wp_condF F rfl hc7 ?_
   refine wp_skip ?_
   refine then_n ?_
   refine wp_seq ?_
   refine wp_seq ?_
   refine wp_region_lit ?_
   refine wE (ev_move rfl) F S rfl fun a F=>?_
   refine wE (ev_not rfl) F S rfl fun a F=>?_
   refine wE (ev_move rfl) F S rfl fun a F=>?_
   obtain ⟨x6, hx6, hm⟩ := bind_some hm
   refine wl_cut 4 (fun a w' => w = w' ∧ Fr 109 a [(53, .bool x6), (6, .bool (decide (c_.Kind = 4))), (5, .bool (decide (c_.Kind = 3))), (4, .bool (decide (c_.Kind = 2))), (3, .bool (decide (c_.Kind = 1))), (1, bp b1 0)]) ?_ ?_
   ·clear hm; obtain ⟨hc8, hm⟩ | ⟨hc8, hm⟩ := ite_or hx6
    ·refine wl_ev (wg F rfl rfl rfl rfl hc8) (ev_fieldAddr' tu27 tf27_2 (z := 0) ts9 rfl ⟨_, rfl⟩ rfl) F S rfl rfl ?_; clear F a; intro a F
     refine wl_ev (wg F rfl rfl rfl rfl hc8) (ev_load1 tu9 rfl rfl (box_ptr (cells := [.string c_.To]) 0 rfl 2 rfl (lb rfl))) F S rfl rfl ?_; clear F a; intro a F
     refine wl_ev (wg F rfl rfl rfl rfl hc8) (ev_str rfl rfl (bs_neq _ _ _)) F S rfl rfl ?_; clear F a; intro a F
     refine wE (ev_pickT rfl hc8 rfl) F S rfl fun a F=>?_
     obtain rfl := sinj hm
     refine wpList_nil (then_n ?_); exact ⟨rfl, F.sub ⟨rfl, rfl, rfl, rfl, rfl, rfl, trivial⟩⟩
    ·refine wl_skip rfl rfl rfl rfl (ne_tf hc8) F rfl rfl ?_; clear F a; intro a F
     refine wl_skip rfl rfl rfl rfl (ne_tf hc8) F rfl rfl ?_; clear F a; intro a F
     refine wl_skip rfl rfl rfl rfl (ne_tf hc8) F rfl rfl ?_; clear F a; intro a F
     refine wE (ev_pickF rfl hc8 rfl) F S rfl fun a F=>?_
     obtain rfl := sinj hm
     refine wpList_nil (then_n ?_); exact ⟨rfl, F.sub ⟨rfl, rfl, rfl, rfl, rfl, rfl, trivial⟩⟩
   clear F; rintro a w' ⟨rfl, F⟩
   refine wE (ev_move rfl) F S rfl fun a F=>?_
   obtain ⟨x7, hx7, hm⟩ := bind_some hm
   refine wl_cut 9 (fun a w => ∃ g5, Fr 109 a [(63, .bool x7), (6, .bool (decide (c_.Kind = 4))), (4, .bool (decide (c_.Kind = 2))), (3, .bool (decide (c_.Kind = 1))), (1, bp b1 0)] ∧ Le g2 g5 ∧ St g5 [[bx b1 #[.i6 c_.Kind, .string c_.Path, .string c_.To, vc_1, vc_2] 27]] fr w) ?_ ?_
   ·clear hm; obtain ⟨hc9, hm⟩ | ⟨hc9, hm⟩ := ite_or hx7
    ·refine wl_skip rfl rfl rfl rfl (ne_ft hc9) F rfl rfl ?_; clear F a; intro a F
     refine wl_skip rfl rfl rfl rfl (ne_ft hc9) F rfl rfl ?_; clear F a; intro a F
     refine wl_skipu rfl rfl rfl rfl F rfl rfl ?_; clear F a; intro a F
     refine wl_skipu rfl rfl rfl rfl F rfl rfl ?_; clear F a; intro a F
     refine wl_skipu rfl rfl rfl rfl F rfl rfl ?_; clear F a; intro a F
     refine wl_skipu rfl rfl rfl rfl F rfl rfl ?_; clear F a; intro a F
     refine wl_skipu rfl rfl rfl rfl F rfl rfl ?_; clear F a; intro a F
     refine wl_skip rfl rfl rfl rfl (ne_ft hc9) F rfl rfl ?_; clear F a; intro a F
     refine wE (ev_pickT rfl hc9 rfl) F S rfl fun a F=>?_
     obtain rfl := sinj hm
     refine wpList_nil (then_n ?_); exact ⟨g2, F.sub ⟨rfl, rfl, rfl, rfl, rfl, trivial⟩, (Le.refl _), S⟩
    ·refine wl_ev (wg F rfl rfl rfl rfl hc9) (ev_move rfl) F S rfl rfl ?_; clear F a; intro a F
     refine wl_ev (wg F rfl rfl rfl rfl hc9) (ev_move rfl) F S rfl rfl ?_; clear F a; intro a F
     obtain ⟨x8, hx8, hm⟩ := bind_some hm
     refine wl_cut 6 (fun a w => ∃ g6, Fr 109 a [(62, .bool x8), (54, .bool x6), (6, .bool (decide (c_.Kind = 4))), (4, .bool (decide (c_.Kind = 2))), (3, .bool (decide (c_.Kind = 1))), (1, bp b1 0)] ∧ Le g2 g6 ∧ St g6 [[bx b1 #[.i6 c_.Kind, .string c_.Path, .string c_.To, vc_1, vc_2] 27]] fr w) ?_ ?_
     ·clear hm; obtain ⟨hc10, hm⟩ | ⟨hc10, hm⟩ := ite_or hx8
      ·refine wl_ev (wg F rfl rfl rfl rfl hc10) (ev_fieldAddr' tu27 tf27_1 (z := 0) ts9 rfl ⟨_, rfl⟩ rfl) F S rfl rfl ?_; clear F a; intro a F
       refine wl_ev (wg F rfl rfl rfl rfl hc10) (ev_load1 tu9 rfl rfl (box_ptr (cells := [.string c_.Path]) 0 rfl 1 rfl (lb rfl))) F S rfl rfl ?_; clear F a; intro a F
       refine wl_ev (wg F rfl rfl rfl rfl hc10) (ev_fieldAddr' tu27 tf27_2 (z := 0) ts9 rfl ⟨_, rfl⟩ rfl) F S rfl rfl ?_; clear F a; intro a F
       refine wl_ev (wg F rfl rfl rfl rfl hc10) (ev_load1 tu9 rfl rfl (box_ptr (cells := [.string c_.To]) 0 rfl 2 rfl (lb rfl))) F S rfl rfl ?_; clear F a; intro a F
       obtain ⟨y3, hy3, hm⟩ := bind_some hm
       refine wl_call0 (wg F rfl rfl rfl rfl hc10) rfl F rfl (changeforgeref2_Related_ok (fr := (fl [[bx b1 #[.i6 c_.Kind, .string c_.Path, .string c_.To, vc_1, vc_2] 27]] fr)) c_.Path c_.To S hy3) rfl tc55 rfl rfl ?_; clear F a S
       rintro _ a w ⟨g7, l7, S, rfl⟩ F; replace S : St g7 [[bx b1 #[.i6 c_.Kind, .string c_.Path, .string c_.To, vc_1, vc_2] 27]] fr w := S
       refine wl_ev (wg F rfl rfl rfl rfl hc9) (ev_pickT rfl hc10 rfl) F S rfl rfl ?_; clear F a; intro a F
       obtain rfl := sinj hm
       refine wpList_nil (then_n ?_); exact ⟨g7, F.sub ⟨rfl, rfl, rfl, rfl, rfl, rfl, trivial⟩, l7, S⟩
      ·refine wl_skip rfl rfl rfl rfl (ne_tf hc10) F rfl rfl ?_; clear F a; intro a F
       refine wl_skip rfl rfl rfl rfl (ne_tf hc10) F rfl rfl ?_; clear F a; intro a F
       refine wl_skip rfl rfl rfl rfl (ne_tf hc10) F rfl rfl ?_; clear F a; intro a F
       refine wl_skip rfl rfl rfl rfl (ne_tf hc10) F rfl rfl ?_; clear F a; intro a F
       refine wl_skip rfl rfl rfl rfl (ne_tf hc10) F rfl rfl ?_; clear F a; intro a F
       refine wl_ev (wg F rfl rfl rfl rfl hc9) (ev_pickF rfl hc10 rfl) F S rfl rfl ?_; clear F a; intro a F
       obtain rfl := sinj hm
       refine wpList_nil (then_n ?_); exact ⟨g2, F.sub ⟨rfl, rfl, rfl, rfl, rfl, rfl, trivial⟩, (Le.refl _), S⟩
     clear F S; rintro a w ⟨g6, F, l6, S⟩
     refine wE (ev_pickF rfl hc9 rfl) F S rfl fun a F=>?_
     obtain rfl := sinj hm
     refine wpList_nil (then_n ?_); exact ⟨g6, F.sub ⟨rfl, rfl, rfl, rfl, rfl, trivial⟩, l6, S⟩
   clear F S; rintro a w ⟨g5, F, l5, S⟩
   refine wE (ev_move rfl) F S rfl fun a F=>?_
   obtain ⟨x9, hx9, hm⟩ := bind_some hm
   refine wl_cut 13 (fun a w' => w = w' ∧ Fr 109 a [(77, .bool x9), (6, .bool (decide (c_.Kind = 4))), (1, bp b1 0)]) ?_ ?_
   ·clear hm; obtain ⟨hc11, hm⟩ | ⟨hc11, hm⟩ := ite_or hx9
    ·refine wl_skip rfl rfl rfl rfl (ne_ft hc11) F rfl rfl ?_; clear F a; intro a F
     refine wl_skip rfl rfl rfl rfl (ne_ft hc11) F rfl rfl ?_; clear F a; intro a F
     refine wl_skip rfl rfl rfl rfl (ne_ft hc11) F rfl rfl ?_; clear F a; intro a F
     refine wl_skipu rfl rfl rfl rfl F rfl rfl ?_; clear F a; intro a F
     refine wl_skipu rfl rfl rfl rfl F rfl rfl ?_; clear F a; intro a F
     refine wl_skip rfl rfl rfl rfl (ne_ft hc11) F rfl rfl ?_; clear F a; intro a F
     refine wl_skip rfl rfl rfl rfl (ne_ft hc11) F rfl rfl ?_; clear F a; intro a F
     refine wl_skipu rfl rfl rfl rfl F rfl rfl ?_; clear F a; intro a F
     refine wl_skipu rfl rfl rfl rfl F rfl rfl ?_; clear F a; intro a F
     refine wl_skipu rfl rfl rfl rfl F rfl rfl ?_; clear F a; intro a F
     refine wl_skipu rfl rfl rfl rfl F rfl rfl ?_; clear F a; intro a F
     refine wl_skip rfl rfl rfl rfl (ne_ft hc11) F rfl rfl ?_; clear F a; intro a F
     refine wE (ev_pickT rfl hc11 rfl) F S rfl fun a F=>?_
     obtain rfl := sinj hm
     refine wpList_nil (then_n ?_); exact ⟨rfl, F.sub ⟨rfl, rfl, rfl, trivial⟩⟩
    ·refine wl_ev (wg F rfl rfl rfl rfl hc11) (ev_move rfl) F S rfl rfl ?_; clear F a; intro a F
     refine wl_ev (wg F rfl rfl rfl rfl hc11) (ev_not rfl) F S rfl rfl ?_; clear F a; intro a F
     refine wl_ev (wg F rfl rfl rfl rfl hc11) (ev_move rfl) F S rfl rfl ?_; clear F a; intro a F
     obtain ⟨x10, hx10, hm⟩ := bind_some hm
     refine wl_cut 3 (fun a w' => w = w' ∧ Fr 109 a [(70, .bool x10), (64, .bool x7), (6, .bool (decide (c_.Kind = 4))), (1, bp b1 0)]) ?_ ?_
     ·clear hm; obtain ⟨hc12, hm⟩ | ⟨hc12, hm⟩ := ite_or hx10
      ·refine wl_ev (wg F rfl rfl rfl rfl hc12) (ev_move rfl) F S rfl rfl ?_; clear F a; intro a F
       refine wl_ev (wg F rfl rfl rfl rfl hc12) (ev_not rfl) F S rfl rfl ?_; clear F a; intro a F
       refine wl_ev (wg F rfl rfl rfl rfl hc11) (ev_pickT rfl hc12 rfl) F S rfl rfl ?_; clear F a; intro a F
       obtain rfl := sinj hm
       refine wpList_nil (then_n ?_); exact ⟨rfl, F.sub ⟨rfl, rfl, rfl, rfl, trivial⟩⟩
      ·refine wl_skip rfl rfl rfl rfl (ne_tf hc12) F rfl rfl ?_; clear F a; intro a F
       refine wl_skip rfl rfl rfl rfl (ne_tf hc12) F rfl rfl ?_; clear F a; intro a F
       refine wl_ev (wg F rfl rfl rfl rfl hc11) (ev_pickF rfl hc12 rfl) F S rfl rfl ?_; clear F a; intro a F
       obtain rfl := sinj hm
       refine wpList_nil (then_n ?_); exact ⟨rfl, F.sub ⟨rfl, rfl, rfl, rfl, trivial⟩⟩
     clear F; rintro a w' ⟨rfl, F⟩
     refine wl_ev (wg F rfl rfl rfl rfl hc11) (ev_move rfl) F S rfl rfl ?_; clear F a; intro a F
     obtain ⟨x11, hx11, hm⟩ := bind_some hm
     refine wl_cut 5 (fun a w' => w = w' ∧ Fr 109 a [(76, .bool x11), (64, .bool x7), (6, .bool (decide (c_.Kind = 4))), (1, bp b1 0)]) ?_ ?_
     ·clear hm; obtain ⟨hc13, hm⟩ | ⟨hc13, hm⟩ := ite_or hx11
      ·refine wl_ev (wg F rfl rfl rfl rfl hc13) (ev_fieldAddr' tu27 tf27_3 (z := 0) ts22 rfl ⟨_, rfl⟩ rfl) F S rfl rfl ?_; clear F a; intro a F
       refine wl_ev (wg F rfl rfl rfl rfl hc13) (ev_load1 tu22 rfl rfl (box_ptr (cells := [vc_1]) 0 rfl 3 rfl (lb rfl))) F S rfl rfl ?_; clear F a; intro a F
       refine wl_ev (wg F rfl rfl rfl rfl hc13) (ev_lenSh hc_1 rfl tu22) F S rfl rfl ?_; clear F a; intro a F
       refine wl_ev (wg F rfl rfl rfl rfl hc13) (ev_int rfl rfl (bo_gtr _ _ _ _)) F S rfl rfl ?_; clear F a; intro a F
       refine wl_ev (wg F rfl rfl rfl rfl hc11) (ev_pickT rfl hc13 rfl) F S rfl rfl ?_; clear F a; intro a F
       obtain rfl := sinj hm
       refine wpList_nil (then_n ?_); exact ⟨rfl, F.sub ⟨rfl, rfl, rfl, rfl, trivial⟩⟩
      ·refine wl_skip rfl rfl rfl rfl (ne_tf hc13) F rfl rfl ?_; clear F a; intro a F
       refine wl_skip rfl rfl rfl rfl (ne_tf hc13) F rfl rfl ?_; clear F a; intro a F
       refine wl_skip rfl rfl rfl rfl (ne_tf hc13) F rfl rfl ?_; clear F a; intro a F
       refine wl_skip rfl rfl rfl rfl (ne_tf hc13) F rfl rfl ?_; clear F a; intro a F
       refine wl_ev (wg F rfl rfl rfl rfl hc11) (ev_pickF rfl hc13 rfl) F S rfl rfl ?_; clear F a; intro a F
       obtain rfl := sinj hm
       refine wpList_nil (then_n ?_); exact ⟨rfl, F.sub ⟨rfl, rfl, rfl, rfl, trivial⟩⟩
     clear F; rintro a w' ⟨rfl, F⟩
     refine wE (ev_pickF rfl hc11 rfl) F S rfl fun a F=>?_
     obtain rfl := sinj hm
     refine wpList_nil (then_n ?_); exact ⟨rfl, F.sub ⟨rfl, rfl, rfl, trivial⟩⟩
   clear F; rintro a w' ⟨rfl, F⟩
   refine wE (ev_move rfl) F S rfl fun a F=>?_
   obtain ⟨x12, hx12, hm⟩ := bind_some hm
   refine wl_cut 9 (fun a w' => w = w' ∧ Fr 109 a [(87, .bool x12), (6, .bool (decide (c_.Kind = 4))), (1, bp b1 0)]) ?_ ?_
   ·clear hm; obtain ⟨hc14, hm⟩ | ⟨hc14, hm⟩ := ite_or hx12
    ·refine wl_skip rfl rfl rfl rfl (ne_ft hc14) F rfl rfl ?_; clear F a; intro a F
     refine wl_skip rfl rfl rfl rfl (ne_ft hc14) F rfl rfl ?_; clear F a; intro a F
     refine wl_skipu rfl rfl rfl rfl F rfl rfl ?_; clear F a; intro a F
     refine wl_skipu rfl rfl rfl rfl F rfl rfl ?_; clear F a; intro a F
     refine wl_skipu rfl rfl rfl rfl F rfl rfl ?_; clear F a; intro a F
     refine wl_skipu rfl rfl rfl rfl F rfl rfl ?_; clear F a; intro a F
     refine wl_skipu rfl rfl rfl rfl F rfl rfl ?_; clear F a; intro a F
     refine wl_skip rfl rfl rfl rfl (ne_ft hc14) F rfl rfl ?_; clear F a; intro a F
     refine wE (ev_pickT rfl hc14 rfl) F S rfl fun a F=>?_
     obtain rfl := sinj hm
     refine wpList_nil (then_n ?_); exact ⟨rfl, F.sub ⟨rfl, rfl, rfl, trivial⟩⟩
    ·refine wl_ev (wg F rfl rfl rfl rfl hc14) (ev_move rfl) F S rfl rfl ?_; clear F a; intro a F
     refine wl_ev (wg F rfl rfl rfl rfl hc14) (ev_move rfl) F S rfl rfl ?_; clear F a; intro a F
     obtain ⟨x13, hx13, hm⟩ := bind_some hm
     refine wl_cut 6 (fun a w' => w = w' ∧ Fr 109 a [(86, .bool x13), (78, .bool x9), (6, .bool (decide (c_.Kind = 4))), (1, bp b1 0)]) ?_ ?_
     ·clear hm; obtain ⟨hc15, hm⟩ | ⟨hc15, hm⟩ := ite_or hx13
      ·refine wl_ev (wg F rfl rfl rfl rfl hc15) (ev_fieldAddr' tu27 tf27_4 (z := 0) ts25 rfl ⟨_, rfl⟩ rfl) F S rfl rfl ?_; clear F a; intro a F
       refine wl_ev (wg F rfl rfl rfl rfl hc15) (ev_fieldAddr' tu25 tf25_0 (z := 0) ts23 rfl ⟨_, rfl⟩ rfl) F S rfl rfl ?_; clear F a; intro a F
       refine wl_ev (wg F rfl rfl rfl rfl hc15) (ev_load1 tu23 rfl rfl (box_ptr (cells := [vc_2]) 0 rfl 4 rfl (lb rfl))) F S rfl rfl ?_; clear F a; intro a F
       refine wl_ev (wg F rfl rfl rfl rfl hc15) (ev_lenSh hc_2 rfl tu23) F S rfl rfl ?_; clear F a; intro a F
       refine wl_ev (wg F rfl rfl rfl rfl hc15) (ev_int rfl rfl (bo_eql _ _ _ _)) F S rfl rfl ?_; clear F a; intro a F
       refine wl_ev (wg F rfl rfl rfl rfl hc14) (ev_pickT rfl hc15 rfl) F S rfl rfl ?_; clear F a; intro a F
       obtain rfl := sinj hm
       refine wpList_nil (then_n ?_); exact ⟨rfl, F.sub ⟨rfl, rfl, rfl, rfl, trivial⟩⟩
      ·refine wl_skip rfl rfl rfl rfl (ne_tf hc15) F rfl rfl ?_; clear F a; intro a F
       refine wl_skip rfl rfl rfl rfl (ne_tf hc15) F rfl rfl ?_; clear F a; intro a F
       refine wl_skip rfl rfl rfl rfl (ne_tf hc15) F rfl rfl ?_; clear F a; intro a F
       refine wl_skip rfl rfl rfl rfl (ne_tf hc15) F rfl rfl ?_; clear F a; intro a F
       refine wl_skip rfl rfl rfl rfl (ne_tf hc15) F rfl rfl ?_; clear F a; intro a F
       refine wl_ev (wg F rfl rfl rfl rfl hc14) (ev_pickF rfl hc15 rfl) F S rfl rfl ?_; clear F a; intro a F
       obtain rfl := sinj hm
       refine wpList_nil (then_n ?_); exact ⟨rfl, F.sub ⟨rfl, rfl, rfl, rfl, trivial⟩⟩
     clear F; rintro a w' ⟨rfl, F⟩
     refine wE (ev_pickF rfl hc14 rfl) F S rfl fun a F=>?_
     obtain rfl := sinj hm
     refine wpList_nil (then_n ?_); exact ⟨rfl, F.sub ⟨rfl, rfl, rfl, trivial⟩⟩
   clear F; rintro a w' ⟨rfl, F⟩
   refine wE (ev_move rfl) F S rfl fun a F=>?_
   obtain ⟨x14, hx14, hm⟩ := bind_some hm
   refine wl_cut 10 (fun a w' => w = w' ∧ Fr 109 a [(98, .bool x14), (1, bp b1 0)]) ?_ ?_
   ·clear hm; obtain ⟨hc16, hm⟩ | ⟨hc16, hm⟩ := ite_or hx14
    ·refine wl_skip rfl rfl rfl rfl (ne_ft hc16) F rfl rfl ?_; clear F a; intro a F
     refine wl_skip rfl rfl rfl rfl (ne_ft hc16) F rfl rfl ?_; clear F a; intro a F
     refine wl_skip rfl rfl rfl rfl (ne_ft hc16) F rfl rfl ?_; clear F a; intro a F
     refine wl_skipu rfl rfl rfl rfl F rfl rfl ?_; clear F a; intro a F
     refine wl_skipu rfl rfl rfl rfl F rfl rfl ?_; clear F a; intro a F
     refine wl_skipu rfl rfl rfl rfl F rfl rfl ?_; clear F a; intro a F
     refine wl_skipu rfl rfl rfl rfl F rfl rfl ?_; clear F a; intro a F
     refine wl_skipu rfl rfl rfl rfl F rfl rfl ?_; clear F a; intro a F
     refine wl_skip rfl rfl rfl rfl (ne_ft hc16) F rfl rfl ?_; clear F a; intro a F
     refine wE (ev_pickT rfl hc16 rfl) F S rfl fun a F=>?_
     obtain rfl := sinj hm
     refine wpList_nil (then_n ?_); exact ⟨rfl, F.sub ⟨rfl, rfl, trivial⟩⟩
    ·refine wl_ev (wg F rfl rfl rfl rfl hc16) (ev_move rfl) F S rfl rfl ?_; clear F a; intro a F
     refine wl_ev (wg F rfl rfl rfl rfl hc16) (ev_not rfl) F S rfl rfl ?_; clear F a; intro a F
     refine wl_ev (wg F rfl rfl rfl rfl hc16) (ev_move rfl) F S rfl rfl ?_; clear F a; intro a F
     obtain ⟨x15, hx15, hm⟩ := bind_some hm
     refine wl_cut 6 (fun a w' => w = w' ∧ Fr 109 a [(97, .bool x15), (88, .bool x12), (1, bp b1 0)]) ?_ ?_
     ·clear hm; obtain ⟨hc17, hm⟩ | ⟨hc17, hm⟩ := ite_or hx15
      ·refine wl_ev (wg F rfl rfl rfl rfl hc17) (ev_fieldAddr' tu27 tf27_4 (z := 0) ts25 rfl ⟨_, rfl⟩ rfl) F S rfl rfl ?_; clear F a; intro a F
       refine wl_ev (wg F rfl rfl rfl rfl hc17) (ev_fieldAddr' tu25 tf25_0 (z := 0) ts23 rfl ⟨_, rfl⟩ rfl) F S rfl rfl ?_; clear F a; intro a F
       refine wl_ev (wg F rfl rfl rfl rfl hc17) (ev_load1 tu23 rfl rfl (box_ptr (cells := [vc_2]) 0 rfl 4 rfl (lb rfl))) F S rfl rfl ?_; clear F a; intro a F
       refine wl_ev (wg F rfl rfl rfl rfl hc17) (ev_lenSh hc_2 rfl tu23) F S rfl rfl ?_; clear F a; intro a F
       refine wl_ev (wg F rfl rfl rfl rfl hc17) (ev_int rfl rfl (bo_gtr _ _ _ _)) F S rfl rfl ?_; clear F a; intro a F
       refine wl_ev (wg F rfl rfl rfl rfl hc16) (ev_pickT rfl hc17 rfl) F S rfl rfl ?_; clear F a; intro a F
       obtain rfl := sinj hm
       refine wpList_nil (then_n ?_); exact ⟨rfl, F.sub ⟨rfl, rfl, rfl, trivial⟩⟩
      ·refine wl_skip rfl rfl rfl rfl (ne_tf hc17) F rfl rfl ?_; clear F a; intro a F
       refine wl_skip rfl rfl rfl rfl (ne_tf hc17) F rfl rfl ?_; clear F a; intro a F
       refine wl_skip rfl rfl rfl rfl (ne_tf hc17) F rfl rfl ?_; clear F a; intro a F
       refine wl_skip rfl rfl rfl rfl (ne_tf hc17) F rfl rfl ?_; clear F a; intro a F
       refine wl_skip rfl rfl rfl rfl (ne_tf hc17) F rfl rfl ?_; clear F a; intro a F
       refine wl_ev (wg F rfl rfl rfl rfl hc16) (ev_pickF rfl hc17 rfl) F S rfl rfl ?_; clear F a; intro a F
       obtain rfl := sinj hm
       refine wpList_nil (then_n ?_); exact ⟨rfl, F.sub ⟨rfl, rfl, rfl, trivial⟩⟩
     clear F; rintro a w' ⟨rfl, F⟩
     refine wE (ev_pickF rfl hc16 rfl) F S rfl fun a F=>?_
     obtain rfl := sinj hm
     refine wpList_nil (then_n ?_); exact ⟨rfl, F.sub ⟨rfl, rfl, trivial⟩⟩
   clear F; rintro a w' ⟨rfl, F⟩
   refine wpList_nil ?_
   refine then_n ?_
   obtain ⟨hc18, hm⟩ | ⟨hc18, hm⟩ := ite_or hm
   ·refine wp_condT F rfl hc18 ?_
    refine wp_seq ?_
    refine wp_region_lit ?_
    refine wE (ev_assign rfl) F S rfl fun a F=>?_
    refine wpList_nil ?_
    refine then_n ?_
    refine wp_ret ?_
    refine then_r ?_
    obtain rfl := sinj hm
    refine post_r _ F rfl (ar_cons (resT rfl) ar_nil) ?_
    replace S : St g5 [] fr w := St.tail [] _ S
    exact ⟨_, rfl, g5, ((l1.trans l2).trans l5), S, rfl⟩
   ·refine wp_condF F rfl hc18 ?_
    refine wp_skip ?_
    refine then_n ?_
    refine wp_seq ?_
    refine wp_seq ?_
    refine wp_region_lit ?_
    refine wE (ev_fieldAddr' tu27 tf27_3 (z := 0) ts22 rfl ⟨_, rfl⟩ rfl) F S rfl fun a F=>?_
    refine wE (ev_load1 tu22 rfl rfl (box_ptr (cells := [vc_1]) 0 rfl 3 rfl (lb rfl))) F S rfl fun a F=>?_
    obtain ⟨y4, hy4, hm⟩ := bind_some hm
    refine wl_call0 (wn rfl) rfl F rfl (changeforgeref1_LinesCode_ok (fr := (fl [[bx b1 #[.i6 c_.Kind, .string c_.Path, .string c_.To, vc_1, vc_2] 27]] fr)) c_.Lines vc_1 (hc_1.mono ((l1.trans l2).trans l5)) S hy4) rfl tc56 rfl rfl ?_; clear F a S
    rintro _ a w ⟨g8, l8, S, rfl⟩ F; replace S : St g8 [[bx b1 #[.i6 c_.Kind, .string c_.Path, .string c_.To, vc_1, vc_2] 27]] fr w := S
    refine wE (ev_assign rfl) F S rfl fun a F=>?_
    refine wpList_nil ?_
    refine then_n ?_
    refine wp_seq ?_
    refine wp_region_lit ?_
    refine wE (ev_move rfl) F S rfl fun a F=>?_
    refine wE (ev_int rfl rfl (bo_neq _ _ _ _)) F S rfl fun a F=>?_
    refine wpList_nil ?_
    refine then_n ?_
    obtain ⟨hc19, hm⟩ | ⟨hc19, hm⟩ := ite_or hm
    ·refine wp_condT F rfl hc19 ?_
     refine wp_seq ?_
     refine wp_region_lit ?_
     refine wE (ev_move rfl) F S rfl fun a F=>?_
     refine wE (ev_assign rfl) F S rfl fun a F=>?_
     refine wpList_nil ?_
     refine then_n ?_
     refine wp_ret ?_
     refine then_r ?_
     obtain rfl := sinj hm
     refine post_r _ F rfl (ar_cons (resT rfl) ar_nil) ?_
     replace S : St g8 [] fr w := St.tail [] _ S
     exact ⟨_, rfl, g8, (((l1.trans l2).trans l5).trans l8), S, rfl⟩
    ·refine wp_condF F rfl hc19 ?_
     refine wp_skip ?_
     refine then_n ?_
     refine wp_seq ?_
     refine wp_region_lit ?_
     refine wE (ev_fieldAddr' tu27 tf27_4 (z := 0) ts25 rfl ⟨_, rfl⟩ rfl) F S rfl fun a F=>?_
     refine wE (ev_loadA tu25 rfl (cs := [vc_2]) ts25 rfl (box_ptr (cells := [vc_2]) 0 rfl 4 rfl (lb rfl))) F S rfl fun a F=>?_
     obtain ⟨y5, hy5, hm⟩ := bind_some hm
     refine wl_call0 (wn rfl) rfl F rfl (changeforgeref1_PatchFault_ok (fr := (fl [[bx b1 #[.i6 c_.Kind, .string c_.Path, .string c_.To, vc_1, vc_2] 27]] fr)) c_.Patch vc_2 (hc_2.mono (((l1.trans l2).trans l5).trans l8)) S hy5) rfl tc77 rfl rfl ?_; clear F a S
     rintro _ a w ⟨g9, l9, S, rfl⟩ F; replace S : St g9 [[bx b1 #[.i6 c_.Kind, .string c_.Path, .string c_.To, vc_1, vc_2] 27]] fr w := S
     refine wE (ev_field1 tu29 tf29_0 tu3 rfl (cs := [.i6 y5.Code, .i6 y5.Index]) rfl rfl) F S rfl fun a F=>?_
     refine wE (ev_assign rfl) F S rfl fun a F=>?_
     refine wpList_nil ?_
     refine then_n ?_
     refine wp_ret ?_
     obtain rfl := sinj hm
     refine post_r _ F rfl (ar_cons (resT rfl) ar_nil) ?_
     replace S : St g9 [] fr w := St.tail [] _ S
     exact ⟨_, rfl, g9, ((((l1.trans l2).trans l5).trans l8).trans l9), S, rfl⟩
end Go.Dc
