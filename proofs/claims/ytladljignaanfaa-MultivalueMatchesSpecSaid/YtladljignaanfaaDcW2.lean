/- Walks: each function comes to what its model says. -/
import Derived.Test.YtladljignaanfaaDcTab
import Derived.Test.YtladljignaanfaaDcM
namespace Go.Dc
open Go Go.Proofs
set_option maxRecDepth 100000
set_option maxHeartbeats 4000000
set_option linter.unusedVariables false
theorem changeforgeref2_Relation_ok {g : Gh} {fr : Hl} {w : World} {r : Bool × Bool} (a_ : (List Int)) (va_1 : Value) (ha_1 : RepSl g a_ va_1) (b_ : (List Int)) (vb_1 : Value) (hb_1 : RepSl g b_ vb_1) (S : St g [] fr w) (hm : changeforgeref2_Relation a_ b_ = some r) :
  Calls Try.prog 17 [va_1, vb_1].toArray w (fun en w' => ∃ v, en = .returned v ∧ ∃ (g' : Gh), Le g g' ∧ St g' [] fr w' ∧ .tuple #[.bool r.1, .bool r.2] = v) := by
 unfold changeforgeref2_Relation at hm
 refine calls_enter (fn := Try.f17) Try.func17 rfl Try.ntmps17 (lb rfl) ?_
 intro a F
 replace F : Fr 41 a [(0, va_1), (1, vb_1)] := F
 refine wp_seq ?_
 refine wp_region_lit ?_
 refine wE (ev_assign rfl) F S rfl fun a F=>?_
 refine wE (ev_assign rfl) F S rfl fun a F=>?_
 refine wpList_nil ?_
 refine then_n ?_
 refine wp_seq ?_
 refine wp_region_lit ?_
 refine wE (ev_assign rfl) F S rfl fun a F=>?_
 refine wpList_nil ?_
 refine then_n ?_
 refine wp_seq ?_
 refine wp_region_lit ?_
 refine wE (ev_assign rfl) F S rfl fun a F=>?_
 refine wpList_nil ?_
 refine then_n ?_
 refine wp_cut (fun a w => ∃ (x1 : Bool) (x2 : Bool) (g1 : Gh), Fr 41 a [(7, .bool x1), (6, .bool x2)] ∧ Le g g1 ∧ St g1 [] fr w ∧ changeforgeref2_Relation.j1 x1 x2 = some r) ?_ ?_
 ·refine wp_seq ?_
  refine wp_region_lit ?_
  refine wE (ev_assign rfl) F S rfl fun a F=>?_
  refine wpList_nil ?_
  refine then_n ?_
  refine wp_block ?_
  obtain ⟨r1, hr1, hm⟩ := bind_some hm
  have hmo1 := hm; clear hm
  refine wp_iter (σ := Int × Bool × Bool) (ρ := Bool × Bool) (m := fun s => changeforgeref2_Relation.l1 a_ b_ s.1 s.2.1 s.2.2) (I := fun s a w => match s with | (x3, x4, x5) => ∃ (g2 : Gh), Fr 41 a [(8, .i6 x3), (7, .bool x4), (6, .bool x5), (0, va_1), (1, vb_1)] ∧ Le g g2 ∧ St g2 [] fr w) hr1 ?_ ?_
  ·dsimp only
   exact ⟨g, F.sub ⟨rfl, rfl, rfl, rfl, rfl, trivial⟩, (Le.refl _), S⟩
  ·clear F S; rintro ⟨x3, x4, x5⟩ a w x6 ⟨g2, F, l2, S⟩ hx1 hfin1
   have hm : changeforgeref2_Relation.l1 a_ b_ x3 x4 x5 = some x6 := hx1; clear hx1
   unfold changeforgeref2_Relation.l1 at hm
   refine wp_seq ?_
   refine wp_seq ?_
   refine wp_region_lit ?_
   refine wE (ev_move rfl) F S rfl fun a F=>?_
   refine wE (ev_move rfl) F S rfl fun a F=>?_
   refine wE (ev_lenSh ha_1 rfl tu33) F S rfl fun a F=>?_
   refine wE (ev_int rfl rfl (bo_lss _ _ _ _)) F S rfl fun a F=>?_
   refine wpList_nil ?_
   refine then_n ?_
   obtain ⟨hc1, hm⟩ | ⟨hc1, hm⟩ := ite_or hm
   ·refine wp_condT F rfl hc1 ?_
    refine wp_skip ?_
    refine then_n ?_
    refine wp_seq ?_
    refine wp_block ?_
    refine wp_seq ?_
    refine wp_quiet mo (by kernel_rfl) S ?_
    refine wq_ev (wn rfl) (ev_move rfl) F rfl rfl ?_; clear F a; intro a F
    refine wq_ev (wn rfl) (ev_move rfl) F rfl rfl ?_; clear F a; intro a F
    obtain ⟨x7, hx2, hm⟩ := bind_some hm
    refine wq_cut 10 (fun a => Fr 41 a [(26, .bool x7), (8, .i6 x3), (7, .bool x4), (6, .bool x5), (0, va_1), (1, vb_1)]) ?_ ?_
    ·clear hm; obtain ⟨hc2, hm⟩ | ⟨hc2, hm⟩ := ite_or hx2
     ·refine wq_ev (wg F rfl rfl rfl rfl hc2) (ev_move rfl) F rfl rfl ?_; clear F a; intro a F
      refine wq_ev (wg F rfl rfl rfl rfl hc2) (ev_move rfl) F rfl rfl ?_; clear F a; intro a F
      obtain ⟨y1, hy1, hm⟩ := bind_some hm
      obtain ⟨cs1, hr2, hp1⟩ := elemS (ha_1.mono l2) hy1
      obtain rfl := rep_int hr2
      refine wq_ev (wg F rfl rfl rfl rfl hc2) (ev_idxS (ha_1.mono l2) hy1 tu33 ts3 rfl rfl) F rfl rfl ?_; clear F a; intro a F
      refine wq_ev (wg F rfl rfl rfl rfl hc2) (ev_load1 tu3 rfl rfl (ptr_mono (cks := []) (fr := fr) hp1 (Le.refl _))) F rfl rfl ?_; clear F a; intro a F
      refine wq_ev (wg F rfl rfl rfl rfl hc2) (ev_move rfl) F rfl rfl ?_; clear F a; intro a F
      refine wq_ev (wg F rfl rfl rfl rfl hc2) (ev_move rfl) F rfl rfl ?_; clear F a; intro a F
      obtain ⟨y2, hy2, hm⟩ := bind_some hm
      obtain ⟨cs2, hr3, hp2⟩ := elemS (hb_1.mono l2) hy2
      obtain rfl := rep_int hr3
      refine wq_ev (wg F rfl rfl rfl rfl hc2) (ev_idxS (hb_1.mono l2) hy2 tu33 ts3 rfl rfl) F rfl rfl ?_; clear F a; intro a F
      refine wq_ev (wg F rfl rfl rfl rfl hc2) (ev_load1 tu3 rfl rfl (ptr_mono (cks := []) (fr := fr) hp2 (Le.refl _))) F rfl rfl ?_; clear F a; intro a F
      refine wq_ev (wg F rfl rfl rfl rfl hc2) (ev_int rfl rfl (bo_geq _ _ _ _)) F rfl rfl ?_; clear F a; intro a F
      refine wq_ev (wn rfl) (ev_pickT rfl hc2 rfl) F rfl rfl ?_; clear F a; intro a F
      obtain rfl := sinj hm
      refine wq_nil ?_; exact F.sub ⟨rfl, rfl, rfl, rfl, rfl, rfl, trivial⟩
     ·refine wq_skip rfl rfl rfl rfl (ne_tf hc2) F rfl rfl ?_; clear F a; intro a F
      refine wq_skip rfl rfl rfl rfl (ne_tf hc2) F rfl rfl ?_; clear F a; intro a F
      refine wq_skip rfl rfl rfl rfl (ne_tf hc2) F rfl rfl ?_; clear F a; intro a F
      refine wq_skip rfl rfl rfl rfl (ne_tf hc2) F rfl rfl ?_; clear F a; intro a F
      refine wq_skip rfl rfl rfl rfl (ne_tf hc2) F rfl rfl ?_; clear F a; intro a F
      refine wq_skip rfl rfl rfl rfl (ne_tf hc2) F rfl rfl ?_; clear F a; intro a F
      refine wq_skip rfl rfl rfl rfl (ne_tf hc2) F rfl rfl ?_; clear F a; intro a F
      refine wq_skip rfl rfl rfl rfl (ne_tf hc2) F rfl rfl ?_; clear F a; intro a F
      refine wq_skip rfl rfl rfl rfl (ne_tf hc2) F rfl rfl ?_; clear F a; intro a F
      refine wq_ev (wn rfl) (ev_pickF rfl hc2 rfl) F rfl rfl ?_; clear F a; intro a F
      obtain rfl := sinj hm
      refine wq_nil ?_; exact F.sub ⟨rfl, rfl, rfl, rfl, rfl, rfl, trivial⟩
    clear F; intro a F
    refine wq_ev (wn rfl) (ev_assign rfl) F rfl rfl ?_; clear F a; intro a F
    refine wq_nil ?_; clear S; intro w S
    refine then_n ?_
    refine wp_quiet mo (by kernel_rfl) S ?_
    refine wq_ev (wn rfl) (ev_move rfl) F rfl rfl ?_; clear F a; intro a F
    refine wq_ev (wn rfl) (ev_move rfl) F rfl rfl ?_; clear F a; intro a F
    obtain ⟨x8, hx3, hm⟩ := bind_some hm
    refine wq_cut 10 (fun a => Fr 41 a [(38, .bool x8), (6, .bool x7), (8, .i6 x3), (7, .bool x4), (0, va_1), (1, vb_1)]) ?_ ?_
    ·clear hm; obtain ⟨hc3, hm⟩ | ⟨hc3, hm⟩ := ite_or hx3
     ·refine wq_ev (wg F rfl rfl rfl rfl hc3) (ev_move rfl) F rfl rfl ?_; clear F a; intro a F
      refine wq_ev (wg F rfl rfl rfl rfl hc3) (ev_move rfl) F rfl rfl ?_; clear F a; intro a F
      obtain ⟨y3, hy3, hm⟩ := bind_some hm
      obtain ⟨cs3, hr4, hp3⟩ := elemS (ha_1.mono l2) hy3
      obtain rfl := rep_int hr4
      refine wq_ev (wg F rfl rfl rfl rfl hc3) (ev_idxS (ha_1.mono l2) hy3 tu33 ts3 rfl rfl) F rfl rfl ?_; clear F a; intro a F
      refine wq_ev (wg F rfl rfl rfl rfl hc3) (ev_load1 tu3 rfl rfl (ptr_mono (cks := []) (fr := fr) hp3 (Le.refl _))) F rfl rfl ?_; clear F a; intro a F
      refine wq_ev (wg F rfl rfl rfl rfl hc3) (ev_move rfl) F rfl rfl ?_; clear F a; intro a F
      refine wq_ev (wg F rfl rfl rfl rfl hc3) (ev_move rfl) F rfl rfl ?_; clear F a; intro a F
      obtain ⟨y4, hy4, hm⟩ := bind_some hm
      obtain ⟨cs4, hr5, hp4⟩ := elemS (hb_1.mono l2) hy4
      obtain rfl := rep_int hr5
      refine wq_ev (wg F rfl rfl rfl rfl hc3) (ev_idxS (hb_1.mono l2) hy4 tu33 ts3 rfl rfl) F rfl rfl ?_; clear F a; intro a F
      refine wq_ev (wg F rfl rfl rfl rfl hc3) (ev_load1 tu3 rfl rfl (ptr_mono (cks := []) (fr := fr) hp4 (Le.refl _))) F rfl rfl ?_; clear F a; intro a F
      refine wq_ev (wg F rfl rfl rfl rfl hc3) (ev_int rfl rfl (bo_leq _ _ _ _)) F rfl rfl ?_; clear F a; intro a F
      refine wq_ev (wn rfl) (ev_pickT rfl hc3 rfl) F rfl rfl ?_; clear F a; intro a F
      obtain rfl := sinj hm
      refine wq_nil ?_; exact F.sub ⟨rfl, rfl, rfl, rfl, rfl, rfl, trivial⟩
     ·refine wq_skip rfl rfl rfl rfl (ne_tf hc3) F rfl rfl ?_; clear F a; intro a F
      refine wq_skip rfl rfl rfl rfl (ne_tf hc3) F rfl rfl ?_; clear F a; intro a F
      refine wq_skip rfl rfl rfl rfl (ne_tf hc3) F rfl rfl ?_; clear F a; intro a F
      refine wq_skip rfl rfl rfl rfl (ne_tf hc3) F rfl rfl ?_; clear F a; intro a F
      refine wq_skip rfl rfl rfl rfl (ne_tf hc3) F rfl rfl ?_; clear F a; intro a F
      refine wq_skip rfl rfl rfl rfl (ne_tf hc3) F rfl rfl ?_; clear F a; intro a F
      refine wq_skip rfl rfl rfl rfl (ne_tf hc3) F rfl rfl ?_; clear F a; intro a F
      refine wq_skip rfl rfl rfl rfl (ne_tf hc3) F rfl rfl ?_; clear F a; intro a F
      refine wq_skip rfl rfl rfl rfl (ne_tf hc3) F rfl rfl ?_; clear F a; intro a F
      refine wq_ev (wn rfl) (ev_pickF rfl hc3 rfl) F rfl rfl ?_; clear F a; intro a F
      obtain rfl := sinj hm
      refine wq_nil ?_; exact F.sub ⟨rfl, rfl, rfl, rfl, rfl, rfl, trivial⟩
    clear F; intro a F
    refine wq_ev (wn rfl) (ev_assign rfl) F rfl rfl ?_; clear F a; intro a F
    refine wq_nil ?_; clear S; intro w S
    refine inb_n ?_
    refine then_n ?_
    refine wp_region_lit ?_
    refine wE (ev_move rfl) F S rfl fun a F=>?_
    obtain ⟨z1, hz1, hm⟩ := bind_some hm
    refine wE (ev_int rfl rfl (bo_add hz1)) F S rfl fun a F=>?_
    refine wE (ev_assign rfl) F S rfl fun a F=>?_
    refine wpList_nil ?_
    refine then_n ?_
    obtain rfl := sinj hm
    refine ⟨_, rfl, ?_⟩
    dsimp only
    exact ⟨g2, F.sub ⟨rfl, rfl, rfl, rfl, rfl, trivial⟩, l2, S⟩
   ·refine wp_condF F rfl hc1 ?_
    refine wp_exit ?_
    refine then_e ?_
    refine then_e ?_
    refine inb_x ?_
    refine then_n ?_
    obtain rfl := sinj hm
    obtain rfl := hfin1 _ rfl
    clear hm
    have hm : (changeforgeref2_Relation.j1 x4 x5 : Option (Bool × Bool)) = some _ := hmo1
    exact ⟨x4, x5, g2, F.sub ⟨rfl, rfl, trivial⟩, l2, S, hm⟩
 ·clear F S hm; rintro a w ⟨x1, x2, g1, F, l1, S, hm⟩
  refine wp_seq ?_
  refine wp_region_lit ?_
  refine wE (ev_move rfl) F S rfl fun a F=>?_
  refine wE (ev_move rfl) F S rfl fun a F=>?_
  refine wE (ev_assign rfl) F S rfl fun a F=>?_
  refine wE (ev_assign rfl) F S rfl fun a F=>?_
  refine wpList_nil ?_
  refine then_n ?_
  refine wp_ret ?_
  obtain rfl := sinj hm
  refine post_r _ F rfl (ar_cons (resT rfl) (ar_cons (resT rfl) ar_nil)) ?_
  exact ⟨_, rfl, g1, l1, S, rfl⟩
end Go.Dc
