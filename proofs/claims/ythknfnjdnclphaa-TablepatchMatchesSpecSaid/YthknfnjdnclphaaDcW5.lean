/- Walks: each function comes to what its model says. -/
import Derived.Test.YthknfnjdnclphaaDcTab
import Derived.Test.YthknfnjdnclphaaDcM
import Derived.Test.YthknfnjdnclphaaDcW3
namespace Go.Dc
open Go Go.Proofs
set_option maxRecDepth 100000
set_option maxHeartbeats 4000000
set_option linter.unusedVariables false
theorem changeforgeequal_Table_ok {g : Gh} {fr : Hl} {w : World} {r : Bool} (a_ : Table) (va_1 : Value) (ha_1 : RepSl g a_.Columns va_1) (va_2 : Value) (ha_2 : RepSl g a_.Rows va_2) (b_ : Table) (vb_1 : Value) (hb_1 : RepSl g b_.Columns vb_1) (vb_2 : Value) (hb_2 : RepSl g b_.Rows vb_2) (S : St g [] fr w) (hm : changeforgeequal_Table a_ b_ = some r) :
  Calls Try.prog 12 [.agg #[va_1, va_2], .agg #[vb_1, vb_2]].toArray w (fun en w' => ∃ v, en = .returned v ∧ ∃ (g' : Gh), Le g g' ∧ St g' [] fr w' ∧ .bool r = v) := by
 unfold changeforgeequal_Table at hm
 refine calls_enter (fn := Try.f12) Try.func12 rfl Try.ntmps12 (lb rfl) ?_
 intro a F
 replace F : Fr 57 a [(0, .agg #[va_1, va_2]), (1, .agg #[vb_1, vb_2])] := F
 refine wp_seq ?_
 refine wp_region_lit ?_
 refine wl_boxC (wn rfl) rfl rfl rfl F S rfl rfl ?_; clear F a S; rintro b1 a w F S
 refine wl_boxC (wn rfl) rfl rfl rfl F S rfl rfl ?_; clear F a S; rintro b2 a w F S
 refine wE (ev_assign rfl) F S rfl fun a F=>?_
 refine wpList_nil ?_
 refine then_n ?_
 refine wp_seq ?_
 refine wp_seq ?_
 refine wp_region_lit ?_
 refine wE (ev_fieldAddr' tu25 tf25_0 (z := 0) ts22 rfl ⟨_, rfl⟩ rfl) F S rfl fun a F=>?_
 refine wE (ev_load1 tu22 rfl rfl (box_ptr (cells := [va_1]) 1 rfl 0 rfl (lb rfl))) F S rfl fun a F=>?_
 refine wE (ev_fieldAddr' tu25 tf25_0 (z := 0) ts22 rfl ⟨_, rfl⟩ rfl) F S rfl fun a F=>?_
 refine wE (ev_load1 tu22 rfl rfl (box_ptr (cells := [vb_1]) 0 rfl 0 rfl (lb rfl))) F S rfl fun a F=>?_
 obtain ⟨y1, hy1, hm⟩ := bind_some hm
 refine wl_call0 (wn rfl) rfl F rfl (changeforgeequal_Strings_ok (fr := (fl [[bx b2 #[vb_1, vb_2] 25], [bx b1 #[va_1, va_2] 25]] fr)) a_.Columns va_1 ha_1 b_.Columns vb_1 hb_1 S hy1) rfl tc15 rfl rfl ?_; clear F a S
 rintro _ a w ⟨g1, l1, S, rfl⟩ F; replace S : St g1 [[bx b2 #[vb_1, vb_2] 25], [bx b1 #[va_1, va_2] 25]] fr w := S
 refine wE (ev_not rfl) F S rfl fun a F=>?_
 refine wE (ev_move rfl) F S rfl fun a F=>?_
 obtain ⟨x1, hx1, hm⟩ := bind_some hm
 refine wl_cut 8 (fun a w' => w = w' ∧ Fr 57 a [(20, .bool x1), (3, bp b2 0), (2, bp b1 0)]) ?_ ?_
 ·clear hm; obtain ⟨hc1, hm⟩ | ⟨hc1, hm⟩ := ite_or hx1
  ·refine wl_skip rfl rfl rfl rfl (ne_ft hc1) F rfl rfl ?_; clear F a; intro a F
   refine wl_skip rfl rfl rfl rfl (ne_ft hc1) F rfl rfl ?_; clear F a; intro a F
   refine wl_skip rfl rfl rfl rfl (ne_ft hc1) F rfl rfl ?_; clear F a; intro a F
   refine wl_skip rfl rfl rfl rfl (ne_ft hc1) F rfl rfl ?_; clear F a; intro a F
   refine wl_skip rfl rfl rfl rfl (ne_ft hc1) F rfl rfl ?_; clear F a; intro a F
   refine wl_skip rfl rfl rfl rfl (ne_ft hc1) F rfl rfl ?_; clear F a; intro a F
   refine wl_skip rfl rfl rfl rfl (ne_ft hc1) F rfl rfl ?_; clear F a; intro a F
   refine wE (ev_pickT rfl hc1 rfl) F S rfl fun a F=>?_
   obtain rfl := sinj hm
   refine wpList_nil (then_n ?_); exact ⟨rfl, F.sub ⟨rfl, rfl, rfl, trivial⟩⟩
  ·refine wl_ev (wg F rfl rfl rfl rfl hc1) (ev_fieldAddr' tu25 tf25_1 (z := 0) ts23 rfl ⟨_, rfl⟩ rfl) F S rfl rfl ?_; clear F a; intro a F
   refine wl_ev (wg F rfl rfl rfl rfl hc1) (ev_load1 tu23 rfl rfl (box_ptr (cells := [va_2]) 1 rfl 1 rfl (lb rfl))) F S rfl rfl ?_; clear F a; intro a F
   refine wl_ev (wg F rfl rfl rfl rfl hc1) (ev_lenSh ha_2 rfl tu23) F S rfl rfl ?_; clear F a; intro a F
   refine wl_ev (wg F rfl rfl rfl rfl hc1) (ev_fieldAddr' tu25 tf25_1 (z := 0) ts23 rfl ⟨_, rfl⟩ rfl) F S rfl rfl ?_; clear F a; intro a F
   refine wl_ev (wg F rfl rfl rfl rfl hc1) (ev_load1 tu23 rfl rfl (box_ptr (cells := [vb_2]) 0 rfl 1 rfl (lb rfl))) F S rfl rfl ?_; clear F a; intro a F
   refine wl_ev (wg F rfl rfl rfl rfl hc1) (ev_lenSh hb_2 rfl tu23) F S rfl rfl ?_; clear F a; intro a F
   refine wl_ev (wg F rfl rfl rfl rfl hc1) (ev_int rfl rfl (bo_neq _ _ _ _)) F S rfl rfl ?_; clear F a; intro a F
   refine wE (ev_pickF rfl hc1 rfl) F S rfl fun a F=>?_
   obtain rfl := sinj hm
   refine wpList_nil (then_n ?_); exact ⟨rfl, F.sub ⟨rfl, rfl, rfl, trivial⟩⟩
 clear F; rintro a w' ⟨rfl, F⟩
 refine wpList_nil ?_
 refine then_n ?_
 obtain ⟨hc2, hm⟩ | ⟨hc2, hm⟩ := ite_or hm
 ·refine wp_condT F rfl hc2 ?_
  refine wp_seq ?_
  refine wp_region_lit ?_
  refine wE (ev_assign rfl) F S rfl fun a F=>?_
  refine wpList_nil ?_
  refine then_n ?_
  refine wp_ret ?_
  refine then_r ?_
  obtain rfl := sinj hm
  refine post_r _ F rfl (ar_cons (resT rfl) ar_nil) ?_
  replace S : St g1 [] fr w := St.tail [] _ S
  exact ⟨_, rfl, g1, l1, S, rfl⟩
 ·refine wp_condF F rfl hc2 ?_
  refine wp_skip ?_
  refine then_n ?_
  refine wp_cut (fun a w => ∃ (g2 : Gh), Fr 57 a [] ∧ Le g1 g2 ∧ St g2 [] fr w ∧ changeforgeequal_Table.j1 = some r) ?_ ?_
  ·refine wp_seq ?_
   refine wp_region_lit ?_
   refine wE (ev_assign rfl) F S rfl fun a F=>?_
   refine wpList_nil ?_
   refine then_n ?_
   refine wp_block ?_
   obtain ⟨r1, hr1, hm⟩ := bind_some hm
   have hmo1 := hm; clear hm
   refine wp_iter (σ := Int) (ρ := Bool ⊕ Unit) (m := fun s => changeforgeequal_Table.l1 a_ b_ s) (I := fun x2 a w => ∃ (g3 : Gh), Fr 57 a [(5, .i6 x2), (3, bp b2 0), (2, bp b1 0)] ∧ Le g1 g3 ∧ St g3 [[bx b2 #[vb_1, vb_2] 25], [bx b1 #[va_1, va_2] 25]] fr w) hr1 ?_ ?_
   ·exact ⟨g1, F.sub ⟨rfl, rfl, rfl, trivial⟩, (Le.refl _), S⟩
   ·clear F S; rintro x2 a w x3 ⟨g3, F, l3, S⟩ hx2 hfin1
    have hm : changeforgeequal_Table.l1 a_ b_ x2 = some x3 := hx2; clear hx2
    unfold changeforgeequal_Table.l1 at hm
    refine wp_seq ?_
    refine wp_seq ?_
    refine wp_region_lit ?_
    refine wE (ev_move rfl) F S rfl fun a F=>?_
    refine wE (ev_fieldAddr' tu25 tf25_1 (z := 0) ts23 rfl ⟨_, rfl⟩ rfl) F S rfl fun a F=>?_
    refine wE (ev_load1 tu23 rfl rfl (box_ptr (cells := [va_2]) 1 rfl 1 rfl (lb rfl))) F S rfl fun a F=>?_
    refine wE (ev_lenSh ha_2 rfl tu23) F S rfl fun a F=>?_
    refine wE (ev_int rfl rfl (bo_lss _ _ _ _)) F S rfl fun a F=>?_
    refine wpList_nil ?_
    refine then_n ?_
    obtain ⟨hc3, hm⟩ | ⟨hc3, hm⟩ := ite_or hm
    ·refine wp_condT F rfl hc3 ?_
     refine wp_skip ?_
     refine then_n ?_
     refine wp_seq ?_
     refine wp_block ?_
     refine wp_seq ?_
     refine wp_quiet mo (by kernel_rfl) S ?_
     refine wq_ev (wn rfl) (ev_fieldAddr' tu25 tf25_1 (z := 0) ts23 rfl ⟨_, rfl⟩ rfl) F rfl rfl ?_; clear F a; intro a F
     refine wq_ev (wn rfl) (ev_load1 tu23 rfl rfl (box_ptr (cells := [va_2]) 1 rfl 1 rfl (lb rfl))) F rfl rfl ?_; clear F a; intro a F
     refine wq_ev (wn rfl) (ev_move rfl) F rfl rfl ?_; clear F a; intro a F
     obtain ⟨y2, hy2, hm⟩ := bind_some hm
     obtain ⟨cs1, hr2, hp1⟩ := elemS (ha_2.mono (l1.trans l3)) hy2
     obtain ⟨v1, rfl, h1⟩ := rep_Row hr2
     refine wq_ev (wn rfl) (ev_idxS (ha_2.mono (l1.trans l3)) hy2 tu23 ts54 rfl rfl) F rfl rfl ?_; clear F a; intro a F
     have hp2 := PtrC.field hp1 0 1 (lb rfl)
     have hp2 : PtrC g3 (addP (elemP va_2 x2 2) 0) [.string y2.Key] := hp2
     refine wq_ev (wn rfl) (ev_fieldAddr' tu54 tf54_0 (z := 0) ts9 rfl hp1.ptr rfl) F rfl rfl ?_; clear F a; intro a F
     refine wq_ev (wn rfl) (ev_load1 tu9 rfl rfl (ptr_mono (cks := [[bx b2 #[vb_1, vb_2] 25], [bx b1 #[va_1, va_2] 25]]) (fr := fr) hp2 (Le.refl _))) F rfl rfl ?_; clear F a; intro a F
     refine wq_ev (wn rfl) (ev_fieldAddr' tu25 tf25_1 (z := 0) ts23 rfl ⟨_, rfl⟩ rfl) F rfl rfl ?_; clear F a; intro a F
     refine wq_ev (wn rfl) (ev_load1 tu23 rfl rfl (box_ptr (cells := [vb_2]) 0 rfl 1 rfl (lb rfl))) F rfl rfl ?_; clear F a; intro a F
     refine wq_ev (wn rfl) (ev_move rfl) F rfl rfl ?_; clear F a; intro a F
     obtain ⟨y3, hy3, hm⟩ := bind_some hm
     obtain ⟨cs2, hr3, hp3⟩ := elemS (hb_2.mono (l1.trans l3)) hy3
     obtain ⟨v2, rfl, h2⟩ := rep_Row hr3
     refine wq_ev (wn rfl) (ev_idxS (hb_2.mono (l1.trans l3)) hy3 tu23 ts54 rfl rfl) F rfl rfl ?_; clear F a; intro a F
     have hp4 := PtrC.field hp3 0 1 (lb rfl)
     have hp4 : PtrC g3 (addP (elemP vb_2 x2 2) 0) [.string y3.Key] := hp4
     refine wq_ev (wn rfl) (ev_fieldAddr' tu54 tf54_0 (z := 0) ts9 rfl hp3.ptr rfl) F rfl rfl ?_; clear F a; intro a F
     refine wq_ev (wn rfl) (ev_load1 tu9 rfl rfl (ptr_mono (cks := [[bx b2 #[vb_1, vb_2] 25], [bx b1 #[va_1, va_2] 25]]) (fr := fr) hp4 (Le.refl _))) F rfl rfl ?_; clear F a; intro a F
     refine wq_ev (wn rfl) (ev_str rfl rfl (bs_neq _ _ _)) F rfl rfl ?_; clear F a; intro a F
     refine wq_ev (wn rfl) (ev_move rfl) F rfl rfl ?_; clear F a; intro a F
     obtain ⟨x4, hx3, hm⟩ := bind_some hm
     refine wq_cut 15 (fun a => Fr 57 a [(56, .bool x4), (5, .i6 x2), (3, bp b2 0), (2, bp b1 0)]) ?_ ?_
     ·clear hm; obtain ⟨hc4, hm⟩ | ⟨hc4, hm⟩ := ite_or hx3
      ·refine wq_skip rfl rfl rfl rfl (ne_ft hc4) F rfl rfl ?_; clear F a; intro a F
       refine wq_skip rfl rfl rfl rfl (ne_ft hc4) F rfl rfl ?_; clear F a; intro a F
       refine wq_skip rfl rfl rfl rfl (ne_ft hc4) F rfl rfl ?_; clear F a; intro a F
       refine wq_skip rfl rfl rfl rfl (ne_ft hc4) F rfl rfl ?_; clear F a; intro a F
       refine wq_skip rfl rfl rfl rfl (ne_ft hc4) F rfl rfl ?_; clear F a; intro a F
       refine wq_skip rfl rfl rfl rfl (ne_ft hc4) F rfl rfl ?_; clear F a; intro a F
       refine wq_skip rfl rfl rfl rfl (ne_ft hc4) F rfl rfl ?_; clear F a; intro a F
       refine wq_skip rfl rfl rfl rfl (ne_ft hc4) F rfl rfl ?_; clear F a; intro a F
       refine wq_skip rfl rfl rfl rfl (ne_ft hc4) F rfl rfl ?_; clear F a; intro a F
       refine wq_skip rfl rfl rfl rfl (ne_ft hc4) F rfl rfl ?_; clear F a; intro a F
       refine wq_skip rfl rfl rfl rfl (ne_ft hc4) F rfl rfl ?_; clear F a; intro a F
       refine wq_skip rfl rfl rfl rfl (ne_ft hc4) F rfl rfl ?_; clear F a; intro a F
       refine wq_skip rfl rfl rfl rfl (ne_ft hc4) F rfl rfl ?_; clear F a; intro a F
       refine wq_skip rfl rfl rfl rfl (ne_ft hc4) F rfl rfl ?_; clear F a; intro a F
       refine wq_ev (wn rfl) (ev_pickT rfl hc4 rfl) F rfl rfl ?_; clear F a; intro a F
       obtain rfl := sinj hm
       refine wq_nil ?_; exact F.sub ⟨rfl, rfl, rfl, rfl, trivial⟩
      ·refine wq_ev (wg F rfl rfl rfl rfl hc4) (ev_fieldAddr' tu25 tf25_1 (z := 0) ts23 rfl ⟨_, rfl⟩ rfl) F rfl rfl ?_; clear F a; intro a F
       refine wq_ev (wg F rfl rfl rfl rfl hc4) (ev_load1 tu23 rfl rfl (box_ptr (cells := [va_2]) 1 rfl 1 rfl (lb rfl))) F rfl rfl ?_; clear F a; intro a F
       refine wq_ev (wg F rfl rfl rfl rfl hc4) (ev_move rfl) F rfl rfl ?_; clear F a; intro a F
       obtain ⟨y4, hy4, hm⟩ := bind_some hm
       obtain ⟨cs3, hr4, hp5⟩ := elemS (ha_2.mono (l1.trans l3)) hy4
       obtain ⟨v3, rfl, h3⟩ := rep_Row hr4
       refine wq_ev (wg F rfl rfl rfl rfl hc4) (ev_idxS (ha_2.mono (l1.trans l3)) hy4 tu23 ts54 rfl rfl) F rfl rfl ?_; clear F a; intro a F
       have hp6 := PtrC.field hp5 1 1 (lb rfl)
       have hp6 : PtrC g3 (addP (elemP va_2 x2 2) 1) [v3] := hp6
       refine wq_ev (wg F rfl rfl rfl rfl hc4) (ev_fieldAddr' tu54 tf54_1 (z := 0) ts22 rfl hp5.ptr rfl) F rfl rfl ?_; clear F a; intro a F
       refine wq_ev (wg F rfl rfl rfl rfl hc4) (ev_load1 tu22 rfl rfl (ptr_mono (cks := [[bx b2 #[vb_1, vb_2] 25], [bx b1 #[va_1, va_2] 25]]) (fr := fr) hp6 (Le.refl _))) F rfl rfl ?_; clear F a; intro a F
       refine wq_ev (wg F rfl rfl rfl rfl hc4) (ev_fieldAddr' tu25 tf25_1 (z := 0) ts23 rfl ⟨_, rfl⟩ rfl) F rfl rfl ?_; clear F a; intro a F
       refine wq_ev (wg F rfl rfl rfl rfl hc4) (ev_load1 tu23 rfl rfl (box_ptr (cells := [vb_2]) 0 rfl 1 rfl (lb rfl))) F rfl rfl ?_; clear F a; intro a F
       refine wq_ev (wg F rfl rfl rfl rfl hc4) (ev_move rfl) F rfl rfl ?_; clear F a; intro a F
       obtain ⟨y5, hy5, hm⟩ := bind_some hm
       obtain ⟨cs4, hr5, hp7⟩ := elemS (hb_2.mono (l1.trans l3)) hy5
       obtain ⟨v4, rfl, h4⟩ := rep_Row hr5
       refine wq_ev (wg F rfl rfl rfl rfl hc4) (ev_idxS (hb_2.mono (l1.trans l3)) hy5 tu23 ts54 rfl rfl) F rfl rfl ?_; clear F a; intro a F
       have hp8 := PtrC.field hp7 1 1 (lb rfl)
       have hp8 : PtrC g3 (addP (elemP vb_2 x2 2) 1) [v4] := hp8
       refine wq_ev (wg F rfl rfl rfl rfl hc4) (ev_fieldAddr' tu54 tf54_1 (z := 0) ts22 rfl hp7.ptr rfl) F rfl rfl ?_; clear F a; intro a F
       refine wq_ev (wg F rfl rfl rfl rfl hc4) (ev_load1 tu22 rfl rfl (ptr_mono (cks := [[bx b2 #[vb_1, vb_2] 25], [bx b1 #[va_1, va_2] 25]]) (fr := fr) hp8 (Le.refl _))) F rfl rfl ?_; clear F a; intro a F
       obtain ⟨y6, hy6, hm⟩ := bind_some hm
       refine wq_call (wg F rfl rfl rfl rfl hc4) rfl (xs := [.tmp 47, .tmp 53]) (vs := [v3, v4]) (cap := []) F rfl rfl tc15 (v := .bool y6) (fun w S => (changeforgeequal_Strings_ok (g := g3) (fr := (fl [[bx b2 #[vb_1, vb_2] 25], [bx b1 #[va_1, va_2] 25]] fr)) (w := w) y4.Cells v3 h3 y5.Cells v4 h4 S hy6).mono (by rintro en w' ⟨_, rfl, g2, l2, S2, rfl⟩; exact ⟨rfl, S2.weak l2⟩)) rfl rfl ?_; clear F a; intro a F
       refine wq_ev (wg F rfl rfl rfl rfl hc4) (ev_not rfl) F rfl rfl ?_; clear F a; intro a F
       refine wq_ev (wn rfl) (ev_pickF rfl hc4 rfl) F rfl rfl ?_; clear F a; intro a F
       obtain rfl := sinj hm
       refine wq_nil ?_; exact F.sub ⟨rfl, rfl, rfl, rfl, trivial⟩
     clear F; intro a F
     refine wq_nil ?_; clear S; intro w S
     refine then_n ?_
     obtain ⟨hc5, hm⟩ | ⟨hc5, hm⟩ := ite_or hm
     ·refine wp_condT F rfl hc5 ?_
      refine wp_seq ?_
      refine wp_region_lit ?_
      refine wE (ev_assign rfl) F S rfl fun a F=>?_
      refine wpList_nil ?_
      refine then_n ?_
      refine wp_ret ?_
      refine inb_r ?_
      refine then_r ?_
      refine then_r ?_
      refine inb_r ?_
      refine then_r ?_
      obtain rfl := sinj hm
      obtain rfl := hfin1 _ rfl
      clear hm
      have hm : (some false : Option Bool) = some _ := hmo1
      obtain rfl := sinj hm
      refine post_r _ F rfl (ar_cons (resT rfl) ar_nil) ?_
      replace S : St g3 [] fr w := St.tail [] _ S
      exact ⟨_, rfl, g3, (l1.trans l3), S, rfl⟩
     ·refine wp_condF F rfl hc5 ?_
      refine wp_skip ?_
      refine inb_n ?_
      refine then_n ?_
      refine wp_region_lit ?_
      refine wE (ev_move rfl) F S rfl fun a F=>?_
      obtain ⟨z1, hz1, hm⟩ := bind_some hm
      refine wE (ev_int rfl rfl (bo_add hz1)) F S rfl fun a F=>?_
      refine wE (ev_assign rfl) F S rfl fun a F=>?_
      refine wpList_nil ?_
      refine then_n ?_
      obtain rfl := sinj hm
      refine ⟨_, rfl, ?_⟩
      exact ⟨g3, F.sub ⟨rfl, rfl, rfl, trivial⟩, l3, S⟩
    ·refine wp_condF F rfl hc3 ?_
     refine wp_exit ?_
     refine then_e ?_
     refine then_e ?_
     refine inb_x ?_
     refine then_n ?_
     obtain rfl := sinj hm
     obtain rfl := hfin1 _ rfl
     clear hm
     have hm : (changeforgeequal_Table.j1 : Option Bool) = some _ := hmo1
     replace S : St g3 [] fr w := St.tail [] _ S
     exact ⟨g3, F.sub trivial, l3, S, hm⟩
  ·clear F S hm; rintro a w ⟨g2, F, l2, S, hm⟩
   refine wp_seq ?_
   refine wp_region_lit ?_
   refine wE (ev_assign rfl) F S rfl fun a F=>?_
   refine wpList_nil ?_
   refine then_n ?_
   refine wp_ret ?_
   obtain rfl := sinj hm
   refine post_r _ F rfl (ar_cons (resT rfl) ar_nil) ?_
   exact ⟨_, rfl, g2, (l1.trans l2), S, rfl⟩

theorem changeforgelaw2_table_ok {g : Gh} {fr : Hl} {w : World} {r : Table} (a_ : ByteArray) (b_ : ByteArray) (S : St g [] fr w) (hm : changeforgelaw2_table a_ b_ = some r) :
  Calls Try.prog 35 [.string a_, .string b_].toArray w (fun en w' => ∃ v, en = .returned v ∧ ∃ (g' : Gh) (v1 v2 : Value) (c1 c2 : Hl), Le g g' ∧ St g' [c1, c2] fr w' ∧ OwnS g' r.Columns v1 c1 ∧ OwnS g' r.Rows v2 c2 ∧ .agg #[v1, v2] = v) := by
 unfold changeforgelaw2_table at hm
 refine calls_enter (fn := Try.f35) Try.func35 rfl Try.ntmps35 (lb rfl) ?_
 intro a F
 replace F : Fr 12 a [(0, .string a_), (1, .string b_)] := F
 refine wp_seq ?_
 refine wp_region_lit ?_
 refine wl_alloc (wn rfl) rfl tz25 (cs := [nilS, nilS]) rfl F S rfl rfl ?_; clear F a S; rintro b1 a w F S
 refine wpList_nil ?_
 refine then_n ?_
 refine wp_seq ?_
 refine wp_region_lit ?_
 refine wl_lit (l := ([(⟨#[99]⟩ : ByteArray), (⟨#[100]⟩ : ByteArray)] : List ByteArray)) (vs := [.string (⟨#[99]⟩ : ByteArray), .string (⟨#[100]⟩ : ByteArray)]) (parts := [(0, .const (.string (⟨#[99]⟩ : ByteArray))), (1, .const (.string (⟨#[100]⟩ : ByteArray)))]) (wn rfl) rfl rfl rfl tu22 te9 (sz_cons rfl (sz_cons rfl sz_nil)) rfl (Cat.cons (show Rep.rep _ (⟨#[99]⟩ : ByteArray) _ from rfl) (Cat.cons (show Rep.rep _ (⟨#[100]⟩ : ByteArray) _ from rfl) (Cat.nil _))) (coa_cons rfl (coa_cons rfl coa_nil)) rfl F S rfl rfl ?_; clear F a S
 rintro v1 c1 a w h1 F S
 refine wE (ev_move rfl) F S rfl fun a F=>?_
 refine wE (ev_move rfl) F S rfl fun a F=>?_
 refine wl_lit (l := ([a_, b_] : List ByteArray)) (vs := [.string a_, .string b_]) (parts := [(0, .tmp 6), (1, .tmp 7)]) (wn rfl) rfl rfl rfl tu22 te9 (sz_cons rfl (sz_cons rfl sz_nil)) rfl (Cat.cons (show Rep.rep _ a_ _ from rfl) (Cat.cons (show Rep.rep _ b_ _ from rfl) (Cat.nil _))) (coa_cons rfl (coa_cons rfl coa_nil)) rfl F S rfl rfl ?_; clear F a S
 rintro v2 c2 a w h2 F S
 refine wE (ev_build (parts := [(0, .const (.string (⟨#[107]⟩ : ByteArray))), (1, .tmp 8)]) (vs := [(0, .string (⟨#[107]⟩ : ByteArray)), (1, v2)]) rfl (fun w => tb54_0_1 (⟨#[107]⟩ : ByteArray) v2 (OwnS.isSl h2) w)) F S rfl fun a F=>?_
 obtain ⟨g1, l1, S, h3⟩ : ∃ gz, Le g gz ∧ St gz [c1, [bx b1 #[nilS, nilS] 25]] fr w ∧ RepSl gz ([a_, b_] : List ByteArray) v2 := ⟨_, Le.add _ _, S.freeze 0 rfl, OwnS.freeze (S.front 0 rfl) h2⟩
 refine wl_lit (l := ([({ Key := (⟨#[107]⟩ : ByteArray), Cells := ([a_, b_] : List ByteArray) } : Row)] : List Row)) (vs := [.agg #[.string (⟨#[107]⟩ : ByteArray), v2]]) (parts := [(0, .tmp 9)]) (wn rfl) rfl rfl rfl tu23 te54 (sz_cons rfl sz_nil) rfl (Cat.cons (rep_Row_mk (x := ({ Key := (⟨#[107]⟩ : ByteArray), Cells := ([a_, b_] : List ByteArray) } : Row)) h3) (Cat.nil _)) (coa_cons rfl coa_nil) rfl F S rfl rfl ?_; clear F a S
 rintro v3 c3 a w h4 F S
 refine wE (ev_build (parts := [(0, .tmp 5), (1, .tmp 10)]) (vs := [(0, v1), (1, v3)]) rfl (fun w => tb25_0_1 v1 (OwnS.isSl h1) v3 (OwnS.isSl h4) w)) F S rfl fun a F=>?_
 refine wl_storeC (wn rfl) rfl F S rfl rfl (vs := [v1, v3]) rfl ts25 (one_cons (OwnS.one h1) (one_cons (OwnS.one h4) one_nil)) (k := 2) rfl (lb rfl) (c' := #[v1, v3]) rfl rfl ?_; clear S; intro w S
 refine wpList_nil ?_
 refine then_n ?_
 refine wp_ret ?_
 obtain rfl := sinj hm
 refine post_r _ F rfl (ar_cons (resA rfl tu25 rfl (box_ptr (cells := [v1, v3]) 2 rfl 0 rfl (lb rfl) w S) ts25) ar_nil) ?_
 replace S : St g1 [c1, c3] fr w := St.tail [c1, c3] _ ((S.frontC 0 rfl).frontC 2 rfl)
 exact ⟨_, rfl, g1, v1, v3, c1, c3, l1, S, (h1.mono l1), h4, rfl⟩

theorem changeforgelaw2_both_ok {g : Gh} {fr : Hl} {w : World} {r : Bool}  (S : St g [] fr w) (hm : changeforgelaw2_both = some r) :
  Calls Try.prog 14 [].toArray w (fun en w' => ∃ v, en = .returned v ∧ ∃ (g' : Gh), Le g g' ∧ St g' [] fr w' ∧ .bool r = v) := by
 unfold changeforgelaw2_both at hm
 refine calls_enter (fn := Try.f14) Try.func14 rfl Try.ntmps14 (lb rfl) ?_
 intro a F
 replace F : Fr 25 a [] := F
 refine wp_seq ?_
 refine wp_region_lit ?_
 refine wE (ev_assign rfl) F S rfl fun a F=>?_
 refine wpList_nil ?_
 refine then_n ?_
 refine wp_seq ?_
 refine wp_region_lit ?_
 obtain ⟨y1, hy1, hm⟩ := bind_some hm
 refine wl_call0 (wn rfl) rfl F rfl (changeforgelaw2_table_ok (⟨#[49]⟩ : ByteArray) (⟨#[50]⟩ : ByteArray) S hy1) rfl tc35 rfl rfl ?_; clear F a S
 rintro _ a w ⟨g1, v1, v2, c1, c2, l1, S, h1, h2, rfl⟩ F; replace S : St g1 [c1, c2] fr w := S
 obtain ⟨y2, hy2, hm⟩ := bind_some hm
 refine wl_call0 (wn rfl) rfl F rfl (changeforgelaw2_table_ok (fr := (fl [c1, c2] fr)) (⟨#[51]⟩ : ByteArray) (⟨#[50]⟩ : ByteArray) S hy2) rfl tc35 rfl rfl ?_; clear F a S
 rintro _ a w ⟨g2, v3, v4, c3, c4, l2, S, h3, h4, rfl⟩ F; replace S : St g2 [c3, c4, c1, c2] fr w := S
 obtain ⟨y3, hy3, hm⟩ := bind_some hm
 refine wl_call0 (wn rfl) rfl F rfl (changeforgelaw2_table_ok (fr := (fl [c3, c4, c1, c2] fr)) (⟨#[49]⟩ : ByteArray) (⟨#[52]⟩ : ByteArray) S hy3) rfl tc35 rfl rfl ?_; clear F a S
 rintro _ a w ⟨g3, v5, v6, c5, c6, l3, S, h5, h6, rfl⟩ F; replace S : St g3 [c5, c6, c3, c4, c1, c2] fr w := S
 obtain ⟨g4, l4, S, h7⟩ : ∃ gz, Le g3 gz ∧ St gz [c5, c6, c3, c4, c2] fr w ∧ RepSl gz y1.Columns v1 := ⟨_, Le.add _ _, S.freeze 4 rfl, OwnS.freeze (S.front 4 rfl) (h1.mono (l2.trans l3))⟩
 obtain ⟨g5, l5, S, h8⟩ : ∃ gz, Le g4 gz ∧ St gz [c5, c6, c3, c4] fr w ∧ RepSl gz y1.Rows v2 := ⟨_, Le.add _ _, S.freeze 4 rfl, OwnS.freeze (S.front 4 rfl) (h2.mono ((l2.trans l3).trans l4))⟩
 obtain ⟨g6, l6, S, h9⟩ : ∃ gz, Le g5 gz ∧ St gz [c5, c6, c4] fr w ∧ RepSl gz y2.Columns v3 := ⟨_, Le.add _ _, S.freeze 2 rfl, OwnS.freeze (S.front 2 rfl) (h3.mono ((l3.trans l4).trans l5))⟩
 obtain ⟨g7, l7, S, h10⟩ : ∃ gz, Le g6 gz ∧ St gz [c5, c6] fr w ∧ RepSl gz y2.Rows v4 := ⟨_, Le.add _ _, S.freeze 2 rfl, OwnS.freeze (S.front 2 rfl) (h4.mono (((l3.trans l4).trans l5).trans l6))⟩
 obtain ⟨g8, l8, S, h11⟩ : ∃ gz, Le g7 gz ∧ St gz [c6] fr w ∧ RepSl gz y3.Columns v5 := ⟨_, Le.add _ _, S.freeze 0 rfl, OwnS.freeze (S.front 0 rfl) (h5.mono (((l4.trans l5).trans l6).trans l7))⟩
 obtain ⟨g9, l9, S, h12⟩ : ∃ gz, Le g8 gz ∧ St gz [] fr w ∧ RepSl gz y3.Rows v6 := ⟨_, Le.add _ _, S.freeze 0 rfl, OwnS.freeze (S.front 0 rfl) (h6.mono ((((l4.trans l5).trans l6).trans l7).trans l8))⟩
 obtain ⟨y4, hy4, hm⟩ := bind_some hm
 refine wl_call0 (wn rfl) rfl F rfl (tablepatch_Merge_ok y1 v1 (h7.mono ((((l5.trans l6).trans l7).trans l8).trans l9)) v2 (h8.mono (((l6.trans l7).trans l8).trans l9)) y2 v3 (h9.mono ((l7.trans l8).trans l9)) v4 (h10.mono (l8.trans l9)) y3 v5 (h11.mono l9) v6 h12 S hy4) rfl tc10 rfl rfl ?_; clear F a S
 rintro _ a w ⟨g10, v7, v8, v9, c7, c8, c9, l10, S, h13, h14, h15, rfl⟩ F; replace S : St g10 [c7, c8, c9] fr w := S
 refine wE (ev_move rfl) F S rfl fun a F=>?_
 refine wE (ev_extract rfl rfl) F S rfl fun a F=>?_
 refine wE (ev_extract rfl rfl) F S rfl fun a F=>?_
 refine wE (ev_extract rfl rfl) F S rfl fun a F=>?_
 refine wl_alloc (wn rfl) rfl tz25 (cs := [nilS, nilS]) rfl F S rfl rfl ?_; clear F a S; rintro b1 a w F S
 refine wl_alloc (wn rfl) rfl tz28 (cs := [.i6 0, .i6 0]) rfl F S rfl rfl ?_; clear F a S; rintro b2 a w F S
 refine wl_storeC (wn rfl) rfl F S rfl rfl (vs := [v7, v8]) rfl ts25 (one_cons (OwnS.one h13) (one_cons (OwnS.one h14) one_nil)) (k := 1) rfl (lb rfl) (c' := #[v7, v8]) rfl rfl ?_; clear S; intro w S
 refine wE (ev_assign rfl) F S rfl fun a F=>?_
 refine wl_storeC (wn rfl) rfl F S rfl rfl (vs := [.i6 y4.2.2.Code, .i6 y4.2.2.Index]) rfl ts28 (one_cons rfl (one_cons rfl one_nil)) (k := 0) rfl (lb rfl) (c' := #[.i6 y4.2.2.Code, .i6 y4.2.2.Index]) rfl rfl ?_; clear S; intro w S
 refine wpList_nil ?_
 refine then_n ?_
 refine wp_seq ?_
 refine wp_cut1 (fun a w => ∃ (x1 : Bool) (g11 : Gh), Fr 25 a [(0, .bool x1)] ∧ Le g10 g11 ∧ St g11 [] fr w ∧ changeforgelaw2_both.j1 x1 = some r) ?_ ?_
 ·refine wp_dv [] mo S ?_; clear S; intro ok1 w S
  refine dv_et ok1 0 rfl (ev_fieldAddr' tu28 tf28_0 (z := 0) ts3 rfl ⟨_, rfl⟩ rfl) F rfl fun a F=>?_
  refine dv_ev ok1 1 rfl (ev_load1 tu3 rfl rfl (box_ptr (cells := [.i6 y4.2.2.Code]) 0 rfl 0 rfl (lb rfl))) F S rfl fun a F=>?_
  refine dv_et ok1 2 rfl (ev_int rfl rfl (bo_eql _ _ _ _)) F rfl fun a F=>?_
  refine dv_et ok1 3 rfl (ev_move rfl) F rfl fun a F=>?_
  obtain ⟨hc1, hm⟩ | ⟨hc1, hm⟩ := ite_or hm
  ·refine dv_etg ok1 4 rfl rfl rfl rfl rfl hc1 (ev_move rfl) F rfl rfl fun a F=>?_
   refine dv_etg ok1 5 rfl rfl rfl rfl rfl hc1 (ev_lenOw h15 rfl tu26) F rfl rfl fun a F=>?_
   refine dv_etg ok1 6 rfl rfl rfl rfl rfl hc1 (ev_int rfl rfl (bo_eql _ _ _ _)) F rfl rfl fun a F=>?_
   refine dv_et ok1 7 rfl (ev_pickT rfl hc1 rfl) F rfl fun a F=>?_
   refine dv_et ok1 8 rfl (ev_move rfl) F rfl fun a F=>?_
   obtain ⟨hc2, hm⟩ | ⟨hc2, hm⟩ := ite_or hm
   ·refine dv_evg ok1 9 rfl rfl rfl rfl rfl hc2 (ev_loadA tu25 rfl (cs := [v7, v8]) ts25 rfl (box_ptr (cells := [v7, v8]) 1 rfl 0 rfl (lb rfl))) F S rfl rfl fun a F=>?_
    refine dv_op ok1 10 rfl [(9, .agg #[v7, v8])] ?_
    obtain ⟨y5, hy5, hm⟩ := bind_some hm
    refine wl_call0 (wg F rfl rfl rfl rfl hc2) rfl F rfl (changeforgelaw2_table_ok (fr := (fl [[bx b2 #[.i6 y4.2.2.Code, .i6 y4.2.2.Index] 28], [bx b1 #[v7, v8] 25], c7, c8, c9] fr)) (⟨#[51]⟩ : ByteArray) (⟨#[52]⟩ : ByteArray) S hy5) rfl tc35 rfl rfl ?_; clear F a S
    rintro _ a w ⟨g12, v10, v11, c10, c11, l12, S, h16, h17, rfl⟩ F; replace S : St g12 [c10, c11, [bx b2 #[.i6 y4.2.2.Code, .i6 y4.2.2.Index] 28], [bx b1 #[v7, v8] 25], c7, c8, c9] fr w := S
    refine dv_nx ⟨yl_evg rfl rfl rfl rfl rfl hc2 (ev_loadA tu25 rfl (cs := [v7, v8]) ts25 rfl (box_ptr (cells := [v7, v8]) 3 rfl 0 rfl (lb rfl))) F S, trivial⟩ ?_
    refine dv_op ok1 11 rfl [] ?_
    obtain ⟨g13, l13, S, h18⟩ : ∃ gz, Le g12 gz ∧ St gz [c10, c11, [bx b2 #[.i6 y4.2.2.Code, .i6 y4.2.2.Index] 28], [bx b1 #[v7, v8] 25], c8, c9] fr w ∧ RepSl gz y4.1.Columns v7 := ⟨_, Le.add _ _, S.freeze 4 rfl, OwnS.freeze (S.front 4 rfl) (h13.mono l12)⟩
    obtain ⟨g14, l14, S, h19⟩ : ∃ gz, Le g13 gz ∧ St gz [c10, c11, [bx b2 #[.i6 y4.2.2.Code, .i6 y4.2.2.Index] 28], [bx b1 #[v7, v8] 25], c9] fr w ∧ RepSl gz y4.1.Rows v8 := ⟨_, Le.add _ _, S.freeze 4 rfl, OwnS.freeze (S.front 4 rfl) (h14.mono (l12.trans l13))⟩
    obtain ⟨g15, l15, S, h20⟩ : ∃ gz, Le g14 gz ∧ St gz [c11, [bx b2 #[.i6 y4.2.2.Code, .i6 y4.2.2.Index] 28], [bx b1 #[v7, v8] 25], c9] fr w ∧ RepSl gz y5.Columns v10 := ⟨_, Le.add _ _, S.freeze 0 rfl, OwnS.freeze (S.front 0 rfl) (h16.mono (l13.trans l14))⟩
    obtain ⟨g16, l16, S, h21⟩ : ∃ gz, Le g15 gz ∧ St gz [[bx b2 #[.i6 y4.2.2.Code, .i6 y4.2.2.Index] 28], [bx b1 #[v7, v8] 25], c9] fr w ∧ RepSl gz y5.Rows v11 := ⟨_, Le.add _ _, S.freeze 0 rfl, OwnS.freeze (S.front 0 rfl) (h17.mono ((l13.trans l14).trans l15))⟩
    obtain ⟨y6, hy6, hm⟩ := bind_some hm
    refine wl_call0 (wg F rfl rfl rfl rfl hc2) rfl F rfl (changeforgeequal_Table_ok (fr := (fl [[bx b2 #[.i6 y4.2.2.Code, .i6 y4.2.2.Index] 28], [bx b1 #[v7, v8] 25], c9] fr)) y4.1 v7 (h18.mono ((l14.trans l15).trans l16)) v8 (h19.mono (l15.trans l16)) y5 v10 (h20.mono l16) v11 h21 S hy6) rfl tc12 rfl rfl ?_; clear F a S
    rintro _ a w ⟨g17, l17, S, rfl⟩ F; replace S : St g17 [[bx b2 #[.i6 y4.2.2.Code, .i6 y4.2.2.Index] 28], [bx b1 #[v7, v8] 25], c9] fr w := S
    refine dv_nx trivial ?_
    refine dv_et ok1 12 rfl (ev_pickT rfl hc2 rfl) F rfl fun a F=>?_
    refine dv_et ok1 13 rfl (ev_assign rfl) F rfl fun a F=>?_
    refine dv_fin ok1 ?_
    refine then_n ?_
    replace S : St g17 [] fr w := St.tail [] _ S
    exact ⟨y6, g17, F.sub ⟨rfl, trivial⟩, (((((l12.trans l13).trans l14).trans l15).trans l16).trans l17), S, hm⟩
   ·refine dv_skip ok1 9 rfl rfl rfl rfl rfl (ne_tf hc2) F rfl rfl fun a F=>?_
    refine dv_skip ok1 10 rfl rfl rfl rfl rfl (ne_tf hc2) F rfl rfl fun a F=>?_
    refine dv_skip ok1 11 rfl rfl rfl rfl rfl (ne_tf hc2) F rfl rfl fun a F=>?_
    refine dv_et ok1 12 rfl (ev_pickF rfl hc2 rfl) F rfl fun a F=>?_
    refine dv_et ok1 13 rfl (ev_assign rfl) F rfl fun a F=>?_
    refine dv_fin ok1 ?_
    refine then_n ?_
    replace S : St g10 [] fr w := St.tail [] _ S
    exact ⟨false, g10, F.sub ⟨rfl, trivial⟩, (Le.refl _), S, hm⟩
  ·refine dv_skip ok1 4 rfl rfl rfl rfl rfl (ne_tf hc1) F rfl rfl fun a F=>?_
   refine dv_skip ok1 5 rfl rfl rfl rfl rfl (ne_tf hc1) F rfl rfl fun a F=>?_
   refine dv_skip ok1 6 rfl rfl rfl rfl rfl (ne_tf hc1) F rfl rfl fun a F=>?_
   refine dv_et ok1 7 rfl (ev_pickF rfl hc1 rfl) F rfl fun a F=>?_
   refine dv_et ok1 8 rfl (ev_move rfl) F rfl fun a F=>?_
   refine dv_skip ok1 9 rfl rfl rfl rfl rfl (ne_tf rfl) F rfl rfl fun a F=>?_
   refine dv_skip ok1 10 rfl rfl rfl rfl rfl (ne_tf rfl) F rfl rfl fun a F=>?_
   refine dv_skip ok1 11 rfl rfl rfl rfl rfl (ne_tf rfl) F rfl rfl fun a F=>?_
   refine dv_et ok1 12 rfl (ev_pickF rfl rfl rfl) F rfl fun a F=>?_
   refine dv_et ok1 13 rfl (ev_assign rfl) F rfl fun a F=>?_
   refine dv_fin ok1 ?_
   refine then_n ?_
   replace S : St g10 [] fr w := St.tail [] _ S
   exact ⟨false, g10, F.sub ⟨rfl, trivial⟩, (Le.refl _), S, hm⟩
 ·clear F S hm; rintro a w ⟨x1, g11, F, l11, S, hm⟩
  refine then_n ?_
  refine wp_ret ?_
  obtain rfl := sinj hm
  refine post_r _ F rfl (ar_cons (resT rfl) ar_nil) ?_
  exact ⟨_, rfl, g11, ((((((((((l1.trans l2).trans l3).trans l4).trans l5).trans l6).trans l7).trans l8).trans l9).trans l10).trans l11), S, rfl⟩
end Go.Dc
