/- Walks: each function comes to what its model says. -/
import Derived.Test.YtgcjgmfdnhimmaaDcTab
import Derived.Test.YtgcjgmfdnhimmaaDcM
namespace Go.Dc
open Go Go.Proofs
set_option maxRecDepth 100000
set_option maxHeartbeats 4000000
set_option linter.unusedVariables false
theorem changeforgeref1_Growth_ok {g : Gh} {fr : Hl} {w : World} {r : Int} (h_ : Hunk) (vh_1 : Value) (hh_1 : RepSl g h_.Old vh_1) (vh_2 : Value) (hh_2 : RepSl g h_.New vh_2) (S : St g [] fr w) (hm : changeforgeref1_Growth h_ = some r) :
  Calls Try.prog 63 [.agg #[.int .i64 h_.At, vh_1, vh_2]].toArray w (fun en w' => ∃ v, en = .returned v ∧ ∃ (g' : Gh), Le g g' ∧ St g' [] fr w' ∧ .int .i64 r = v) := by
 unfold changeforgeref1_Growth at hm
 refine calls_enter (fn := Try.f63) Try.func63 rfl Try.ntmps63 (lb rfl) ?_
 intro a F
 replace F : Fr 10 a [(0, .agg #[.int .i64 h_.At, vh_1, vh_2])] := F
 refine wp_seq ?_
 refine wp_region_lit ?_
 refine wl_boxC (wn rfl) rfl rfl rfl F S rfl rfl ?_; clear F a S; rintro b1 a w F S
 refine wl_ev (wn rfl) (ev_assign rfl) F S rfl rfl ?_; clear F a; intro a F
 refine wpList_nil ?_
 replace F := F.sub (e' := [(1, bp b1 0)]) ⟨rfl, trivial⟩
 refine then_n ?_
 refine wp_seq ?_
 refine wp_region_lit ?_
 refine wl_ev (wn rfl) (ev_fieldAddr' tu60 tf60_2 (z := 0) ts31 rfl ⟨_, rfl⟩ rfl) F S rfl rfl ?_; clear F a; intro a F
 refine wl_ev (wn rfl) (ev_load1 tu31 rfl rfl (box_ptr (cells := [vh_2]) 0 rfl 2 rfl (lb rfl))) F S rfl rfl ?_; clear F a; intro a F
 refine wl_ev (wn rfl) (ev_lenSh hh_2 rfl tu31) F S rfl rfl ?_; clear F a; intro a F
 refine wl_ev (wn rfl) (ev_fieldAddr' tu60 tf60_1 (z := 0) ts31 rfl ⟨_, rfl⟩ rfl) F S rfl rfl ?_; clear F a; intro a F
 refine wl_ev (wn rfl) (ev_load1 tu31 rfl rfl (box_ptr (cells := [vh_1]) 0 rfl 1 rfl (lb rfl))) F S rfl rfl ?_; clear F a; intro a F
 refine wl_ev (wn rfl) (ev_lenSh hh_1 rfl tu31) F S rfl rfl ?_; clear F a; intro a F
 obtain ⟨z1, hz1, hm⟩ := bind_some hm
 refine wl_ev (wn rfl) (ev_int rfl rfl (bo_sub hz1)) F S rfl rfl ?_; clear F a; intro a F
 refine wl_ev (wn rfl) (ev_assign rfl) F S rfl rfl ?_; clear F a; intro a F
 refine wpList_nil ?_
 replace F := F.sub (e' := [(2, .int .i64 z1)]) ⟨rfl, trivial⟩
 refine then_n ?_
 refine wp_ret ?_
 obtain rfl := sinj hm
 refine post_r (fn := Try.f63) (rs := [.tmp 2]) [.int .i64 z1] F rfl (ar_cons (resT rfl) ar_nil) ?_
 replace S : St g [] fr w := St.tail [] _ S
 exact ⟨_, rfl, g, (Le.refl _), S, rfl⟩

theorem changeforgeref1_news_ok {g : Gh} {fr : Hl} {w : World} {r : Int × Int} (p_ : Patch) (vp_1 : Value) (hp_1 : RepSl g p_.Hunks vp_1) (i_ : Int) (S : St g [] fr w) (hm : changeforgeref1_news p_ i_ = some r) :
  Calls Try.prog 62 [.agg #[vp_1], .int .i64 i_].toArray w (fun en w' => ∃ v, en = .returned v ∧ ∃ (g' : Gh), Le g g' ∧ St g' [] fr w' ∧ .tuple #[.int .i64 r.1, .int .i64 r.2] = v) := by
 unfold changeforgeref1_news at hm
 refine calls_enter (fn := Try.f62) Try.func62 rfl Try.ntmps62 (lb rfl) ?_
 intro a F
 replace F : Fr 37 a [(0, .agg #[vp_1]), (1, .int .i64 i_)] := F
 refine wp_seq ?_
 refine wp_region_lit ?_
 refine wl_boxC (wn rfl) rfl rfl rfl F S rfl rfl ?_; clear F a S; rintro b1 a w F S
 refine wl_ev (wn rfl) (ev_assign rfl) F S rfl rfl ?_; clear F a; intro a F
 refine wl_ev (wn rfl) (ev_assign rfl) F S rfl rfl ?_; clear F a; intro a F
 refine wpList_nil ?_
 replace F := F.sub (e' := [(2, bp b1 0), (1, .int .i64 i_)]) ⟨rfl, rfl, trivial⟩
 refine then_n ?_
 refine wp_seq ?_
 refine wp_region_lit ?_
 refine wl_ev (wn rfl) (ev_fieldAddr' tu38 tf38_0 (z := 0) ts36 rfl ⟨_, rfl⟩ rfl) F S rfl rfl ?_; clear F a; intro a F
 refine wl_ev (wn rfl) (ev_load1 tu36 rfl rfl (box_ptr (cells := [vp_1]) 0 rfl 0 rfl (lb rfl))) F S rfl rfl ?_; clear F a; intro a F
 refine wl_ev (wn rfl) (ev_move rfl) F S rfl rfl ?_; clear F a; intro a F
 obtain ⟨y1, hy1, hm⟩ := bind_some hm
 obtain ⟨cs1, hr1, hp1⟩ := elemS hp_1 hy1
 obtain ⟨v1, v2, rfl, h1, h2⟩ := rep_Hunk hr1
 refine wl_ev (wn rfl) (ev_idxS hp_1 hy1 tu36 ts60 rfl rfl) F S rfl rfl ?_; clear F a; intro a F
 have hp2 := PtrC.field hp1 0 1 (lb rfl)
 have hp2 : PtrC g (addP (elemP vp_1 i_ 3) 0) [.int .i64 y1.At] := hp2
 refine wl_ev (wn rfl) (ev_fieldAddr' tu60 tf60_0 (z := 0) ts3 rfl hp1.ptr rfl) F S rfl rfl ?_; clear F a; intro a F
 refine wl_ev (wn rfl) (ev_load1 tu3 rfl rfl (ptr_mono (cks := [[(b1, .cells #[vp_1] 38 (0, 0))]]) (fr := fr) hp2 (Le.refl _))) F S rfl rfl ?_; clear F a; intro a F
 refine wl_ev (wn rfl) (ev_assign rfl) F S rfl rfl ?_; clear F a; intro a F
 refine wpList_nil ?_
 replace F := F.sub (e' := [(6, .int .i64 y1.At), (2, bp b1 0), (1, .int .i64 i_)]) ⟨rfl, rfl, rfl, trivial⟩
 refine then_n ?_
 refine wp_cut (fun a w => ∃ (x1 : Int) (g1 : Gh), Fr 37 a [(6, .int .i64 x1), (2, bp b1 0), (1, .int .i64 i_)] ∧ Le g g1 ∧ St g1 [[(b1, .cells #[vp_1] 38 (0, 0))]] fr w ∧ changeforgeref1_news.j1 p_ i_ x1 = some r) ?_ ?_
 ·refine wp_seq ?_
  refine wp_region_lit ?_
  refine wl_ev (wn rfl) (ev_assign rfl) F S rfl rfl ?_; clear F a; intro a F
  refine wpList_nil ?_
  refine then_n ?_
  refine wp_block ?_
  obtain ⟨r1, hr3, hm⟩ := bind_some hm
  have hmo1 := hm; clear hm
  refine wp_iter (σ := Int × Int) (ρ := Int) (m := fun s => changeforgeref1_news.l1 p_ i_ s.1 s.2) (I := fun s a w => match s with | (x2, x3) => ∃ (g2 : Gh), Fr 37 a [(7, .int .i64 x2), (6, .int .i64 x3), (2, bp b1 0), (1, .int .i64 i_)] ∧ Le g g2 ∧ St g2 [[(b1, .cells #[vp_1] 38 (0, 0))]] fr w) hr3 ?_ ?_
  ·dsimp only
   exact ⟨g, F.sub ⟨rfl, rfl, rfl, rfl, trivial⟩, (Le.refl _), S⟩
  ·clear F S; rintro ⟨x2, x3⟩ a w x4 ⟨g2, F, l2, S⟩ hx1 hfin1
   have hm : changeforgeref1_news.l1 p_ i_ x2 x3 = some x4 := hx1; clear hx1
   unfold changeforgeref1_news.l1 at hm
   refine wp_seq ?_
   refine wp_seq ?_
   refine wp_region_lit ?_
   refine wl_ev (wn rfl) (ev_move rfl) F S rfl rfl ?_; clear F a; intro a F
   refine wl_ev (wn rfl) (ev_move rfl) F S rfl rfl ?_; clear F a; intro a F
   refine wl_ev (wn rfl) (ev_int rfl rfl (bo_lss _ _ _ _)) F S rfl rfl ?_; clear F a; intro a F
   refine wpList_nil ?_
   replace F := F.sub (e' := [(16, .bool (decide (x2 < i_))), (7, .int .i64 x2), (6, .int .i64 x3), (2, bp b1 0), (1, .int .i64 i_)]) ⟨rfl, rfl, rfl, rfl, rfl, trivial⟩
   refine then_n ?_
   obtain ⟨hc1, hm⟩ | ⟨hc1, hm⟩ := ite_or hm
   ·refine wp_condT F rfl hc1 ?_
    refine wp_skip ?_
    refine then_n ?_
    refine wp_seq ?_
    refine wp_block ?_
    refine wp_region_lit ?_
    refine wl_ev (wn rfl) (ev_move rfl) F S rfl rfl ?_; clear F a; intro a F
    refine wl_ev (wn rfl) (ev_fieldAddr' tu38 tf38_0 (z := 0) ts36 rfl ⟨_, rfl⟩ rfl) F S rfl rfl ?_; clear F a; intro a F
    refine wl_ev (wn rfl) (ev_load1 tu36 rfl rfl (box_ptr (cells := [vp_1]) 0 rfl 0 rfl (lb rfl))) F S rfl rfl ?_; clear F a; intro a F
    refine wl_ev (wn rfl) (ev_move rfl) F S rfl rfl ?_; clear F a; intro a F
    obtain ⟨y3, hy3, hm⟩ := bind_some hm
    obtain ⟨cs3, hr4, hp5⟩ := elemS (hp_1.mono l2) hy3
    obtain ⟨v5, v6, rfl, h5, h6⟩ := rep_Hunk hr4
    refine wl_ev (wn rfl) (ev_idxS (hp_1.mono l2) hy3 tu36 ts60 rfl rfl) F S rfl rfl ?_; clear F a; intro a F
    refine wl_ev (wn rfl) (ev_loadA tu60 rfl (cs := [.int .i64 y3.At, v5, v6]) ts60 rfl (ptr_mono (cks := [[(b1, .cells #[vp_1] 38 (0, 0))]]) (fr := fr) hp5 (Le.refl _))) F S rfl rfl ?_; clear F a; intro a F
    obtain ⟨y4, hy4, hm⟩ := bind_some hm
    refine wl_call (wn rfl) rfl (xs := [.tmp 24]) (vs := [.agg #[.int .i64 y3.At, v5, v6]]) (cap := []) F rfl rfl tc63 (changeforgeref1_Growth_ok (g := g2) (fr := (fl [[(b1, .cells #[vp_1] 38 (0, 0))]] fr)) (w := w) y3 v5 h5 v6 h6 S hy4) rfl rfl ?_; clear F a S
    rintro _ a w ⟨g3, l3, S, rfl⟩ F; replace S : St g3 [[(b1, .cells #[vp_1] 38 (0, 0))]] fr w := S
    obtain ⟨z2, hz2, hm⟩ := bind_some hm
    refine wl_ev (wn rfl) (ev_int rfl rfl (bo_add hz2)) F S rfl rfl ?_; clear F a; intro a F
    refine wl_ev (wn rfl) (ev_assign rfl) F S rfl rfl ?_; clear F a; intro a F
    refine wpList_nil ?_
    replace F := F.sub (e' := [(6, .int .i64 z2), (7, .int .i64 x2), (2, bp b1 0), (1, .int .i64 i_)]) ⟨rfl, rfl, rfl, rfl, trivial⟩
    refine inb_n ?_
    refine then_n ?_
    refine wp_region_lit ?_
    refine wl_ev (wn rfl) (ev_move rfl) F S rfl rfl ?_; clear F a; intro a F
    obtain ⟨z3, hz3, hm⟩ := bind_some hm
    refine wl_ev (wn rfl) (ev_int rfl rfl (bo_add hz3)) F S rfl rfl ?_; clear F a; intro a F
    refine wl_ev (wn rfl) (ev_assign rfl) F S rfl rfl ?_; clear F a; intro a F
    refine wpList_nil ?_
    replace F := F.sub (e' := [(7, .int .i64 z3), (6, .int .i64 z2), (2, bp b1 0), (1, .int .i64 i_)]) ⟨rfl, rfl, rfl, rfl, trivial⟩
    refine then_n ?_
    obtain rfl := sinj hm
    refine ⟨_, rfl, ?_⟩
    dsimp only
    exact ⟨g3, F.sub ⟨rfl, rfl, rfl, rfl, trivial⟩, (l2.trans l3), S⟩
   ·refine wp_condF F rfl hc1 ?_
    refine wp_exit ?_
    refine then_e ?_
    refine then_e ?_
    refine inb_x ?_
    refine then_n ?_
    obtain rfl := sinj hm
    obtain rfl := hfin1 _ rfl
    clear hm
    have hm : (changeforgeref1_news.j1 p_ i_ x3 : Option (Int × Int)) = some _ := hmo1
    exact ⟨x3, g2, F.sub ⟨rfl, rfl, rfl, trivial⟩, l2, S, hm⟩
 ·clear F S hm; rintro a w ⟨x1, g1, F, l1, S, hm⟩
  refine wp_seq ?_
  refine wp_quiet mo (by kernel_rfl) S ?_
  refine wq_ev (wn rfl) (ev_move rfl) F rfl rfl ?_; clear F a; intro a F
  refine wq_ev (wn rfl) (ev_move rfl) F rfl rfl ?_; clear F a; intro a F
  refine wq_ev (wn rfl) (ev_fieldAddr' tu38 tf38_0 (z := 0) ts36 rfl ⟨_, rfl⟩ rfl) F rfl rfl ?_; clear F a; intro a F
  refine wq_ev (wn rfl) (ev_load1 tu36 rfl rfl (box_ptr (cells := [vp_1]) 0 rfl 0 rfl (lb rfl))) F rfl rfl ?_; clear F a; intro a F
  refine wq_ev (wn rfl) (ev_move rfl) F rfl rfl ?_; clear F a; intro a F
  obtain ⟨y2, hy2, hm⟩ := bind_some hm
  obtain ⟨cs2, hr2, hp3⟩ := elemS (hp_1.mono l1) hy2
  obtain ⟨v3, v4, rfl, h3, h4⟩ := rep_Hunk hr2
  refine wq_ev (wn rfl) (ev_idxS (hp_1.mono l1) hy2 tu36 ts60 rfl rfl) F rfl rfl ?_; clear F a; intro a F
  have hp4 := PtrC.field hp3 2 1 (lb rfl)
  have hp4 : PtrC g1 (addP (elemP vp_1 i_ 3) 2) [v4] := hp4
  refine wq_ev (wn rfl) (ev_fieldAddr' tu60 tf60_2 (z := 0) ts31 rfl hp3.ptr rfl) F rfl rfl ?_; clear F a; intro a F
  refine wq_ev (wn rfl) (ev_load1 tu31 rfl rfl (ptr_mono (cks := [[(b1, .cells #[vp_1] 38 (0, 0))]]) (fr := fr) hp4 (Le.refl _))) F rfl rfl ?_; clear F a; intro a F
  refine wq_ev (wn rfl) (ev_lenSh h4 rfl tu31) F rfl rfl ?_; clear F a; intro a F
  obtain ⟨z1, hz1, hm⟩ := bind_some hm
  refine wq_ev (wn rfl) (ev_int rfl rfl (bo_add hz1)) F rfl rfl ?_; clear F a; intro a F
  refine wq_ev (wn rfl) (ev_assign rfl) F rfl rfl ?_; clear F a; intro a F
  refine wq_ev (wn rfl) (ev_assign rfl) F rfl rfl ?_; clear F a; intro a F
  refine wq_nil ?_; clear S; intro w S
  replace F := F.sub (e' := [(5, .int .i64 z1), (4, .int .i64 x1)]) ⟨rfl, rfl, trivial⟩
  refine then_n ?_
  refine wp_ret ?_
  obtain rfl := sinj hm
  refine post_r (fn := Try.f62) (rs := [.tmp 4, .tmp 5]) [.int .i64 x1, .int .i64 z1] F rfl (ar_cons (resT rfl) (ar_cons (resT rfl) ar_nil)) ?_
  replace S : St g1 [] fr w := St.tail [] _ S
  exact ⟨_, rfl, g1, l1, S, rfl⟩

theorem changeforgeref1_moved_ok {g : Gh} {fr : Hl} {w : World} {r : Hunk} (h_ : Hunk) (vh_1 : Value) (hh_1 : RepSl g h_.Old vh_1) (vh_2 : Value) (hh_2 : RepSl g h_.New vh_2) (n_ : Int) (S : St g [] fr w) (hm : changeforgeref1_moved h_ n_ = some r) :
  Calls Try.prog 64 [.agg #[.int .i64 h_.At, vh_1, vh_2], .int .i64 n_].toArray w (fun en w' => ∃ v, en = .returned v ∧ ∃ (g' : Gh) (v1 v2 : Value), Le g g' ∧ St g' [] fr w' ∧ RepSl g' r.Old v1 ∧ RepSl g' r.New v2 ∧ .agg #[.int .i64 r.At, v1, v2] = v) := by
 unfold changeforgeref1_moved at hm
 refine calls_enter (fn := Try.f64) Try.func64 rfl Try.ntmps64 (lb rfl) ?_
 intro a F
 replace F : Fr 14 a [(0, .agg #[.int .i64 h_.At, vh_1, vh_2]), (1, .int .i64 n_)] := F
 refine wp_seq ?_
 refine wp_region_lit ?_
 refine wl_boxC (wn rfl) rfl rfl rfl F S rfl rfl ?_; clear F a S; rintro b1 a w F S
 refine wl_alloc (wn rfl) rfl tz60 (cs := [.int .i64 0, nilS, nilS]) rfl F S rfl rfl ?_; clear F a S; rintro b2 a w F S
 refine wpList_nil ?_
 replace F := F.sub (e' := [(4, bp b2 0), (2, bp b1 0), (1, .int .i64 n_)]) ⟨rfl, rfl, rfl, trivial⟩
 refine then_n ?_
 refine wp_seq ?_
 refine wp_region_lit ?_
 refine wl_ev (wn rfl) (ev_fieldAddr' tu60 tf60_0 (z := 0) ts3 rfl ⟨_, rfl⟩ rfl) F S rfl rfl ?_; clear F a; intro a F
 refine wl_ev (wn rfl) (ev_load1 tu3 rfl rfl (box_ptr (cells := [.int .i64 h_.At]) 1 rfl 0 rfl (lb rfl))) F S rfl rfl ?_; clear F a; intro a F
 refine wl_ev (wn rfl) (ev_move rfl) F S rfl rfl ?_; clear F a; intro a F
 obtain ⟨z1, hz1, hm⟩ := bind_some hm
 refine wl_ev (wn rfl) (ev_int rfl rfl (bo_add hz1)) F S rfl rfl ?_; clear F a; intro a F
 refine wl_ev (wn rfl) (ev_fieldAddr' tu60 tf60_1 (z := 0) ts31 rfl ⟨_, rfl⟩ rfl) F S rfl rfl ?_; clear F a; intro a F
 refine wl_ev (wn rfl) (ev_load1 tu31 rfl rfl (box_ptr (cells := [vh_1]) 1 rfl 1 rfl (lb rfl))) F S rfl rfl ?_; clear F a; intro a F
 refine wl_ev (wn rfl) (ev_fieldAddr' tu60 tf60_2 (z := 0) ts31 rfl ⟨_, rfl⟩ rfl) F S rfl rfl ?_; clear F a; intro a F
 refine wl_ev (wn rfl) (ev_load1 tu31 rfl rfl (box_ptr (cells := [vh_2]) 1 rfl 2 rfl (lb rfl))) F S rfl rfl ?_; clear F a; intro a F
 refine wl_ev (wn rfl) (ev_build (parts := [(0, .tmp 8), (1, .tmp 10), (2, .tmp 12)]) (vs := [(0, .int .i64 z1), (1, vh_1), (2, vh_2)]) rfl (fun w => tb60_0_1_2 z1 vh_1 (RepSl.isSl hh_1) vh_2 (RepSl.isSl hh_2) w)) F S rfl rfl ?_; clear F a; intro a F
 refine wl_storeC (wn rfl) rfl F S rfl rfl (vs := [.int .i64 z1, vh_1, vh_2]) rfl ts60 (one_cons rfl (one_cons hh_1.one (one_cons hh_2.one one_nil))) (k := 0) rfl (lb rfl) (c' := #[.int .i64 z1, vh_1, vh_2]) rfl rfl ?_; clear S; intro w S
 replace S : St g [[(b2, .cells #[.int .i64 z1, vh_1, vh_2] 60 (0, 0))], [(b1, .cells #[.int .i64 h_.At, vh_1, vh_2] 60 (0, 0))]] fr w := S
 refine wpList_nil ?_
 replace F := F.sub (e' := [(4, bp b2 0)]) ⟨rfl, trivial⟩
 refine then_n ?_
 refine wp_ret ?_
 obtain rfl := sinj hm
 refine post_r (fn := Try.f64) (rs := [.cell 4 60]) [.agg #[.int .i64 z1, vh_1, vh_2]] F rfl (ar_cons (resA rfl tu60 rfl ts60 (box_ptr (cells := [.int .i64 z1, vh_1, vh_2]) 0 rfl 0 rfl (lb rfl) w S)) ar_nil) ?_
 replace S : St g [] fr w := St.tail [] _ S
 exact ⟨_, rfl, g, vh_1, vh_2, (Le.refl _), S, hh_1, hh_2, rfl⟩
end Go.Dc
