/- Walks: each function comes to what its model says. -/
import Derived.Test.YtjmigclbilnajaaDoorDcTab
import Derived.Test.YtjmigclbilnajaaDoorDcM
import Derived.Test.YtjmigclbilnajaaDoorDcW7
import Derived.Test.YtjmigclbilnajaaDoorDcW9
namespace Go.Dc
open Go Go.Proofs
set_option maxRecDepth 100000
set_option maxHeartbeats 4000000
set_option linter.unusedVariables false
theorem changeforgelaw2_TreecommuteTwice_ok {g : Gh} {fr : Hl} {w : World} {r : Bool} (a_ : TreeChange) (va_1 : Value) (ha_1 : RepSl g a_.Lines va_1) (va_2 : Value) (ha_2 : RepSl g a_.Patch.Hunks va_2) (b_ : TreeChange) (vb_1 : Value) (hb_1 : RepSl g b_.Lines vb_1) (vb_2 : Value) (hb_2 : RepSl g b_.Patch.Hunks vb_2) (S : St g [] fr w) (hm : changeforgelaw2_TreecommuteTwice a_ b_ = some r) :
  Calls Tryd.prog 4 [.agg #[.i6 a_.Kind, .string a_.Path, .string a_.To, va_1, va_2], .agg #[.i6 b_.Kind, .string b_.Path, .string b_.To, vb_1, vb_2]].toArray w (fun en w' => ∃ v, en = .returned v ∧ ∃ (g' : Gh), Le g g' ∧ St g' [] fr w' ∧ .bool r = v) := by
 unfold changeforgelaw2_TreecommuteTwice at hm
 refine calls_enter (fn := Tryd.f4) Tryd.func4 rfl Tryd.ntmps4 (lb rfl) ?_
 intro a F
 replace F : Fr 56 a [(0, .agg #[.i6 a_.Kind, .string a_.Path, .string a_.To, va_1, va_2]), (1, .agg #[.i6 b_.Kind, .string b_.Path, .string b_.To, vb_1, vb_2])] := F
 refine wp_seq ?_
 refine wp_region_lit ?_
 refine wl_boxC (wn rfl) rfl rfl rfl F S rfl rfl ?_; clear F a S; rintro b1 a w F S
 refine wl_boxC (wn rfl) rfl rfl rfl F S rfl rfl ?_; clear F a S; rintro b2 a w F S
 refine wE (ev_assign rfl) F S rfl fun a F=>?_
 refine wpList_nil ?_
 refine then_n ?_
 refine wp_seq ?_
 refine wp_region_lit ?_
 refine wE (ev_loadA tu27 rfl (cs := [.i6 a_.Kind, .string a_.Path, .string a_.To, va_1, va_2]) ts27 rfl (box_ptr (cells := [.i6 a_.Kind, .string a_.Path, .string a_.To, va_1, va_2]) 1 rfl 0 rfl (lb rfl))) F S rfl fun a F=>?_
 refine wE (ev_loadA tu27 rfl (cs := [.i6 b_.Kind, .string b_.Path, .string b_.To, vb_1, vb_2]) ts27 rfl (box_ptr (cells := [.i6 b_.Kind, .string b_.Path, .string b_.To, vb_1, vb_2]) 0 rfl 0 rfl (lb rfl))) F S rfl fun a F=>?_
 obtain ⟨y1, hy1, hm⟩ := bind_some hm
 refine wl_call0 (wn rfl) rfl F rfl (treecommute_Commute_ok (fr := (fl [[bx b2 #[.i6 b_.Kind, .string b_.Path, .string b_.To, vb_1, vb_2] 27], [bx b1 #[.i6 a_.Kind, .string a_.Path, .string a_.To, va_1, va_2] 27]] fr)) a_ va_1 ha_1 va_2 ha_2 b_ vb_1 hb_1 vb_2 hb_2 S hy1) rfl tc12 rfl rfl ?_; clear F a S
 rintro _ a w ⟨g1, v1, v2, v3, v4, l1, S, h1, h2, h3, h4, rfl⟩ F; replace S : St g1 [[bx b2 #[.i6 b_.Kind, .string b_.Path, .string b_.To, vb_1, vb_2] 27], [bx b1 #[.i6 a_.Kind, .string a_.Path, .string a_.To, va_1, va_2] 27]] fr w := S
 refine wE (ev_move rfl) F S rfl fun a F=>?_
 refine wE (ev_extract rfl rfl) F S rfl fun a F=>?_
 refine wE (ev_extract rfl rfl) F S rfl fun a F=>?_
 refine wE (ev_extract rfl rfl) F S rfl fun a F=>?_
 refine wE (ev_extract rfl rfl) F S rfl fun a F=>?_
 refine wl_alloc (wn rfl) rfl tz27 (cs := [.i6 0, .string ByteArray.empty, .string ByteArray.empty, nilS, nilS]) rfl F S rfl rfl ?_; clear F a S; rintro b3 a w F S
 refine wl_alloc (wn rfl) rfl tz27 (cs := [.i6 0, .string ByteArray.empty, .string ByteArray.empty, nilS, nilS]) rfl F S rfl rfl ?_; clear F a S; rintro b4 a w F S
 refine wl_alloc (wn rfl) rfl tz29 (cs := [.i6 0, .i6 0]) rfl F S rfl rfl ?_; clear F a S; rintro b5 a w F S
 refine wl_storeC (wn rfl) rfl F S rfl rfl (vs := [.i6 y1.1.Kind, .string y1.1.Path, .string y1.1.To, v1, v2]) rfl ts27 (one_cons rfl (one_cons rfl (one_cons rfl (one_cons h1.one (one_cons h2.one one_nil))))) (k := 2) rfl (lb rfl) (c' := #[.i6 y1.1.Kind, .string y1.1.Path, .string y1.1.To, v1, v2]) rfl rfl ?_; clear S; intro w S
 refine wl_storeC (wn rfl) rfl F S rfl rfl (vs := [.i6 y1.2.1.Kind, .string y1.2.1.Path, .string y1.2.1.To, v3, v4]) rfl ts27 (one_cons rfl (one_cons rfl (one_cons rfl (one_cons h3.one (one_cons h4.one one_nil))))) (k := 1) rfl (lb rfl) (c' := #[.i6 y1.2.1.Kind, .string y1.2.1.Path, .string y1.2.1.To, v3, v4]) rfl rfl ?_; clear S; intro w S
 refine wE (ev_assign rfl) F S rfl fun a F=>?_
 refine wl_storeC (wn rfl) rfl F S rfl rfl (vs := [.i6 y1.2.2.2.Code, .i6 y1.2.2.2.Index]) rfl ts29 (one_cons rfl (one_cons rfl one_nil)) (k := 0) rfl (lb rfl) (c' := #[.i6 y1.2.2.2.Code, .i6 y1.2.2.2.Index]) rfl rfl ?_; clear S; intro w S
 refine wpList_nil ?_
 refine then_n ?_
 refine wp_seq ?_
 refine wp_seq ?_
 refine wp_region_lit ?_
 refine wE (ev_fieldAddr' tu29 tf29_0 (z := 0) ts3 rfl ⟨_, rfl⟩ rfl) F S rfl fun a F=>?_
 refine wE (ev_load1 tu3 rfl rfl (box_ptr (cells := [.i6 y1.2.2.2.Code]) 0 rfl 0 rfl (lb rfl))) F S rfl fun a F=>?_
 refine wE (ev_int rfl rfl (bo_neq _ _ _ _)) F S rfl fun a F=>?_
 refine wE (ev_move rfl) F S rfl fun a F=>?_
 obtain ⟨x1, hx1, hm⟩ := bind_some hm
 refine wl_cut 3 (fun a w' => w = w' ∧ Fr 56 a [(27, .bool x1), (6, bp b4 0), (5, bp b3 0), (3, bp b2 0), (2, bp b1 0)]) ?_ ?_
 ·clear hm; obtain ⟨hc1, hm⟩ | ⟨hc1, hm⟩ := ite_or hx1
  ·refine wl_skip rfl rfl rfl rfl (ne_ft hc1) F rfl rfl ?_; clear F a; intro a F
   refine wl_skip rfl rfl rfl rfl (ne_ft hc1) F rfl rfl ?_; clear F a; intro a F
   refine wE (ev_pickT rfl hc1 rfl) F S rfl fun a F=>?_
   obtain rfl := sinj hm
   refine wpList_nil (then_n ?_); exact ⟨rfl, F.sub ⟨rfl, rfl, rfl, rfl, rfl, trivial⟩⟩
  ·refine wl_ev (wg F rfl rfl rfl rfl hc1) (ev_move rfl) F S rfl rfl ?_; clear F a; intro a F
   refine wl_ev (wg F rfl rfl rfl rfl hc1) (ev_not rfl) F S rfl rfl ?_; clear F a; intro a F
   refine wE (ev_pickF rfl hc1 rfl) F S rfl fun a F=>?_
   obtain rfl := sinj hm
   refine wpList_nil (then_n ?_); exact ⟨rfl, F.sub ⟨rfl, rfl, rfl, rfl, rfl, trivial⟩⟩
 clear F; rintro a w' ⟨rfl, F⟩
 refine wpList_nil ?_
 refine then_n ?_
 obtain ⟨hc2, hm⟩ | ⟨hc2, hm⟩ := ite_or hm
 ·refine wp_condT F rfl hc2 ?_
  refine wp_seq ?_
  refine wp_region_lit ?_
  obtain ⟨y2, hy2, hm⟩ := bind_some hm
  refine wl_call0 (wn rfl) rfl F rfl (changeforgelaw2_followed_ok (fr := (fl [[bx b5 #[.i6 y1.2.2.2.Code, .i6 y1.2.2.2.Index] 29], [bx b4 #[.i6 y1.2.1.Kind, .string y1.2.1.Path, .string y1.2.1.To, v3, v4] 27], [bx b3 #[.i6 y1.1.Kind, .string y1.1.Path, .string y1.1.To, v1, v2] 27], [bx b2 #[.i6 b_.Kind, .string b_.Path, .string b_.To, vb_1, vb_2] 27], [bx b1 #[.i6 a_.Kind, .string a_.Path, .string a_.To, va_1, va_2] 27]] fr))  S hy2) rfl tc15 rfl rfl ?_; clear F a S
  rintro _ a w ⟨g2, l2, S, rfl⟩ F; replace S : St g2 [[bx b5 #[.i6 y1.2.2.2.Code, .i6 y1.2.2.2.Index] 29], [bx b4 #[.i6 y1.2.1.Kind, .string y1.2.1.Path, .string y1.2.1.To, v3, v4] 27], [bx b3 #[.i6 y1.1.Kind, .string y1.1.Path, .string y1.1.To, v1, v2] 27], [bx b2 #[.i6 b_.Kind, .string b_.Path, .string b_.To, vb_1, vb_2] 27], [bx b1 #[.i6 a_.Kind, .string a_.Path, .string a_.To, va_1, va_2] 27]] fr w := S
  refine wE (ev_assign rfl) F S rfl fun a F=>?_
  refine wpList_nil ?_
  refine then_n ?_
  refine wp_ret ?_
  refine then_r ?_
  obtain rfl := sinj hm
  refine post_r _ F rfl (ar_cons (resT rfl) ar_nil) ?_
  replace S : St g2 [] fr w := St.tail [] _ S
  exact ⟨_, rfl, g2, (l1.trans l2), S, rfl⟩
 ·refine wp_condF F rfl hc2 ?_
  refine wp_skip ?_
  refine then_n ?_
  refine wp_seq ?_
  refine wp_region_lit ?_
  refine wE (ev_loadA tu27 rfl (cs := [.i6 y1.1.Kind, .string y1.1.Path, .string y1.1.To, v1, v2]) ts27 rfl (box_ptr (cells := [.i6 y1.1.Kind, .string y1.1.Path, .string y1.1.To, v1, v2]) 2 rfl 0 rfl (lb rfl))) F S rfl fun a F=>?_
  refine wE (ev_loadA tu27 rfl (cs := [.i6 y1.2.1.Kind, .string y1.2.1.Path, .string y1.2.1.To, v3, v4]) ts27 rfl (box_ptr (cells := [.i6 y1.2.1.Kind, .string y1.2.1.Path, .string y1.2.1.To, v3, v4]) 1 rfl 0 rfl (lb rfl))) F S rfl fun a F=>?_
  obtain ⟨y3, hy3, hm⟩ := bind_some hm
  refine wl_call0 (wn rfl) rfl F rfl (treecommute_Commute_ok (fr := (fl [[bx b5 #[.i6 y1.2.2.2.Code, .i6 y1.2.2.2.Index] 29], [bx b4 #[.i6 y1.2.1.Kind, .string y1.2.1.Path, .string y1.2.1.To, v3, v4] 27], [bx b3 #[.i6 y1.1.Kind, .string y1.1.Path, .string y1.1.To, v1, v2] 27], [bx b2 #[.i6 b_.Kind, .string b_.Path, .string b_.To, vb_1, vb_2] 27], [bx b1 #[.i6 a_.Kind, .string a_.Path, .string a_.To, va_1, va_2] 27]] fr)) y1.1 v1 h1 v2 h2 y1.2.1 v3 h3 v4 h4 S hy3) rfl tc12 rfl rfl ?_; clear F a S
  rintro _ a w ⟨g3, v5, v6, v7, v8, l3, S, h5, h6, h7, h8, rfl⟩ F; replace S : St g3 [[bx b5 #[.i6 y1.2.2.2.Code, .i6 y1.2.2.2.Index] 29], [bx b4 #[.i6 y1.2.1.Kind, .string y1.2.1.Path, .string y1.2.1.To, v3, v4] 27], [bx b3 #[.i6 y1.1.Kind, .string y1.1.Path, .string y1.1.To, v1, v2] 27], [bx b2 #[.i6 b_.Kind, .string b_.Path, .string b_.To, vb_1, vb_2] 27], [bx b1 #[.i6 a_.Kind, .string a_.Path, .string a_.To, va_1, va_2] 27]] fr w := S
  refine wE (ev_move rfl) F S rfl fun a F=>?_
  refine wE (ev_extract rfl rfl) F S rfl fun a F=>?_
  refine wE (ev_extract rfl rfl) F S rfl fun a F=>?_
  refine wE (ev_extract rfl rfl) F S rfl fun a F=>?_
  refine wE (ev_extract rfl rfl) F S rfl fun a F=>?_
  refine wl_alloc (wn rfl) rfl tz27 (cs := [.i6 0, .string ByteArray.empty, .string ByteArray.empty, nilS, nilS]) rfl F S rfl rfl ?_; clear F a S; rintro b6 a w F S
  refine wl_alloc (wn rfl) rfl tz27 (cs := [.i6 0, .string ByteArray.empty, .string ByteArray.empty, nilS, nilS]) rfl F S rfl rfl ?_; clear F a S; rintro b7 a w F S
  refine wl_alloc (wn rfl) rfl tz29 (cs := [.i6 0, .i6 0]) rfl F S rfl rfl ?_; clear F a S; rintro b8 a w F S
  refine wl_storeC (wn rfl) rfl F S rfl rfl (vs := [.i6 y3.1.Kind, .string y3.1.Path, .string y3.1.To, v5, v6]) rfl ts27 (one_cons rfl (one_cons rfl (one_cons rfl (one_cons h5.one (one_cons h6.one one_nil))))) (k := 2) rfl (lb rfl) (c' := #[.i6 y3.1.Kind, .string y3.1.Path, .string y3.1.To, v5, v6]) rfl rfl ?_; clear S; intro w S
  refine wl_storeC (wn rfl) rfl F S rfl rfl (vs := [.i6 y3.2.1.Kind, .string y3.2.1.Path, .string y3.2.1.To, v7, v8]) rfl ts27 (one_cons rfl (one_cons rfl (one_cons rfl (one_cons h7.one (one_cons h8.one one_nil))))) (k := 1) rfl (lb rfl) (c' := #[.i6 y3.2.1.Kind, .string y3.2.1.Path, .string y3.2.1.To, v7, v8]) rfl rfl ?_; clear S; intro w S
  refine wE (ev_assign rfl) F S rfl fun a F=>?_
  refine wl_storeC (wn rfl) rfl F S rfl rfl (vs := [.i6 y3.2.2.2.Code, .i6 y3.2.2.2.Index]) rfl ts29 (one_cons rfl (one_cons rfl one_nil)) (k := 0) rfl (lb rfl) (c' := #[.i6 y3.2.2.2.Code, .i6 y3.2.2.2.Index]) rfl rfl ?_; clear S; intro w S
  refine wpList_nil ?_
  refine then_n ?_
  refine wp_seq ?_
  refine wp_region_lit ?_
  refine wE (ev_fieldAddr' tu29 tf29_0 (z := 0) ts3 rfl ⟨_, rfl⟩ rfl) F S rfl fun a F=>?_
  refine wE (ev_load1 tu3 rfl rfl (box_ptr (cells := [.i6 y3.2.2.2.Code]) 0 rfl 0 rfl (lb rfl))) F S rfl fun a F=>?_
  refine wE (ev_int rfl rfl (bo_eql _ _ _ _)) F S rfl fun a F=>?_
  refine wE (ev_move rfl) F S rfl fun a F=>?_
  obtain ⟨x2, hx2, hm⟩ := bind_some hm
  refine wl_cut 2 (fun a w' => w = w' ∧ Fr 56 a [(42, .bool x2), (10, bp b7 0), (9, bp b6 0), (3, bp b2 0), (2, bp b1 0)]) ?_ ?_
  ·clear hm; obtain ⟨hc3, hm⟩ | ⟨hc3, hm⟩ := ite_or hx2
   ·refine wl_ev (wg F rfl rfl rfl rfl hc3) (ev_move rfl) F S rfl rfl ?_; clear F a; intro a F
    refine wE (ev_pickT rfl hc3 rfl) F S rfl fun a F=>?_
    obtain rfl := sinj hm
    refine wpList_nil (then_n ?_); exact ⟨rfl, F.sub ⟨rfl, rfl, rfl, rfl, rfl, trivial⟩⟩
   ·refine wl_skip rfl rfl rfl rfl (ne_tf hc3) F rfl rfl ?_; clear F a; intro a F
    refine wE (ev_pickF rfl hc3 rfl) F S rfl fun a F=>?_
    obtain rfl := sinj hm
    refine wpList_nil (then_n ?_); exact ⟨rfl, F.sub ⟨rfl, rfl, rfl, rfl, rfl, trivial⟩⟩
  clear F; rintro a w' ⟨rfl, F⟩
  refine wE (ev_move rfl) F S rfl fun a F=>?_
  obtain ⟨x3, hx3, hm⟩ := bind_some hm
  refine wl_cut 4 (fun a w => ∃ g4, Fr 56 a [(47, .bool x3), (10, bp b7 0), (3, bp b2 0)] ∧ Le g3 g4 ∧ St g4 [[bx b8 #[.i6 y3.2.2.2.Code, .i6 y3.2.2.2.Index] 29], [bx b7 #[.i6 y3.2.1.Kind, .string y3.2.1.Path, .string y3.2.1.To, v7, v8] 27], [bx b6 #[.i6 y3.1.Kind, .string y3.1.Path, .string y3.1.To, v5, v6] 27], [bx b5 #[.i6 y1.2.2.2.Code, .i6 y1.2.2.2.Index] 29], [bx b4 #[.i6 y1.2.1.Kind, .string y1.2.1.Path, .string y1.2.1.To, v3, v4] 27], [bx b3 #[.i6 y1.1.Kind, .string y1.1.Path, .string y1.1.To, v1, v2] 27], [bx b2 #[.i6 b_.Kind, .string b_.Path, .string b_.To, vb_1, vb_2] 27], [bx b1 #[.i6 a_.Kind, .string a_.Path, .string a_.To, va_1, va_2] 27]] fr w) ?_ ?_
  ·clear hm; obtain ⟨hc4, hm⟩ | ⟨hc4, hm⟩ := ite_or hx3
   ·refine wl_ev (wg F rfl rfl rfl rfl hc4) (ev_loadA tu27 rfl (cs := [.i6 y3.1.Kind, .string y3.1.Path, .string y3.1.To, v5, v6]) ts27 rfl (box_ptr (cells := [.i6 y3.1.Kind, .string y3.1.Path, .string y3.1.To, v5, v6]) 2 rfl 0 rfl (lb rfl))) F S rfl rfl ?_; clear F a; intro a F
    refine wl_ev (wg F rfl rfl rfl rfl hc4) (ev_loadA tu27 rfl (cs := [.i6 a_.Kind, .string a_.Path, .string a_.To, va_1, va_2]) ts27 rfl (box_ptr (cells := [.i6 a_.Kind, .string a_.Path, .string a_.To, va_1, va_2]) 7 rfl 0 rfl (lb rfl))) F S rfl rfl ?_; clear F a; intro a F
    obtain ⟨y4, hy4, hm⟩ := bind_some hm
    refine wl_call0 (wg F rfl rfl rfl rfl hc4) rfl F rfl (changeforgeequal_Change_ok (fr := (fl [[bx b8 #[.i6 y3.2.2.2.Code, .i6 y3.2.2.2.Index] 29], [bx b7 #[.i6 y3.2.1.Kind, .string y3.2.1.Path, .string y3.2.1.To, v7, v8] 27], [bx b6 #[.i6 y3.1.Kind, .string y3.1.Path, .string y3.1.To, v5, v6] 27], [bx b5 #[.i6 y1.2.2.2.Code, .i6 y1.2.2.2.Index] 29], [bx b4 #[.i6 y1.2.1.Kind, .string y1.2.1.Path, .string y1.2.1.To, v3, v4] 27], [bx b3 #[.i6 y1.1.Kind, .string y1.1.Path, .string y1.1.To, v1, v2] 27], [bx b2 #[.i6 b_.Kind, .string b_.Path, .string b_.To, vb_1, vb_2] 27], [bx b1 #[.i6 a_.Kind, .string a_.Path, .string a_.To, va_1, va_2] 27]] fr)) y3.1 v5 h5 v6 h6 a_ va_1 (ha_1.mono (l1.trans l3)) va_2 (ha_2.mono (l1.trans l3)) S hy4) rfl tc14 rfl rfl ?_; clear F a S
    rintro _ a w ⟨g5, l5, S, rfl⟩ F; replace S : St g5 [[bx b8 #[.i6 y3.2.2.2.Code, .i6 y3.2.2.2.Index] 29], [bx b7 #[.i6 y3.2.1.Kind, .string y3.2.1.Path, .string y3.2.1.To, v7, v8] 27], [bx b6 #[.i6 y3.1.Kind, .string y3.1.Path, .string y3.1.To, v5, v6] 27], [bx b5 #[.i6 y1.2.2.2.Code, .i6 y1.2.2.2.Index] 29], [bx b4 #[.i6 y1.2.1.Kind, .string y1.2.1.Path, .string y1.2.1.To, v3, v4] 27], [bx b3 #[.i6 y1.1.Kind, .string y1.1.Path, .string y1.1.To, v1, v2] 27], [bx b2 #[.i6 b_.Kind, .string b_.Path, .string b_.To, vb_1, vb_2] 27], [bx b1 #[.i6 a_.Kind, .string a_.Path, .string a_.To, va_1, va_2] 27]] fr w := S
    refine wE (ev_pickT rfl hc4 rfl) F S rfl fun a F=>?_
    obtain rfl := sinj hm
    refine wpList_nil (then_n ?_); exact ⟨g5, F.sub ⟨rfl, rfl, rfl, trivial⟩, l5, S⟩
   ·refine wl_skip rfl rfl rfl rfl (ne_tf hc4) F rfl rfl ?_; clear F a; intro a F
    refine wl_skip rfl rfl rfl rfl (ne_tf hc4) F rfl rfl ?_; clear F a; intro a F
    refine wl_skip rfl rfl rfl rfl (ne_tf hc4) F rfl rfl ?_; clear F a; intro a F
    refine wE (ev_pickF rfl hc4 rfl) F S rfl fun a F=>?_
    obtain rfl := sinj hm
    refine wpList_nil (then_n ?_); exact ⟨g3, F.sub ⟨rfl, rfl, rfl, trivial⟩, (Le.refl _), S⟩
  clear F S; rintro a w ⟨g4, F, l4, S⟩
  refine wE (ev_move rfl) F S rfl fun a F=>?_
  obtain ⟨x4, hx4, hm⟩ := bind_some hm
  refine wl_cut 4 (fun a w => ∃ g6, Fr 56 a [(52, .bool x4)] ∧ Le g4 g6 ∧ St g6 [[bx b8 #[.i6 y3.2.2.2.Code, .i6 y3.2.2.2.Index] 29], [bx b7 #[.i6 y3.2.1.Kind, .string y3.2.1.Path, .string y3.2.1.To, v7, v8] 27], [bx b6 #[.i6 y3.1.Kind, .string y3.1.Path, .string y3.1.To, v5, v6] 27], [bx b5 #[.i6 y1.2.2.2.Code, .i6 y1.2.2.2.Index] 29], [bx b4 #[.i6 y1.2.1.Kind, .string y1.2.1.Path, .string y1.2.1.To, v3, v4] 27], [bx b3 #[.i6 y1.1.Kind, .string y1.1.Path, .string y1.1.To, v1, v2] 27], [bx b2 #[.i6 b_.Kind, .string b_.Path, .string b_.To, vb_1, vb_2] 27], [bx b1 #[.i6 a_.Kind, .string a_.Path, .string a_.To, va_1, va_2] 27]] fr w) ?_ ?_
  ·clear hm; obtain ⟨hc5, hm⟩ | ⟨hc5, hm⟩ := ite_or hx4
   ·refine wl_ev (wg F rfl rfl rfl rfl hc5) (ev_loadA tu27 rfl (cs := [.i6 y3.2.1.Kind, .string y3.2.1.Path, .string y3.2.1.To, v7, v8]) ts27 rfl (box_ptr (cells := [.i6 y3.2.1.Kind, .string y3.2.1.Path, .string y3.2.1.To, v7, v8]) 1 rfl 0 rfl (lb rfl))) F S rfl rfl ?_; clear F a; intro a F
    refine wl_ev (wg F rfl rfl rfl rfl hc5) (ev_loadA tu27 rfl (cs := [.i6 b_.Kind, .string b_.Path, .string b_.To, vb_1, vb_2]) ts27 rfl (box_ptr (cells := [.i6 b_.Kind, .string b_.Path, .string b_.To, vb_1, vb_2]) 6 rfl 0 rfl (lb rfl))) F S rfl rfl ?_; clear F a; intro a F
    obtain ⟨y5, hy5, hm⟩ := bind_some hm
    refine wl_call0 (wg F rfl rfl rfl rfl hc5) rfl F rfl (changeforgeequal_Change_ok (fr := (fl [[bx b8 #[.i6 y3.2.2.2.Code, .i6 y3.2.2.2.Index] 29], [bx b7 #[.i6 y3.2.1.Kind, .string y3.2.1.Path, .string y3.2.1.To, v7, v8] 27], [bx b6 #[.i6 y3.1.Kind, .string y3.1.Path, .string y3.1.To, v5, v6] 27], [bx b5 #[.i6 y1.2.2.2.Code, .i6 y1.2.2.2.Index] 29], [bx b4 #[.i6 y1.2.1.Kind, .string y1.2.1.Path, .string y1.2.1.To, v3, v4] 27], [bx b3 #[.i6 y1.1.Kind, .string y1.1.Path, .string y1.1.To, v1, v2] 27], [bx b2 #[.i6 b_.Kind, .string b_.Path, .string b_.To, vb_1, vb_2] 27], [bx b1 #[.i6 a_.Kind, .string a_.Path, .string a_.To, va_1, va_2] 27]] fr)) y3.2.1 v7 (h7.mono l4) v8 (h8.mono l4) b_ vb_1 (hb_1.mono ((l1.trans l3).trans l4)) vb_2 (hb_2.mono ((l1.trans l3).trans l4)) S hy5) rfl tc14 rfl rfl ?_; clear F a S
    rintro _ a w ⟨g7, l7, S, rfl⟩ F; replace S : St g7 [[bx b8 #[.i6 y3.2.2.2.Code, .i6 y3.2.2.2.Index] 29], [bx b7 #[.i6 y3.2.1.Kind, .string y3.2.1.Path, .string y3.2.1.To, v7, v8] 27], [bx b6 #[.i6 y3.1.Kind, .string y3.1.Path, .string y3.1.To, v5, v6] 27], [bx b5 #[.i6 y1.2.2.2.Code, .i6 y1.2.2.2.Index] 29], [bx b4 #[.i6 y1.2.1.Kind, .string y1.2.1.Path, .string y1.2.1.To, v3, v4] 27], [bx b3 #[.i6 y1.1.Kind, .string y1.1.Path, .string y1.1.To, v1, v2] 27], [bx b2 #[.i6 b_.Kind, .string b_.Path, .string b_.To, vb_1, vb_2] 27], [bx b1 #[.i6 a_.Kind, .string a_.Path, .string a_.To, va_1, va_2] 27]] fr w := S
    refine wE (ev_pickT rfl hc5 rfl) F S rfl fun a F=>?_
    obtain rfl := sinj hm
    refine wpList_nil (then_n ?_); exact ⟨g7, F.sub ⟨rfl, trivial⟩, l7, S⟩
   ·refine wl_skip rfl rfl rfl rfl (ne_tf hc5) F rfl rfl ?_; clear F a; intro a F
    refine wl_skip rfl rfl rfl rfl (ne_tf hc5) F rfl rfl ?_; clear F a; intro a F
    refine wl_skip rfl rfl rfl rfl (ne_tf hc5) F rfl rfl ?_; clear F a; intro a F
    refine wE (ev_pickF rfl hc5 rfl) F S rfl fun a F=>?_
    obtain rfl := sinj hm
    refine wpList_nil (then_n ?_); exact ⟨g4, F.sub ⟨rfl, trivial⟩, (Le.refl _), S⟩
  clear F S; rintro a w ⟨g6, F, l6, S⟩
  refine wE (ev_move rfl) F S rfl fun a F=>?_
  obtain ⟨x5, hx5, hm⟩ := bind_some hm
  refine wl_cut 2 (fun a w => ∃ g8, Fr 56 a [(55, .bool x5)] ∧ Le g6 g8 ∧ St g8 [[bx b8 #[.i6 y3.2.2.2.Code, .i6 y3.2.2.2.Index] 29], [bx b7 #[.i6 y3.2.1.Kind, .string y3.2.1.Path, .string y3.2.1.To, v7, v8] 27], [bx b6 #[.i6 y3.1.Kind, .string y3.1.Path, .string y3.1.To, v5, v6] 27], [bx b5 #[.i6 y1.2.2.2.Code, .i6 y1.2.2.2.Index] 29], [bx b4 #[.i6 y1.2.1.Kind, .string y1.2.1.Path, .string y1.2.1.To, v3, v4] 27], [bx b3 #[.i6 y1.1.Kind, .string y1.1.Path, .string y1.1.To, v1, v2] 27], [bx b2 #[.i6 b_.Kind, .string b_.Path, .string b_.To, vb_1, vb_2] 27], [bx b1 #[.i6 a_.Kind, .string a_.Path, .string a_.To, va_1, va_2] 27]] fr w) ?_ ?_
  ·clear hm; obtain ⟨hc6, hm⟩ | ⟨hc6, hm⟩ := ite_or hx5
   ·obtain ⟨y6, hy6, hm⟩ := bind_some hm
    refine wl_call0 (wg F rfl rfl rfl rfl hc6) rfl F rfl (changeforgelaw2_followed_ok (fr := (fl [[bx b8 #[.i6 y3.2.2.2.Code, .i6 y3.2.2.2.Index] 29], [bx b7 #[.i6 y3.2.1.Kind, .string y3.2.1.Path, .string y3.2.1.To, v7, v8] 27], [bx b6 #[.i6 y3.1.Kind, .string y3.1.Path, .string y3.1.To, v5, v6] 27], [bx b5 #[.i6 y1.2.2.2.Code, .i6 y1.2.2.2.Index] 29], [bx b4 #[.i6 y1.2.1.Kind, .string y1.2.1.Path, .string y1.2.1.To, v3, v4] 27], [bx b3 #[.i6 y1.1.Kind, .string y1.1.Path, .string y1.1.To, v1, v2] 27], [bx b2 #[.i6 b_.Kind, .string b_.Path, .string b_.To, vb_1, vb_2] 27], [bx b1 #[.i6 a_.Kind, .string a_.Path, .string a_.To, va_1, va_2] 27]] fr))  S hy6) rfl tc15 rfl rfl ?_; clear F a S
    rintro _ a w ⟨g9, l9, S, rfl⟩ F; replace S : St g9 [[bx b8 #[.i6 y3.2.2.2.Code, .i6 y3.2.2.2.Index] 29], [bx b7 #[.i6 y3.2.1.Kind, .string y3.2.1.Path, .string y3.2.1.To, v7, v8] 27], [bx b6 #[.i6 y3.1.Kind, .string y3.1.Path, .string y3.1.To, v5, v6] 27], [bx b5 #[.i6 y1.2.2.2.Code, .i6 y1.2.2.2.Index] 29], [bx b4 #[.i6 y1.2.1.Kind, .string y1.2.1.Path, .string y1.2.1.To, v3, v4] 27], [bx b3 #[.i6 y1.1.Kind, .string y1.1.Path, .string y1.1.To, v1, v2] 27], [bx b2 #[.i6 b_.Kind, .string b_.Path, .string b_.To, vb_1, vb_2] 27], [bx b1 #[.i6 a_.Kind, .string a_.Path, .string a_.To, va_1, va_2] 27]] fr w := S
    refine wE (ev_pickT rfl hc6 rfl) F S rfl fun a F=>?_
    obtain rfl := sinj hm
    refine wpList_nil (then_n ?_); exact ⟨g9, F.sub ⟨rfl, trivial⟩, l9, S⟩
   ·refine wl_skip rfl rfl rfl rfl (ne_tf hc6) F rfl rfl ?_; clear F a; intro a F
    refine wE (ev_pickF rfl hc6 rfl) F S rfl fun a F=>?_
    obtain rfl := sinj hm
    refine wpList_nil (then_n ?_); exact ⟨g6, F.sub ⟨rfl, trivial⟩, (Le.refl _), S⟩
  clear F S; rintro a w ⟨g8, F, l8, S⟩
  refine wE (ev_assign rfl) F S rfl fun a F=>?_
  refine wpList_nil ?_
  refine then_n ?_
  refine wp_ret ?_
  obtain rfl := sinj hm
  refine post_r _ F rfl (ar_cons (resT rfl) ar_nil) ?_
  replace S : St g8 [] fr w := St.tail [] _ S
  exact ⟨_, rfl, g8, ((((l1.trans l3).trans l4).trans l6).trans l8), S, rfl⟩
end Go.Dc
