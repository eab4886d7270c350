/- Walks: each function comes to what its model says. -/
import Derived.Test.YtjmigclbilnajaaDoorDcTab
import Derived.Test.YtjmigclbilnajaaDoorDcM
import Derived.Test.YtjmigclbilnajaaDoorDcW10
import Derived.Test.YtjmigclbilnajaaDoorDcW18
import Derived.Test.YtjmigclbilnajaaDoorDcW7
namespace Go.Dc
open Go Go.Proofs
set_option maxRecDepth 100000
set_option maxHeartbeats 4000000
set_option linter.unusedVariables false
theorem changeforgelaw2_TreecommuteSameEffect_ok {g : Gh} {fr : Hl} {w : World} {r : Bool} (a_ : TreeChange) (va_1 : Value) (ha_1 : RepSl g a_.Lines va_1) (va_2 : Value) (ha_2 : RepSl g a_.Patch.Hunks va_2) (b_ : TreeChange) (vb_1 : Value) (hb_1 : RepSl g b_.Lines vb_1) (vb_2 : Value) (hb_2 : RepSl g b_.Patch.Hunks vb_2) (t_ : FileTree) (vt_1 : Value) (ht_1 : RepSl g t_.Files vt_1) (S : St g [] fr w) (hm : changeforgelaw2_TreecommuteSameEffect a_ b_ t_ = some r) :
  Calls Tryd.prog 11 [.agg #[.i6 a_.Kind, .string a_.Path, .string a_.To, va_1, va_2], .agg #[.i6 b_.Kind, .string b_.Path, .string b_.To, vb_1, vb_2], .agg #[vt_1]].toArray w (fun en w' => ∃ v, en = .returned v ∧ ∃ (g' : Gh), Le g g' ∧ St g' [] fr w' ∧ .bool r = v) := by
 unfold changeforgelaw2_TreecommuteSameEffect at hm
 refine calls_enter (fn := Tryd.f11) Tryd.func11 rfl Tryd.ntmps11 (lb rfl) ?_
 intro a F
 replace F : Fr 74 a [(0, .agg #[.i6 a_.Kind, .string a_.Path, .string a_.To, va_1, va_2]), (1, .agg #[.i6 b_.Kind, .string b_.Path, .string b_.To, vb_1, vb_2]), (2, .agg #[vt_1])] := F
 refine wp_seq ?_
 refine wp_region_lit ?_
 refine wl_boxC (wn rfl) rfl rfl rfl F S rfl rfl ?_; clear F a S; rintro b1 a w F S
 refine wl_boxC (wn rfl) rfl rfl rfl F S rfl rfl ?_; clear F a S; rintro b2 a w F S
 refine wl_boxC (wn rfl) rfl rfl rfl F S rfl rfl ?_; clear F a S; rintro b3 a w F S
 refine wE (ev_assign rfl) F S rfl fun a F=>?_
 refine wpList_nil ?_
 refine then_n ?_
 refine wp_seq ?_
 refine wp_region_lit ?_
 refine wE (ev_loadA tu27 rfl (cs := [.i6 a_.Kind, .string a_.Path, .string a_.To, va_1, va_2]) ts27 rfl (box_ptr (cells := [.i6 a_.Kind, .string a_.Path, .string a_.To, va_1, va_2]) 2 rfl 0 rfl (lb rfl))) F S rfl fun a F=>?_
 refine wE (ev_loadA tu27 rfl (cs := [.i6 b_.Kind, .string b_.Path, .string b_.To, vb_1, vb_2]) ts27 rfl (box_ptr (cells := [.i6 b_.Kind, .string b_.Path, .string b_.To, vb_1, vb_2]) 1 rfl 0 rfl (lb rfl))) F S rfl fun a F=>?_
 obtain ⟨y1, hy1, hm⟩ := bind_some hm
 refine wl_call0 (wn rfl) rfl F rfl (treecommute_Commute_ok (fr := (fl [[bx b3 #[vt_1] 44], [bx b2 #[.i6 b_.Kind, .string b_.Path, .string b_.To, vb_1, vb_2] 27], [bx b1 #[.i6 a_.Kind, .string a_.Path, .string a_.To, va_1, va_2] 27]] fr)) a_ va_1 ha_1 va_2 ha_2 b_ vb_1 hb_1 vb_2 hb_2 S hy1) rfl tc12 rfl rfl ?_; clear F a S
 rintro _ a w ⟨g1, v1, v2, v3, v4, l1, S, h1, h2, h3, h4, rfl⟩ F; replace S : St g1 [[bx b3 #[vt_1] 44], [bx b2 #[.i6 b_.Kind, .string b_.Path, .string b_.To, vb_1, vb_2] 27], [bx b1 #[.i6 a_.Kind, .string a_.Path, .string a_.To, va_1, va_2] 27]] fr w := S
 refine wE (ev_move rfl) F S rfl fun a F=>?_
 refine wE (ev_extract rfl rfl) F S rfl fun a F=>?_
 refine wE (ev_extract rfl rfl) F S rfl fun a F=>?_
 refine wE (ev_extract rfl rfl) F S rfl fun a F=>?_
 refine wE (ev_extract rfl rfl) F S rfl fun a F=>?_
 refine wl_alloc (wn rfl) rfl tz27 (cs := [.i6 0, .string ByteArray.empty, .string ByteArray.empty, nilS, nilS]) rfl F S rfl rfl ?_; clear F a S; rintro b4 a w F S
 refine wl_alloc (wn rfl) rfl tz27 (cs := [.i6 0, .string ByteArray.empty, .string ByteArray.empty, nilS, nilS]) rfl F S rfl rfl ?_; clear F a S; rintro b5 a w F S
 refine wl_alloc (wn rfl) rfl tz29 (cs := [.i6 0, .i6 0]) rfl F S rfl rfl ?_; clear F a S; rintro b6 a w F S
 refine wl_storeC (wn rfl) rfl F S rfl rfl (vs := [.i6 y1.1.Kind, .string y1.1.Path, .string y1.1.To, v1, v2]) rfl ts27 (one_cons rfl (one_cons rfl (one_cons rfl (one_cons h1.one (one_cons h2.one one_nil))))) (k := 2) rfl (lb rfl) (c' := #[.i6 y1.1.Kind, .string y1.1.Path, .string y1.1.To, v1, v2]) rfl rfl ?_; clear S; intro w S
 refine wl_storeC (wn rfl) rfl F S rfl rfl (vs := [.i6 y1.2.1.Kind, .string y1.2.1.Path, .string y1.2.1.To, v3, v4]) rfl ts27 (one_cons rfl (one_cons rfl (one_cons rfl (one_cons h3.one (one_cons h4.one one_nil))))) (k := 1) rfl (lb rfl) (c' := #[.i6 y1.2.1.Kind, .string y1.2.1.Path, .string y1.2.1.To, v3, v4]) rfl rfl ?_; clear S; intro w S
 refine wE (ev_assign rfl) F S rfl fun a F=>?_
 refine wl_storeC (wn rfl) rfl F S rfl rfl (vs := [.i6 y1.2.2.2.Code, .i6 y1.2.2.2.Index]) rfl ts29 (one_cons rfl (one_cons rfl one_nil)) (k := 0) rfl (lb rfl) (c' := #[.i6 y1.2.2.2.Code, .i6 y1.2.2.2.Index]) rfl rfl ?_; clear S; intro w S
 refine wpList_nil ?_
 refine then_n ?_
 refine wp_seq ?_
 refine wp_seq ?_
 refine wp_region_lit ?_
 refine wE (ev_fieldAddr' tu29 tf29_0 (z := 0) ts3 rfl ⟨_, rfl⟩ rfl) F S rfl fun a F=>?_
 refine wE (ev_load1 tu3 rfl rfl (box_ptr (cells := [.i6 y1.2.2.2.Code]) 0 rfl 0 rfl (lb rfl))) F S rfl fun a F=>?_
 refine wE (ev_int rfl rfl (bo_neq _ _ _ _)) F S rfl fun a F=>?_
 refine wE (ev_move rfl) F S rfl fun a F=>?_
 obtain ⟨x1, hx1, hm⟩ := bind_some hm
 refine wl_cut 3 (fun a w' => w = w' ∧ Fr 74 a [(29, .bool x1), (8, bp b5 0), (7, bp b4 0), (5, bp b3 0), (4, bp b2 0), (3, bp b1 0)]) ?_ ?_
 ·clear hm; obtain ⟨hc1, hm⟩ | ⟨hc1, hm⟩ := ite_or hx1
  ·refine wl_skip rfl rfl rfl rfl (ne_ft hc1) F rfl rfl ?_; clear F a; intro a F
   refine wl_skip rfl rfl rfl rfl (ne_ft hc1) F rfl rfl ?_; clear F a; intro a F
   refine wE (ev_pickT rfl hc1 rfl) F S rfl fun a F=>?_
   obtain rfl := sinj hm
   refine wpList_nil (then_n ?_); exact ⟨rfl, F.sub ⟨rfl, rfl, rfl, rfl, rfl, rfl, trivial⟩⟩
  ·refine wl_ev (wg F rfl rfl rfl rfl hc1) (ev_move rfl) F S rfl rfl ?_; clear F a; intro a F
   refine wl_ev (wg F rfl rfl rfl rfl hc1) (ev_not rfl) F S rfl rfl ?_; clear F a; intro a F
   refine wE (ev_pickF rfl hc1 rfl) F S rfl fun a F=>?_
   obtain rfl := sinj hm
   refine wpList_nil (then_n ?_); exact ⟨rfl, F.sub ⟨rfl, rfl, rfl, rfl, rfl, rfl, trivial⟩⟩
 clear F; rintro a w' ⟨rfl, F⟩
 refine wpList_nil ?_
 refine then_n ?_
 obtain ⟨hc2, hm⟩ | ⟨hc2, hm⟩ := ite_or hm
 ·refine wp_condT F rfl hc2 ?_
  refine wp_seq ?_
  refine wp_region_lit ?_
  obtain ⟨y2, hy2, hm⟩ := bind_some hm
  refine wl_call0 (wn rfl) rfl F rfl (changeforgelaw2_followed_ok (fr := (fl [[bx b6 #[.i6 y1.2.2.2.Code, .i6 y1.2.2.2.Index] 29], [bx b5 #[.i6 y1.2.1.Kind, .string y1.2.1.Path, .string y1.2.1.To, v3, v4] 27], [bx b4 #[.i6 y1.1.Kind, .string y1.1.Path, .string y1.1.To, v1, v2] 27], [bx b3 #[vt_1] 44], [bx b2 #[.i6 b_.Kind, .string b_.Path, .string b_.To, vb_1, vb_2] 27], [bx b1 #[.i6 a_.Kind, .string a_.Path, .string a_.To, va_1, va_2] 27]] fr))  S hy2) rfl tc15 rfl rfl ?_; clear F a S
  rintro _ a w ⟨g2, l2, S, rfl⟩ F; replace S : St g2 [[bx b6 #[.i6 y1.2.2.2.Code, .i6 y1.2.2.2.Index] 29], [bx b5 #[.i6 y1.2.1.Kind, .string y1.2.1.Path, .string y1.2.1.To, v3, v4] 27], [bx b4 #[.i6 y1.1.Kind, .string y1.1.Path, .string y1.1.To, v1, v2] 27], [bx b3 #[vt_1] 44], [bx b2 #[.i6 b_.Kind, .string b_.Path, .string b_.To, vb_1, vb_2] 27], [bx b1 #[.i6 a_.Kind, .string a_.Path, .string a_.To, va_1, va_2] 27]] fr w := S
  refine wE (ev_assign rfl) F S rfl fun a F=>?_
  refine wpList_nil ?_
  refine then_n ?_
  refine wp_ret ?_
  refine then_r ?_
  obtain rfl := sinj hm
  refine post_r _ F rfl (ar_cons (resT rfl) ar_nil) ?_
  replace S : St g2 [] fr w := St.tail [] _ S
  exact ⟨_, rfl, g2, (l1.trans l2), S, rfl⟩
 ·refine wp_condF F rfl hc2 ?_
  refine wp_skip ?_
  refine then_n ?_
  refine wp_seq ?_
  refine wp_region_lit ?_
  refine wE (ev_loadA tu27 rfl (cs := [.i6 a_.Kind, .string a_.Path, .string a_.To, va_1, va_2]) ts27 rfl (box_ptr (cells := [.i6 a_.Kind, .string a_.Path, .string a_.To, va_1, va_2]) 5 rfl 0 rfl (lb rfl))) F S rfl fun a F=>?_
  refine wE (ev_loadA tu27 rfl (cs := [.i6 b_.Kind, .string b_.Path, .string b_.To, vb_1, vb_2]) ts27 rfl (box_ptr (cells := [.i6 b_.Kind, .string b_.Path, .string b_.To, vb_1, vb_2]) 4 rfl 0 rfl (lb rfl))) F S rfl fun a F=>?_
  refine wl_lit (l := ([a_, b_] : List TreeChange)) (vs := [.agg #[.i6 a_.Kind, .string a_.Path, .string a_.To, va_1, va_2], .agg #[.i6 b_.Kind, .string b_.Path, .string b_.To, vb_1, vb_2]]) (parts := [(0, .tmp 32), (1, .tmp 33)]) (wn rfl) rfl rfl rfl tu39 te27 (sz_cons rfl (sz_cons rfl sz_nil)) rfl (Cat.cons (rep_TreeChange_mk (x := a_) (ha_1.mono l1) (ha_2.mono l1)) (Cat.cons (rep_TreeChange_mk (x := b_) (hb_1.mono l1) (hb_2.mono l1)) (Cat.nil _))) (coa_cons rfl (coa_cons rfl coa_nil)) rfl F S rfl rfl ?_; clear F a S
  rintro v5 c1 a w h5 F S
  refine wE (ev_build (parts := [(0, .tmp 34)]) (vs := [(0, v5)]) rfl (fun w => tb41_0 v5 (OwnS.isSl h5) w)) F S rfl fun a F=>?_
  refine wE (ev_loadA tu44 rfl (cs := [vt_1]) ts44 rfl (box_ptr (cells := [vt_1]) 4 rfl 0 rfl (lb rfl))) F S rfl fun a F=>?_
  obtain ⟨g3, l3, S, h6⟩ : ∃ gz, Le g1 gz ∧ St gz [[bx b6 #[.i6 y1.2.2.2.Code, .i6 y1.2.2.2.Index] 29], [bx b5 #[.i6 y1.2.1.Kind, .string y1.2.1.Path, .string y1.2.1.To, v3, v4] 27], [bx b4 #[.i6 y1.1.Kind, .string y1.1.Path, .string y1.1.To, v1, v2] 27], [bx b3 #[vt_1] 44], [bx b2 #[.i6 b_.Kind, .string b_.Path, .string b_.To, vb_1, vb_2] 27], [bx b1 #[.i6 a_.Kind, .string a_.Path, .string a_.To, va_1, va_2] 27]] fr w ∧ RepSl gz ([a_, b_] : List TreeChange) v5 := ⟨_, Le.add _ _, S.freeze 0 rfl, OwnS.freeze (S.front 0 rfl) h5⟩
  obtain ⟨y3, hy3, hm⟩ := bind_some hm
  refine wl_call0 (wn rfl) rfl F rfl (treepatch_Apply_ok (fr := (fl [[bx b6 #[.i6 y1.2.2.2.Code, .i6 y1.2.2.2.Index] 29], [bx b5 #[.i6 y1.2.1.Kind, .string y1.2.1.Path, .string y1.2.1.To, v3, v4] 27], [bx b4 #[.i6 y1.1.Kind, .string y1.1.Path, .string y1.1.To, v1, v2] 27], [bx b3 #[vt_1] 44], [bx b2 #[.i6 b_.Kind, .string b_.Path, .string b_.To, vb_1, vb_2] 27], [bx b1 #[.i6 a_.Kind, .string a_.Path, .string a_.To, va_1, va_2] 27]] fr)) ({ Changes := ([a_, b_] : List TreeChange) } : TreePatch) v5 h6 t_ vt_1 (ht_1.mono (l1.trans l3)) S hy3) rfl tc18 rfl rfl ?_; clear F a S
  rintro _ a w ⟨g4, v6, c2, l4, S, h7, rfl⟩ F; replace S : St g4 [c2, [bx b6 #[.i6 y1.2.2.2.Code, .i6 y1.2.2.2.Index] 29], [bx b5 #[.i6 y1.2.1.Kind, .string y1.2.1.Path, .string y1.2.1.To, v3, v4] 27], [bx b4 #[.i6 y1.1.Kind, .string y1.1.Path, .string y1.1.To, v1, v2] 27], [bx b3 #[vt_1] 44], [bx b2 #[.i6 b_.Kind, .string b_.Path, .string b_.To, vb_1, vb_2] 27], [bx b1 #[.i6 a_.Kind, .string a_.Path, .string a_.To, va_1, va_2] 27]] fr w := S
  refine wE (ev_move rfl) F S rfl fun a F=>?_
  refine wE (ev_extract rfl rfl) F S rfl fun a F=>?_
  refine wE (ev_extract rfl rfl) F S rfl fun a F=>?_
  refine wl_alloc (wn rfl) rfl tz44 (cs := [nilS]) rfl F S rfl rfl ?_; clear F a S; rintro b7 a w F S
  refine wl_alloc (wn rfl) rfl tz29 (cs := [.i6 0, .i6 0]) rfl F S rfl rfl ?_; clear F a S; rintro b8 a w F S
  refine wl_storeC (wn rfl) rfl F S rfl rfl (vs := [v6]) rfl ts44 (one_cons (OwnS.one h7) one_nil) (k := 1) rfl (lb rfl) (c' := #[v6]) rfl rfl ?_; clear S; intro w S
  refine wl_storeC (wn rfl) rfl F S rfl rfl (vs := [.i6 y3.2.Code, .i6 y3.2.Index]) rfl ts29 (one_cons rfl (one_cons rfl one_nil)) (k := 0) rfl (lb rfl) (c' := #[.i6 y3.2.Code, .i6 y3.2.Index]) rfl rfl ?_; clear S; intro w S
  refine wpList_nil ?_
  refine then_n ?_
  refine wp_seq ?_
  refine wp_region_lit ?_
  refine wE (ev_loadA tu27 rfl (cs := [.i6 y1.1.Kind, .string y1.1.Path, .string y1.1.To, v1, v2]) ts27 rfl (box_ptr (cells := [.i6 y1.1.Kind, .string y1.1.Path, .string y1.1.To, v1, v2]) 5 rfl 0 rfl (lb rfl))) F S rfl fun a F=>?_
  refine wE (ev_loadA tu27 rfl (cs := [.i6 y1.2.1.Kind, .string y1.2.1.Path, .string y1.2.1.To, v3, v4]) ts27 rfl (box_ptr (cells := [.i6 y1.2.1.Kind, .string y1.2.1.Path, .string y1.2.1.To, v3, v4]) 4 rfl 0 rfl (lb rfl))) F S rfl fun a F=>?_
  refine wl_lit (l := ([y1.1, y1.2.1] : List TreeChange)) (vs := [.agg #[.i6 y1.1.Kind, .string y1.1.Path, .string y1.1.To, v1, v2], .agg #[.i6 y1.2.1.Kind, .string y1.2.1.Path, .string y1.2.1.To, v3, v4]]) (parts := [(0, .tmp 41), (1, .tmp 42)]) (wn rfl) rfl rfl rfl tu39 te27 (sz_cons rfl (sz_cons rfl sz_nil)) rfl (Cat.cons (rep_TreeChange_mk (x := y1.1) (h1.mono (l3.trans l4)) (h2.mono (l3.trans l4))) (Cat.cons (rep_TreeChange_mk (x := y1.2.1) (h3.mono (l3.trans l4)) (h4.mono (l3.trans l4))) (Cat.nil _))) (coa_cons rfl (coa_cons rfl coa_nil)) rfl F S rfl rfl ?_; clear F a S
  rintro v7 c3 a w h8 F S
  refine wE (ev_build (parts := [(0, .tmp 43)]) (vs := [(0, v7)]) rfl (fun w => tb41_0 v7 (OwnS.isSl h8) w)) F S rfl fun a F=>?_
  refine wE (ev_loadA tu44 rfl (cs := [vt_1]) ts44 rfl (box_ptr (cells := [vt_1]) 7 rfl 0 rfl (lb rfl))) F S rfl fun a F=>?_
  obtain ⟨g5, l5, S, h9⟩ : ∃ gz, Le g4 gz ∧ St gz [[bx b8 #[.i6 y3.2.Code, .i6 y3.2.Index] 29], [bx b7 #[v6] 44], c2, [bx b6 #[.i6 y1.2.2.2.Code, .i6 y1.2.2.2.Index] 29], [bx b5 #[.i6 y1.2.1.Kind, .string y1.2.1.Path, .string y1.2.1.To, v3, v4] 27], [bx b4 #[.i6 y1.1.Kind, .string y1.1.Path, .string y1.1.To, v1, v2] 27], [bx b3 #[vt_1] 44], [bx b2 #[.i6 b_.Kind, .string b_.Path, .string b_.To, vb_1, vb_2] 27], [bx b1 #[.i6 a_.Kind, .string a_.Path, .string a_.To, va_1, va_2] 27]] fr w ∧ RepSl gz ([y1.1, y1.2.1] : List TreeChange) v7 := ⟨_, Le.add _ _, S.freeze 0 rfl, OwnS.freeze (S.front 0 rfl) h8⟩
  obtain ⟨y4, hy4, hm⟩ := bind_some hm
  refine wl_call0 (wn rfl) rfl F rfl (treepatch_Apply_ok (fr := (fl [[bx b8 #[.i6 y3.2.Code, .i6 y3.2.Index] 29], [bx b7 #[v6] 44], c2, [bx b6 #[.i6 y1.2.2.2.Code, .i6 y1.2.2.2.Index] 29], [bx b5 #[.i6 y1.2.1.Kind, .string y1.2.1.Path, .string y1.2.1.To, v3, v4] 27], [bx b4 #[.i6 y1.1.Kind, .string y1.1.Path, .string y1.1.To, v1, v2] 27], [bx b3 #[vt_1] 44], [bx b2 #[.i6 b_.Kind, .string b_.Path, .string b_.To, vb_1, vb_2] 27], [bx b1 #[.i6 a_.Kind, .string a_.Path, .string a_.To, va_1, va_2] 27]] fr)) ({ Changes := ([y1.1, y1.2.1] : List TreeChange) } : TreePatch) v7 h9 t_ vt_1 (ht_1.mono (((l1.trans l3).trans l4).trans l5)) S hy4) rfl tc18 rfl rfl ?_; clear F a S
  rintro _ a w ⟨g6, v8, c4, l6, S, h10, rfl⟩ F; replace S : St g6 [c4, [bx b8 #[.i6 y3.2.Code, .i6 y3.2.Index] 29], [bx b7 #[v6] 44], c2, [bx b6 #[.i6 y1.2.2.2.Code, .i6 y1.2.2.2.Index] 29], [bx b5 #[.i6 y1.2.1.Kind, .string y1.2.1.Path, .string y1.2.1.To, v3, v4] 27], [bx b4 #[.i6 y1.1.Kind, .string y1.1.Path, .string y1.1.To, v1, v2] 27], [bx b3 #[vt_1] 44], [bx b2 #[.i6 b_.Kind, .string b_.Path, .string b_.To, vb_1, vb_2] 27], [bx b1 #[.i6 a_.Kind, .string a_.Path, .string a_.To, va_1, va_2] 27]] fr w := S
  refine wE (ev_move rfl) F S rfl fun a F=>?_
  refine wE (ev_extract rfl rfl) F S rfl fun a F=>?_
  refine wE (ev_extract rfl rfl) F S rfl fun a F=>?_
  refine wl_alloc (wn rfl) rfl tz44 (cs := [nilS]) rfl F S rfl rfl ?_; clear F a S; rintro b9 a w F S
  refine wl_alloc (wn rfl) rfl tz29 (cs := [.i6 0, .i6 0]) rfl F S rfl rfl ?_; clear F a S; rintro b10 a w F S
  refine wl_storeC (wn rfl) rfl F S rfl rfl (vs := [v8]) rfl ts44 (one_cons (OwnS.one h10) one_nil) (k := 1) rfl (lb rfl) (c' := #[v8]) rfl rfl ?_; clear S; intro w S
  refine wl_storeC (wn rfl) rfl F S rfl rfl (vs := [.i6 y4.2.Code, .i6 y4.2.Index]) rfl ts29 (one_cons rfl (one_cons rfl one_nil)) (k := 0) rfl (lb rfl) (c' := #[.i6 y4.2.Code, .i6 y4.2.Index]) rfl rfl ?_; clear S; intro w S
  refine wpList_nil ?_
  refine then_n ?_
  refine wp_seq ?_
  refine wp_seq ?_
  refine wp_region_lit ?_
  refine wE (ev_fieldAddr' tu29 tf29_0 (z := 0) ts3 rfl ⟨_, rfl⟩ rfl) F S rfl fun a F=>?_
  refine wE (ev_load1 tu3 rfl rfl (box_ptr (cells := [.i6 y3.2.Code]) 3 rfl 0 rfl (lb rfl))) F S rfl fun a F=>?_
  refine wE (ev_int rfl rfl (bo_neq _ _ _ _)) F S rfl fun a F=>?_
  refine wE (ev_move rfl) F S rfl fun a F=>?_
  obtain ⟨x2, hx2, hm⟩ := bind_some hm
  refine wl_cut 4 (fun a w' => w = w' ∧ Fr 74 a [(56, .bool x2), (14, bp b10 0), (13, bp b9 0), (11, bp b7 0)]) ?_ ?_
  ·clear hm; obtain ⟨hc3, hm⟩ | ⟨hc3, hm⟩ := ite_or hx2
   ·refine wl_skip rfl rfl rfl rfl (ne_ft hc3) F rfl rfl ?_; clear F a; intro a F
    refine wl_skip rfl rfl rfl rfl (ne_ft hc3) F rfl rfl ?_; clear F a; intro a F
    refine wl_skip rfl rfl rfl rfl (ne_ft hc3) F rfl rfl ?_; clear F a; intro a F
    refine wE (ev_pickT rfl hc3 rfl) F S rfl fun a F=>?_
    obtain rfl := sinj hm
    refine wpList_nil (then_n ?_); exact ⟨rfl, F.sub ⟨rfl, rfl, rfl, rfl, trivial⟩⟩
   ·refine wl_ev (wg F rfl rfl rfl rfl hc3) (ev_fieldAddr' tu29 tf29_0 (z := 0) ts3 rfl ⟨_, rfl⟩ rfl) F S rfl rfl ?_; clear F a; intro a F
    refine wl_ev (wg F rfl rfl rfl rfl hc3) (ev_load1 tu3 rfl rfl (box_ptr (cells := [.i6 y4.2.Code]) 0 rfl 0 rfl (lb rfl))) F S rfl rfl ?_; clear F a; intro a F
    refine wl_ev (wg F rfl rfl rfl rfl hc3) (ev_int rfl rfl (bo_eql _ _ _ _)) F S rfl rfl ?_; clear F a; intro a F
    refine wE (ev_pickF rfl hc3 rfl) F S rfl fun a F=>?_
    obtain rfl := sinj hm
    refine wpList_nil (then_n ?_); exact ⟨rfl, F.sub ⟨rfl, rfl, rfl, rfl, trivial⟩⟩
  clear F; rintro a w' ⟨rfl, F⟩
  refine wE (ev_move rfl) F S rfl fun a F=>?_
  obtain ⟨x3, hx3, hm⟩ := bind_some hm
  refine wl_cut 4 (fun a w' => w = w' ∧ Fr 74 a [(61, .bool x3), (14, bp b10 0), (13, bp b9 0), (11, bp b7 0)]) ?_ ?_
  ·clear hm; obtain ⟨hc4, hm⟩ | ⟨hc4, hm⟩ := ite_or hx3
   ·refine wl_skip rfl rfl rfl rfl (ne_ft hc4) F rfl rfl ?_; clear F a; intro a F
    refine wl_skip rfl rfl rfl rfl (ne_ft hc4) F rfl rfl ?_; clear F a; intro a F
    refine wl_skip rfl rfl rfl rfl (ne_ft hc4) F rfl rfl ?_; clear F a; intro a F
    refine wE (ev_pickT rfl hc4 rfl) F S rfl fun a F=>?_
    obtain rfl := sinj hm
    refine wpList_nil (then_n ?_); exact ⟨rfl, F.sub ⟨rfl, rfl, rfl, rfl, trivial⟩⟩
   ·refine wl_ev (wg F rfl rfl rfl rfl hc4) (ev_fieldAddr' tu29 tf29_0 (z := 0) ts3 rfl ⟨_, rfl⟩ rfl) F S rfl rfl ?_; clear F a; intro a F
    refine wl_ev (wg F rfl rfl rfl rfl hc4) (ev_load1 tu3 rfl rfl (box_ptr (cells := [.i6 y4.2.Code]) 0 rfl 0 rfl (lb rfl))) F S rfl rfl ?_; clear F a; intro a F
    refine wl_ev (wg F rfl rfl rfl rfl hc4) (ev_int rfl rfl (bo_eql _ _ _ _)) F S rfl rfl ?_; clear F a; intro a F
    refine wE (ev_pickF rfl hc4 rfl) F S rfl fun a F=>?_
    obtain rfl := sinj hm
    refine wpList_nil (then_n ?_); exact ⟨rfl, F.sub ⟨rfl, rfl, rfl, rfl, trivial⟩⟩
  clear F; rintro a w' ⟨rfl, F⟩
  refine wpList_nil ?_
  refine then_n ?_
  obtain ⟨hc5, hm⟩ | ⟨hc5, hm⟩ := ite_or hm
  ·refine wp_condT F rfl hc5 ?_
   refine wp_seq ?_
   refine wp_region_lit ?_
   obtain ⟨y5, hy5, hm⟩ := bind_some hm
   refine wl_call0 (wn rfl) rfl F rfl (changeforgelaw2_followed_ok (fr := (fl [[bx b10 #[.i6 y4.2.Code, .i6 y4.2.Index] 29], [bx b9 #[v8] 44], c4, [bx b8 #[.i6 y3.2.Code, .i6 y3.2.Index] 29], [bx b7 #[v6] 44], c2, [bx b6 #[.i6 y1.2.2.2.Code, .i6 y1.2.2.2.Index] 29], [bx b5 #[.i6 y1.2.1.Kind, .string y1.2.1.Path, .string y1.2.1.To, v3, v4] 27], [bx b4 #[.i6 y1.1.Kind, .string y1.1.Path, .string y1.1.To, v1, v2] 27], [bx b3 #[vt_1] 44], [bx b2 #[.i6 b_.Kind, .string b_.Path, .string b_.To, vb_1, vb_2] 27], [bx b1 #[.i6 a_.Kind, .string a_.Path, .string a_.To, va_1, va_2] 27]] fr))  S hy5) rfl tc15 rfl rfl ?_; clear F a S
   rintro _ a w ⟨g7, l7, S, rfl⟩ F; replace S : St g7 [[bx b10 #[.i6 y4.2.Code, .i6 y4.2.Index] 29], [bx b9 #[v8] 44], c4, [bx b8 #[.i6 y3.2.Code, .i6 y3.2.Index] 29], [bx b7 #[v6] 44], c2, [bx b6 #[.i6 y1.2.2.2.Code, .i6 y1.2.2.2.Index] 29], [bx b5 #[.i6 y1.2.1.Kind, .string y1.2.1.Path, .string y1.2.1.To, v3, v4] 27], [bx b4 #[.i6 y1.1.Kind, .string y1.1.Path, .string y1.1.To, v1, v2] 27], [bx b3 #[vt_1] 44], [bx b2 #[.i6 b_.Kind, .string b_.Path, .string b_.To, vb_1, vb_2] 27], [bx b1 #[.i6 a_.Kind, .string a_.Path, .string a_.To, va_1, va_2] 27]] fr w := S
   refine wE (ev_assign rfl) F S rfl fun a F=>?_
   refine wpList_nil ?_
   refine then_n ?_
   refine wp_ret ?_
   refine then_r ?_
   obtain rfl := sinj hm
   refine post_r _ F rfl (ar_cons (resT rfl) ar_nil) ?_
   replace S : St g7 [] fr w := St.tail [] _ S
   exact ⟨_, rfl, g7, (((((l1.trans l3).trans l4).trans l5).trans l6).trans l7), S, rfl⟩
  ·refine wp_condF F rfl hc5 ?_
   refine wp_skip ?_
   refine then_n ?_
   refine wp_seq ?_
   refine wp_region_lit ?_
   refine wE (ev_fieldAddr' tu29 tf29_0 (z := 0) ts3 rfl ⟨_, rfl⟩ rfl) F S rfl fun a F=>?_
   refine wE (ev_load1 tu3 rfl rfl (box_ptr (cells := [.i6 y4.2.Code]) 0 rfl 0 rfl (lb rfl))) F S rfl fun a F=>?_
   refine wE (ev_int rfl rfl (bo_eql _ _ _ _)) F S rfl fun a F=>?_
   refine wE (ev_move rfl) F S rfl fun a F=>?_
   obtain ⟨g8, l8, S, h11⟩ : ∃ gz, Le g6 gz ∧ St gz [[bx b10 #[.i6 y4.2.Code, .i6 y4.2.Index] 29], [bx b9 #[v8] 44], [bx b8 #[.i6 y3.2.Code, .i6 y3.2.Index] 29], [bx b7 #[v6] 44], c2, [bx b6 #[.i6 y1.2.2.2.Code, .i6 y1.2.2.2.Index] 29], [bx b5 #[.i6 y1.2.1.Kind, .string y1.2.1.Path, .string y1.2.1.To, v3, v4] 27], [bx b4 #[.i6 y1.1.Kind, .string y1.1.Path, .string y1.1.To, v1, v2] 27], [bx b3 #[vt_1] 44], [bx b2 #[.i6 b_.Kind, .string b_.Path, .string b_.To, vb_1, vb_2] 27], [bx b1 #[.i6 a_.Kind, .string a_.Path, .string a_.To, va_1, va_2] 27]] fr w ∧ RepSl gz y4.1.Files v8 := ⟨_, Le.add _ _, S.freeze 2 rfl, OwnS.freeze (S.front 2 rfl) h10⟩
   obtain ⟨g9, l9, S, h12⟩ : ∃ gz, Le g8 gz ∧ St gz [[bx b10 #[.i6 y4.2.Code, .i6 y4.2.Index] 29], [bx b9 #[v8] 44], [bx b8 #[.i6 y3.2.Code, .i6 y3.2.Index] 29], [bx b7 #[v6] 44], [bx b6 #[.i6 y1.2.2.2.Code, .i6 y1.2.2.2.Index] 29], [bx b5 #[.i6 y1.2.1.Kind, .string y1.2.1.Path, .string y1.2.1.To, v3, v4] 27], [bx b4 #[.i6 y1.1.Kind, .string y1.1.Path, .string y1.1.To, v1, v2] 27], [bx b3 #[vt_1] 44], [bx b2 #[.i6 b_.Kind, .string b_.Path, .string b_.To, vb_1, vb_2] 27], [bx b1 #[.i6 a_.Kind, .string a_.Path, .string a_.To, va_1, va_2] 27]] fr w ∧ RepSl gz y3.1.Files v6 := ⟨_, Le.add _ _, S.freeze 4 rfl, OwnS.freeze (S.front 4 rfl) (h7.mono ((l5.trans l6).trans l8))⟩
   obtain ⟨x4, hx4, hm⟩ := bind_some hm
   refine wl_cut 4 (fun a w => ∃ g10, Fr 74 a [(70, .bool x4)] ∧ Le g9 g10 ∧ St g10 [[bx b10 #[.i6 y4.2.Code, .i6 y4.2.Index] 29], [bx b9 #[v8] 44], [bx b8 #[.i6 y3.2.Code, .i6 y3.2.Index] 29], [bx b7 #[v6] 44], [bx b6 #[.i6 y1.2.2.2.Code, .i6 y1.2.2.2.Index] 29], [bx b5 #[.i6 y1.2.1.Kind, .string y1.2.1.Path, .string y1.2.1.To, v3, v4] 27], [bx b4 #[.i6 y1.1.Kind, .string y1.1.Path, .string y1.1.To, v1, v2] 27], [bx b3 #[vt_1] 44], [bx b2 #[.i6 b_.Kind, .string b_.Path, .string b_.To, vb_1, vb_2] 27], [bx b1 #[.i6 a_.Kind, .string a_.Path, .string a_.To, va_1, va_2] 27]] fr w) ?_ ?_
   ·clear hm; obtain ⟨hc6, hm⟩ | ⟨hc6, hm⟩ := ite_or hx4
    ·refine wl_ev (wg F rfl rfl rfl rfl hc6) (ev_loadA tu44 rfl (cs := [v6]) ts44 rfl (box_ptr (cells := [v6]) 3 rfl 0 rfl (lb rfl))) F S rfl rfl ?_; clear F a; intro a F
     refine wl_ev (wg F rfl rfl rfl rfl hc6) (ev_loadA tu44 rfl (cs := [v8]) ts44 rfl (box_ptr (cells := [v8]) 1 rfl 0 rfl (lb rfl))) F S rfl rfl ?_; clear F a; intro a F
     obtain ⟨y6, hy6, hm⟩ := bind_some hm
     refine wl_call0 (wg F rfl rfl rfl rfl hc6) rfl F rfl (changeforgeequal_Tree_ok (fr := (fl [[bx b10 #[.i6 y4.2.Code, .i6 y4.2.Index] 29], [bx b9 #[v8] 44], [bx b8 #[.i6 y3.2.Code, .i6 y3.2.Index] 29], [bx b7 #[v6] 44], [bx b6 #[.i6 y1.2.2.2.Code, .i6 y1.2.2.2.Index] 29], [bx b5 #[.i6 y1.2.1.Kind, .string y1.2.1.Path, .string y1.2.1.To, v3, v4] 27], [bx b4 #[.i6 y1.1.Kind, .string y1.1.Path, .string y1.1.To, v1, v2] 27], [bx b3 #[vt_1] 44], [bx b2 #[.i6 b_.Kind, .string b_.Path, .string b_.To, vb_1, vb_2] 27], [bx b1 #[.i6 a_.Kind, .string a_.Path, .string a_.To, va_1, va_2] 27]] fr)) y3.1 v6 h12 y4.1 v8 (h11.mono l9) S hy6) rfl tc26 rfl rfl ?_; clear F a S
     rintro _ a w ⟨g11, l11, S, rfl⟩ F; replace S : St g11 [[bx b10 #[.i6 y4.2.Code, .i6 y4.2.Index] 29], [bx b9 #[v8] 44], [bx b8 #[.i6 y3.2.Code, .i6 y3.2.Index] 29], [bx b7 #[v6] 44], [bx b6 #[.i6 y1.2.2.2.Code, .i6 y1.2.2.2.Index] 29], [bx b5 #[.i6 y1.2.1.Kind, .string y1.2.1.Path, .string y1.2.1.To, v3, v4] 27], [bx b4 #[.i6 y1.1.Kind, .string y1.1.Path, .string y1.1.To, v1, v2] 27], [bx b3 #[vt_1] 44], [bx b2 #[.i6 b_.Kind, .string b_.Path, .string b_.To, vb_1, vb_2] 27], [bx b1 #[.i6 a_.Kind, .string a_.Path, .string a_.To, va_1, va_2] 27]] fr w := S
     refine wE (ev_pickT rfl hc6 rfl) F S rfl fun a F=>?_
     obtain rfl := sinj hm
     refine wpList_nil (then_n ?_); exact ⟨g11, F.sub ⟨rfl, trivial⟩, l11, S⟩
    ·refine wl_skip rfl rfl rfl rfl (ne_tf hc6) F rfl rfl ?_; clear F a; intro a F
     refine wl_skip rfl rfl rfl rfl (ne_tf hc6) F rfl rfl ?_; clear F a; intro a F
     refine wl_skip rfl rfl rfl rfl (ne_tf hc6) F rfl rfl ?_; clear F a; intro a F
     refine wE (ev_pickF rfl hc6 rfl) F S rfl fun a F=>?_
     obtain rfl := sinj hm
     refine wpList_nil (then_n ?_); exact ⟨g9, F.sub ⟨rfl, trivial⟩, (Le.refl _), S⟩
   clear F S; rintro a w ⟨g10, F, l10, S⟩
   refine wE (ev_move rfl) F S rfl fun a F=>?_
   obtain ⟨x5, hx5, hm⟩ := bind_some hm
   refine wl_cut 2 (fun a w => ∃ g12, Fr 74 a [(73, .bool x5)] ∧ Le g10 g12 ∧ St g12 [[bx b10 #[.i6 y4.2.Code, .i6 y4.2.Index] 29], [bx b9 #[v8] 44], [bx b8 #[.i6 y3.2.Code, .i6 y3.2.Index] 29], [bx b7 #[v6] 44], [bx b6 #[.i6 y1.2.2.2.Code, .i6 y1.2.2.2.Index] 29], [bx b5 #[.i6 y1.2.1.Kind, .string y1.2.1.Path, .string y1.2.1.To, v3, v4] 27], [bx b4 #[.i6 y1.1.Kind, .string y1.1.Path, .string y1.1.To, v1, v2] 27], [bx b3 #[vt_1] 44], [bx b2 #[.i6 b_.Kind, .string b_.Path, .string b_.To, vb_1, vb_2] 27], [bx b1 #[.i6 a_.Kind, .string a_.Path, .string a_.To, va_1, va_2] 27]] fr w) ?_ ?_
   ·clear hm; obtain ⟨hc7, hm⟩ | ⟨hc7, hm⟩ := ite_or hx5
    ·obtain ⟨y7, hy7, hm⟩ := bind_some hm
     refine wl_call0 (wg F rfl rfl rfl rfl hc7) rfl F rfl (changeforgelaw2_followed_ok (fr := (fl [[bx b10 #[.i6 y4.2.Code, .i6 y4.2.Index] 29], [bx b9 #[v8] 44], [bx b8 #[.i6 y3.2.Code, .i6 y3.2.Index] 29], [bx b7 #[v6] 44], [bx b6 #[.i6 y1.2.2.2.Code, .i6 y1.2.2.2.Index] 29], [bx b5 #[.i6 y1.2.1.Kind, .string y1.2.1.Path, .string y1.2.1.To, v3, v4] 27], [bx b4 #[.i6 y1.1.Kind, .string y1.1.Path, .string y1.1.To, v1, v2] 27], [bx b3 #[vt_1] 44], [bx b2 #[.i6 b_.Kind, .string b_.Path, .string b_.To, vb_1, vb_2] 27], [bx b1 #[.i6 a_.Kind, .string a_.Path, .string a_.To, va_1, va_2] 27]] fr))  S hy7) rfl tc15 rfl rfl ?_; clear F a S
     rintro _ a w ⟨g13, l13, S, rfl⟩ F; replace S : St g13 [[bx b10 #[.i6 y4.2.Code, .i6 y4.2.Index] 29], [bx b9 #[v8] 44], [bx b8 #[.i6 y3.2.Code, .i6 y3.2.Index] 29], [bx b7 #[v6] 44], [bx b6 #[.i6 y1.2.2.2.Code, .i6 y1.2.2.2.Index] 29], [bx b5 #[.i6 y1.2.1.Kind, .string y1.2.1.Path, .string y1.2.1.To, v3, v4] 27], [bx b4 #[.i6 y1.1.Kind, .string y1.1.Path, .string y1.1.To, v1, v2] 27], [bx b3 #[vt_1] 44], [bx b2 #[.i6 b_.Kind, .string b_.Path, .string b_.To, vb_1, vb_2] 27], [bx b1 #[.i6 a_.Kind, .string a_.Path, .string a_.To, va_1, va_2] 27]] fr w := S
     refine wE (ev_pickT rfl hc7 rfl) F S rfl fun a F=>?_
     obtain rfl := sinj hm
     refine wpList_nil (then_n ?_); exact ⟨g13, F.sub ⟨rfl, trivial⟩, l13, S⟩
    ·refine wl_skip rfl rfl rfl rfl (ne_tf hc7) F rfl rfl ?_; clear F a; intro a F
     refine wE (ev_pickF rfl hc7 rfl) F S rfl fun a F=>?_
     obtain rfl := sinj hm
     refine wpList_nil (then_n ?_); exact ⟨g10, F.sub ⟨rfl, trivial⟩, (Le.refl _), S⟩
   clear F S; rintro a w ⟨g12, F, l12, S⟩
   refine wE (ev_assign rfl) F S rfl fun a F=>?_
   refine wpList_nil ?_
   refine then_n ?_
   refine wp_ret ?_
   obtain rfl := sinj hm
   refine post_r _ F rfl (ar_cons (resT rfl) ar_nil) ?_
   replace S : St g12 [] fr w := St.tail [] _ S
   exact ⟨_, rfl, g12, ((((((((l1.trans l3).trans l4).trans l5).trans l6).trans l8).trans l9).trans l10).trans l12), S, rfl⟩
end Go.Dc
