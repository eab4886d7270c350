/- Walks: each function comes to what its model says. -/
import Derived.Test.YtmhjcomgbfonfaaGreatDoorDcTab
import Derived.Test.YtmhjcomgbfonfaaGreatDoorDcM
namespace Go.Dc
open Go Go.Proofs
set_option maxRecDepth 100000
set_option maxHeartbeats 4000000
set_option linter.unusedVariables false
theorem changeforgelaw2_one_ok {g : Gh} {fr : Hl} {w : World} {r : FileTree} (path : ByteArray) (l_ : (List ByteArray)) (vl_1 : Value) (hl_1 : RepSl g l_ vl_1) (S : St g [] fr w) (hm : changeforgelaw2_one path l_ = some r) :
  Calls Tryz.prog 18 [.string path, vl_1].toArray w (fun en w' => ∃ v, en = .returned v ∧ ∃ (g' : Gh) (v1 : Value) (c1 : Hl), Le g g' ∧ St g' [c1] fr w' ∧ OwnS g' r.Files v1 c1 ∧ .agg #[v1] = v) := by
 unfold changeforgelaw2_one at hm
 refine calls_enter (fn := Tryz.f18) Tryz.func18 rfl Tryz.ntmps18 (lb rfl) ?_
 intro a F
 replace F : Fr 10 a [(0, .string path), (1, vl_1)] := F
 refine wp_seq ?_
 refine wp_region_lit ?_
 refine wl_alloc (wn rfl) rfl tz24 (cs := [nilS]) rfl F S rfl rfl ?_; clear F a S; rintro b1 a w F S
 refine wpList_nil ?_
 refine then_n ?_
 refine wp_seq ?_
 refine wp_region_lit ?_
 refine wE (ev_move rfl) F S rfl fun a F=>?_
 refine wE (ev_move rfl) F S rfl fun a F=>?_
 refine wE (ev_build (parts := [(0, .tmp 5), (1, .tmp 6)]) (vs := [(0, .string path), (1, vl_1)]) rfl (fun w => tb80_0_1 path vl_1 (RepSl.isSl hl_1) w)) F S rfl fun a F=>?_
 refine wl_lit (l := ([({ Path := path, Lines := l_ } : File)] : List File)) (vs := [.agg #[.string path, vl_1]]) (parts := [(0, .tmp 7)]) (wn rfl) rfl rfl rfl tu22 te80 (sz_cons rfl sz_nil) rfl (Cat.cons (rep_File_mk (x := ({ Path := path, Lines := l_ } : File)) hl_1) (Cat.nil _)) (coa_cons rfl coa_nil) rfl F S rfl rfl ?_; clear F a S
 rintro v1 c1 a w h1 F S
 refine wE (ev_build (parts := [(0, .tmp 8)]) (vs := [(0, v1)]) rfl (fun w => tb24_0 v1 (OwnS.isSl h1) w)) F S rfl fun a F=>?_
 refine wl_storeC (wn rfl) rfl F S rfl rfl (vs := [v1]) rfl ts24 (one_cons (OwnS.one h1) one_nil) (k := 1) rfl (lb rfl) (c' := #[v1]) rfl rfl ?_; clear S; intro w S
 refine wpList_nil ?_
 refine then_n ?_
 refine wp_ret ?_
 obtain rfl := sinj hm
 refine post_r _ F rfl (ar_cons (resA rfl tu24 rfl (box_ptr (cells := [v1]) 1 rfl 0 rfl (lb rfl) w S) ts24) ar_nil) ?_
 replace S : St g [c1] fr w := St.tail [c1] _ (S.frontC 0 rfl)
 exact ⟨_, rfl, g, v1, c1, (Le.refl _), S, h1, rfl⟩

theorem changeforgelaw2_change_ok {g : Gh} {fr : Hl} {w : World} {r : TreePatch} (c_ : TreeChange) (vc_1 : Value) (hc_1 : RepSl g c_.Lines vc_1) (vc_2 : Value) (hc_2 : RepSl g c_.Patch.Hunks vc_2) (S : St g [] fr w) (hm : changeforgelaw2_change c_ = some r) :
  Calls Tryz.prog 19 [.agg #[.i6 c_.Kind, .string c_.Path, .string c_.To, vc_1, vc_2]].toArray w (fun en w' => ∃ v, en = .returned v ∧ ∃ (g' : Gh) (v1 : Value) (c1 : Hl), Le g g' ∧ St g' [c1] fr w' ∧ OwnS g' r.Changes v1 c1 ∧ .agg #[v1] = v) := by
 unfold changeforgelaw2_change at hm
 refine calls_enter (fn := Tryz.f19) Tryz.func19 rfl Tryz.ntmps19 (lb rfl) ?_
 intro a F
 replace F : Fr 6 a [(0, .agg #[.i6 c_.Kind, .string c_.Path, .string c_.To, vc_1, vc_2])] := F
 refine wp_seq ?_
 refine wp_region_lit ?_
 refine wl_boxC (wn rfl) rfl rfl rfl F S rfl rfl ?_; clear F a S; rintro b1 a w F S
 refine wl_alloc (wn rfl) rfl tz27 (cs := [nilS]) rfl F S rfl rfl ?_; clear F a S; rintro b2 a w F S
 refine wpList_nil ?_
 refine then_n ?_
 refine wp_seq ?_
 refine wp_region_lit ?_
 refine wE (ev_loadA tu51 rfl (cs := [.i6 c_.Kind, .string c_.Path, .string c_.To, vc_1, vc_2]) ts51 rfl (box_ptr (cells := [.i6 c_.Kind, .string c_.Path, .string c_.To, vc_1, vc_2]) 1 rfl 0 rfl (lb rfl))) F S rfl fun a F=>?_
 refine wl_lit (l := ([c_] : List TreeChange)) (vs := [.agg #[.i6 c_.Kind, .string c_.Path, .string c_.To, vc_1, vc_2]]) (parts := [(0, .tmp 3)]) (wn rfl) rfl rfl rfl tu25 te51 (sz_cons rfl sz_nil) rfl (Cat.cons (rep_TreeChange_mk (x := c_) hc_1 hc_2) (Cat.nil _)) (coa_cons rfl coa_nil) rfl F S rfl rfl ?_; clear F a S
 rintro v1 c1 a w h1 F S
 refine wE (ev_build (parts := [(0, .tmp 4)]) (vs := [(0, v1)]) rfl (fun w => tb27_0 v1 (OwnS.isSl h1) w)) F S rfl fun a F=>?_
 refine wl_storeC (wn rfl) rfl F S rfl rfl (vs := [v1]) rfl ts27 (one_cons (OwnS.one h1) one_nil) (k := 1) rfl (lb rfl) (c' := #[v1]) rfl rfl ?_; clear S; intro w S
 refine wpList_nil ?_
 refine then_n ?_
 refine wp_ret ?_
 obtain rfl := sinj hm
 refine post_r _ F rfl (ar_cons (resA rfl tu27 rfl (box_ptr (cells := [v1]) 1 rfl 0 rfl (lb rfl) w S) ts27) ar_nil) ?_
 replace S : St g [c1] fr w := St.tail [c1] _ (S.frontC 0 rfl)
 exact ⟨_, rfl, g, v1, c1, (Le.refl _), S, h1, rfl⟩
end Go.Dc
