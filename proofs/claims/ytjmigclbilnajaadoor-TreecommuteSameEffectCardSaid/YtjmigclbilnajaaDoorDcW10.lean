/- Walks: each function comes to what its model says. -/
import Derived.Test.YtjmigclbilnajaaDoorDcTab
import Derived.Test.YtjmigclbilnajaaDoorDcM
import Derived.Test.YtjmigclbilnajaaDoorDcW7
namespace Go.Dc
open Go Go.Proofs
set_option maxRecDepth 100000
set_option maxHeartbeats 4000000
set_option linter.unusedVariables false
theorem changeforgelaw2_followed_ok {g : Gh} {fr : Hl} {w : World} {r : Bool}  (S : St g [] fr w) (hm : changeforgelaw2_followed = some r) :
  Calls Tryd.prog 15 [].toArray w (fun en w' => ∃ v, en = .returned v ∧ ∃ (g' : Gh), Le g g' ∧ St g' [] fr w' ∧ .bool r = v) := by
 unfold changeforgelaw2_followed at hm
 refine calls_enter (fn := Tryd.f15) Tryd.func15 rfl Tryd.ntmps15 (lb rfl) ?_
 intro a F
 replace F : Fr 38 a [] := F
 refine wp_seq ?_
 refine wp_region_lit ?_
 refine wE (ev_assign rfl) F S rfl fun a F=>?_
 refine wpList_nil ?_
 refine then_n ?_
 refine wp_seq ?_
 refine wp_region_lit ?_
 refine wl_lit (l := ([(⟨#[120]⟩ : ByteArray)] : List ByteArray)) (vs := [.string (⟨#[120]⟩ : ByteArray)]) (parts := [(0, .const (.string (⟨#[120]⟩ : ByteArray)))]) (wn rfl) rfl rfl rfl tu22 te9 (sz_cons rfl sz_nil) rfl (Cat.cons (show Rep.rep _ (⟨#[120]⟩ : ByteArray) _ from rfl) (Cat.nil _)) (coa_cons rfl coa_nil) rfl F S rfl rfl ?_; clear F a S
 rintro v1 c1 a w h1 F S
 refine wE (ev_build (parts := [(0, .const (.i6 0)), (2, .tmp 7)]) (vs := [(0, .i6 0), (2, v1)]) rfl (fun w => tb69_0_2 0 v1 (OwnS.isSl h1) w)) F S rfl fun a F=>?_
 obtain ⟨g1, l1, S, h2⟩ : ∃ gz, Le g gz ∧ St gz [] fr w ∧ RepSl gz ([(⟨#[120]⟩ : ByteArray)] : List ByteArray) v1 := ⟨_, Le.add _ _, S.freeze 0 rfl, OwnS.freeze (S.front 0 rfl) h1⟩
 refine wl_lit (l := ([({ At := 0, Old := [], New := ([(⟨#[120]⟩ : ByteArray)] : List ByteArray) } : Hunk)] : List Hunk)) (vs := [.agg #[.i6 0, nilS, v1]]) (parts := [(0, .tmp 8)]) (wn rfl) rfl rfl rfl tu23 te69 (sz_cons rfl sz_nil) rfl (Cat.cons (rep_Hunk_mk (x := ({ At := 0, Old := [], New := ([(⟨#[120]⟩ : ByteArray)] : List ByteArray) } : Hunk)) (RepSl.nil _) h2) (Cat.nil _)) (coa_cons rfl coa_nil) rfl F S rfl rfl ?_; clear F a S
 rintro v2 c2 a w h3 F S
 refine wE (ev_build (parts := [(0, .tmp 9)]) (vs := [(0, v2)]) rfl (fun w => tb25_0 v2 (OwnS.isSl h3) w)) F S rfl fun a F=>?_
 refine wl_alloc (wn rfl) rfl tz25 (cs := [nilS]) rfl F S rfl rfl ?_; clear F a S; rintro b1 a w F S
 refine wl_storeC (wn rfl) rfl F S rfl rfl (vs := [v2]) rfl ts25 (one_cons (OwnS.one h3) one_nil) (k := 0) rfl (lb rfl) (c' := #[v2]) rfl rfl ?_; clear S; intro w S
 refine wpList_nil ?_
 refine then_n ?_
 refine wp_seq ?_
 refine wp_region_lit ?_
 refine wE (ev_build (parts := [(0, .const (.i6 3)), (1, .const (.string (⟨#[98]⟩ : ByteArray))), (2, .const (.string (⟨#[97]⟩ : ByteArray)))]) (vs := [(0, .i6 3), (1, .string (⟨#[98]⟩ : ByteArray)), (2, .string (⟨#[97]⟩ : ByteArray))]) rfl (fun w => tb27_0_1_2 3 (⟨#[98]⟩ : ByteArray) (⟨#[97]⟩ : ByteArray) w)) F S rfl fun a F=>?_
 refine wl_alloc (wn rfl) rfl tz27 (cs := [.i6 0, .string ByteArray.empty, .string ByteArray.empty, nilS, nilS]) rfl F S rfl rfl ?_; clear F a S; rintro b2 a w F S
 refine wl_storeC (wn rfl) rfl F S rfl rfl (vs := [.i6 3, .string (⟨#[98]⟩ : ByteArray), .string (⟨#[97]⟩ : ByteArray), nilS, nilS]) rfl ts27 (one_cons rfl (one_cons rfl (one_cons rfl (one_cons rfl (one_cons rfl one_nil))))) (k := 0) rfl (lb rfl) (c' := #[.i6 3, .string (⟨#[98]⟩ : ByteArray), .string (⟨#[97]⟩ : ByteArray), nilS, nilS]) rfl rfl ?_; clear S; intro w S
 refine wpList_nil ?_
 refine then_n ?_
 refine wp_seq ?_
 refine wp_region_lit ?_
 refine wE (ev_loadA tu27 rfl (cs := [.i6 3, .string (⟨#[98]⟩ : ByteArray), .string (⟨#[97]⟩ : ByteArray), nilS, nilS]) ts27 rfl (box_ptr (cells := [.i6 3, .string (⟨#[98]⟩ : ByteArray), .string (⟨#[97]⟩ : ByteArray), nilS, nilS]) 0 rfl 0 rfl (lb rfl))) F S rfl fun a F=>?_
 refine wE (ev_loadA tu25 rfl (cs := [v2]) ts25 rfl (box_ptr (cells := [v2]) 1 rfl 0 rfl (lb rfl))) F S rfl fun a F=>?_
 refine wE (ev_build (parts := [(0, .const (.i6 4)), (1, .const (.string (⟨#[97]⟩ : ByteArray))), (4, .tmp 14)]) (vs := [(0, .i6 4), (1, .string (⟨#[97]⟩ : ByteArray)), (4, .agg #[v2])]) rfl (fun w => tb27_0_1_4 4 (⟨#[97]⟩ : ByteArray) v2 (OwnS.isSl h3) w)) F S rfl fun a F=>?_
 obtain ⟨g2, l2, S, h4⟩ : ∃ gz, Le g1 gz ∧ St gz [[(b2, .cells #[.i6 3, .string (⟨#[98]⟩ : ByteArray), .string (⟨#[97]⟩ : ByteArray), nilS, nilS] 27 (0, 0))], [bx b1 #[v2] 25]] fr w ∧ RepSl gz ([({ At := 0, Old := [], New := ([(⟨#[120]⟩ : ByteArray)] : List ByteArray) } : Hunk)] : List Hunk) v2 := ⟨_, Le.add _ _, S.freeze 2 rfl, OwnS.freeze (S.front 2 rfl) h3⟩
 obtain ⟨y1, hy1, hm⟩ := bind_some hm
 refine wl_call0 (wn rfl) rfl F rfl (treecommute_Commute_ok (fr := (fl [[(b2, .cells #[.i6 3, .string (⟨#[98]⟩ : ByteArray), .string (⟨#[97]⟩ : ByteArray), nilS, nilS] 27 (0, 0))], [bx b1 #[v2] 25]] fr)) ({ Kind := 3, Path := (⟨#[98]⟩ : ByteArray), To := (⟨#[97]⟩ : ByteArray), Lines := [], Patch := ({ Hunks := [] } : Patch) } : TreeChange) (nilS) (RepSl.nil _) (nilS) (RepSl.nil _) ({ Kind := 4, Path := (⟨#[97]⟩ : ByteArray), To := ByteArray.empty, Lines := [], Patch := ({ Hunks := ([({ At := 0, Old := [], New := ([(⟨#[120]⟩ : ByteArray)] : List ByteArray) } : Hunk)] : List Hunk) } : Patch) } : TreeChange) (nilS) (RepSl.nil _) v2 h4 S hy1) rfl tc12 rfl rfl ?_; clear F a S
 rintro _ a w ⟨g3, v3, v4, v5, v6, l3, S, h5, h6, h7, h8, rfl⟩ F; replace S : St g3 [[(b2, .cells #[.i6 3, .string (⟨#[98]⟩ : ByteArray), .string (⟨#[97]⟩ : ByteArray), nilS, nilS] 27 (0, 0))], [bx b1 #[v2] 25]] fr w := S
 refine wE (ev_move rfl) F S rfl fun a F=>?_
 refine wE (ev_extract rfl rfl) F S rfl fun a F=>?_
 refine wE (ev_extract rfl rfl) F S rfl fun a F=>?_
 refine wE (ev_extract rfl rfl) F S rfl fun a F=>?_
 refine wE (ev_extract rfl rfl) F S rfl fun a F=>?_
 refine wl_alloc (wn rfl) rfl tz27 (cs := [.i6 0, .string ByteArray.empty, .string ByteArray.empty, nilS, nilS]) rfl F S rfl rfl ?_; clear F a S; rintro b3 a w F S
 refine wl_alloc (wn rfl) rfl tz27 (cs := [.i6 0, .string ByteArray.empty, .string ByteArray.empty, nilS, nilS]) rfl F S rfl rfl ?_; clear F a S; rintro b4 a w F S
 refine wl_alloc (wn rfl) rfl tz29 (cs := [.i6 0, .i6 0]) rfl F S rfl rfl ?_; clear F a S; rintro b5 a w F S
 refine wl_storeC (wn rfl) rfl F S rfl rfl (vs := [.i6 y1.1.Kind, .string y1.1.Path, .string y1.1.To, v3, v4]) rfl ts27 (one_cons rfl (one_cons rfl (one_cons rfl (one_cons h5.one (one_cons h6.one one_nil))))) (k := 2) rfl (lb rfl) (c' := #[.i6 y1.1.Kind, .string y1.1.Path, .string y1.1.To, v3, v4]) rfl rfl ?_; clear S; intro w S
 refine wl_storeC (wn rfl) rfl F S rfl rfl (vs := [.i6 y1.2.1.Kind, .string y1.2.1.Path, .string y1.2.1.To, v5, v6]) rfl ts27 (one_cons rfl (one_cons rfl (one_cons rfl (one_cons h7.one (one_cons h8.one one_nil))))) (k := 1) rfl (lb rfl) (c' := #[.i6 y1.2.1.Kind, .string y1.2.1.Path, .string y1.2.1.To, v5, v6]) rfl rfl ?_; clear S; intro w S
 refine wE (ev_assign rfl) F S rfl fun a F=>?_
 refine wl_storeC (wn rfl) rfl F S rfl rfl (vs := [.i6 y1.2.2.2.Code, .i6 y1.2.2.2.Index]) rfl ts29 (one_cons rfl (one_cons rfl one_nil)) (k := 0) rfl (lb rfl) (c' := #[.i6 y1.2.2.2.Code, .i6 y1.2.2.2.Index]) rfl rfl ?_; clear S; intro w S
 refine wpList_nil ?_
 refine then_n ?_
 refine wp_seq ?_
 refine wp_region_lit ?_
 refine wE (ev_fieldAddr' tu29 tf29_0 (z := 0) ts3 rfl ⟨_, rfl⟩ rfl) F S rfl fun a F=>?_
 refine wE (ev_load1 tu3 rfl rfl (box_ptr (cells := [.i6 y1.2.2.2.Code]) 0 rfl 0 rfl (lb rfl))) F S rfl fun a F=>?_
 refine wE (ev_int rfl rfl (bo_eql _ _ _ _)) F S rfl fun a F=>?_
 refine wE (ev_move rfl) F S rfl fun a F=>?_
 obtain ⟨x1, hx1, hm⟩ := bind_some hm
 refine wl_cut 2 (fun a w' => w = w' ∧ Fr 38 a [(26, .bool x1), (4, bp b4 0), (3, bp b3 0), (2, bp b2 0), (1, bp b1 0), (0, .bool false)]) ?_ ?_
 ·clear hm; obtain ⟨hc1, hm⟩ | ⟨hc1, hm⟩ := ite_or hx1
  ·refine wl_ev (wg F rfl rfl rfl rfl hc1) (ev_move rfl) F S rfl rfl ?_; clear F a; intro a F
   refine wE (ev_pickT rfl hc1 rfl) F S rfl fun a F=>?_
   obtain rfl := sinj hm
   refine wpList_nil (then_n ?_); exact ⟨rfl, F.sub ⟨rfl, rfl, rfl, rfl, rfl, rfl, trivial⟩⟩
  ·refine wl_skip rfl rfl rfl rfl (ne_tf hc1) F rfl rfl ?_; clear F a; intro a F
   refine wE (ev_pickF rfl hc1 rfl) F S rfl fun a F=>?_
   obtain rfl := sinj hm
   refine wpList_nil (then_n ?_); exact ⟨rfl, F.sub ⟨rfl, rfl, rfl, rfl, rfl, rfl, trivial⟩⟩
 clear F; rintro a w' ⟨rfl, F⟩
 refine wE (ev_move rfl) F S rfl fun a F=>?_
 obtain ⟨x2, hx2, hm⟩ := bind_some hm
 refine wl_cut 5 (fun a w => ∃ g4, Fr 38 a [(32, .bool x2), (4, bp b4 0), (2, bp b2 0), (0, .bool false)] ∧ Le g3 g4 ∧ St g4 [[bx b5 #[.i6 y1.2.2.2.Code, .i6 y1.2.2.2.Index] 29], [bx b4 #[.i6 y1.2.1.Kind, .string y1.2.1.Path, .string y1.2.1.To, v5, v6] 27], [bx b3 #[.i6 y1.1.Kind, .string y1.1.Path, .string y1.1.To, v3, v4] 27], [(b2, .cells #[.i6 3, .string (⟨#[98]⟩ : ByteArray), .string (⟨#[97]⟩ : ByteArray), nilS, nilS] 27 (0, 0))], [bx b1 #[v2] 25]] fr w) ?_ ?_
 ·clear hm; obtain ⟨hc2, hm⟩ | ⟨hc2, hm⟩ := ite_or hx2
  ·refine wl_ev (wg F rfl rfl rfl rfl hc2) (ev_loadA tu27 rfl (cs := [.i6 y1.1.Kind, .string y1.1.Path, .string y1.1.To, v3, v4]) ts27 rfl (box_ptr (cells := [.i6 y1.1.Kind, .string y1.1.Path, .string y1.1.To, v3, v4]) 2 rfl 0 rfl (lb rfl))) F S rfl rfl ?_; clear F a; intro a F
   refine wl_ev (wg F rfl rfl rfl rfl hc2) (ev_loadA tu25 rfl (cs := [v2]) ts25 rfl (box_ptr (cells := [v2]) 4 rfl 0 rfl (lb rfl))) F S rfl rfl ?_; clear F a; intro a F
   refine wl_ev (wg F rfl rfl rfl rfl hc2) (ev_build (parts := [(0, .const (.i6 4)), (1, .const (.string (⟨#[98]⟩ : ByteArray))), (4, .tmp 29)]) (vs := [(0, .i6 4), (1, .string (⟨#[98]⟩ : ByteArray)), (4, .agg #[v2])]) rfl (fun w => tb27_0_1_4 4 (⟨#[98]⟩ : ByteArray) v2 (RepSl.isSl h4) w)) F S rfl rfl ?_; clear F a; intro a F
   obtain ⟨y2, hy2, hm⟩ := bind_some hm
   refine wl_call0 (wg F rfl rfl rfl rfl hc2) rfl F rfl (changeforgeequal_Change_ok (fr := (fl [[bx b5 #[.i6 y1.2.2.2.Code, .i6 y1.2.2.2.Index] 29], [bx b4 #[.i6 y1.2.1.Kind, .string y1.2.1.Path, .string y1.2.1.To, v5, v6] 27], [bx b3 #[.i6 y1.1.Kind, .string y1.1.Path, .string y1.1.To, v3, v4] 27], [(b2, .cells #[.i6 3, .string (⟨#[98]⟩ : ByteArray), .string (⟨#[97]⟩ : ByteArray), nilS, nilS] 27 (0, 0))], [bx b1 #[v2] 25]] fr)) y1.1 v3 h5 v4 h6 ({ Kind := 4, Path := (⟨#[98]⟩ : ByteArray), To := ByteArray.empty, Lines := [], Patch := ({ Hunks := ([({ At := 0, Old := [], New := ([(⟨#[120]⟩ : ByteArray)] : List ByteArray) } : Hunk)] : List Hunk) } : Patch) } : TreeChange) (nilS) (RepSl.nil _) v2 (h4.mono l3) S hy2) rfl tc14 rfl rfl ?_; clear F a S
   rintro _ a w ⟨g5, l5, S, rfl⟩ F; replace S : St g5 [[bx b5 #[.i6 y1.2.2.2.Code, .i6 y1.2.2.2.Index] 29], [bx b4 #[.i6 y1.2.1.Kind, .string y1.2.1.Path, .string y1.2.1.To, v5, v6] 27], [bx b3 #[.i6 y1.1.Kind, .string y1.1.Path, .string y1.1.To, v3, v4] 27], [(b2, .cells #[.i6 3, .string (⟨#[98]⟩ : ByteArray), .string (⟨#[97]⟩ : ByteArray), nilS, nilS] 27 (0, 0))], [bx b1 #[v2] 25]] fr w := S
   refine wE (ev_pickT rfl hc2 rfl) F S rfl fun a F=>?_
   obtain rfl := sinj hm
   refine wpList_nil (then_n ?_); exact ⟨g5, F.sub ⟨rfl, rfl, rfl, rfl, trivial⟩, l5, S⟩
  ·refine wl_skip rfl rfl rfl rfl (ne_tf hc2) F rfl rfl ?_; clear F a; intro a F
   refine wl_skip rfl rfl rfl rfl (ne_tf hc2) F rfl rfl ?_; clear F a; intro a F
   refine wl_skip rfl rfl rfl rfl (ne_tf hc2) F rfl rfl ?_; clear F a; intro a F
   refine wl_skip rfl rfl rfl rfl (ne_tf hc2) F rfl rfl ?_; clear F a; intro a F
   refine wE (ev_pickF rfl hc2 rfl) F S rfl fun a F=>?_
   obtain rfl := sinj hm
   refine wpList_nil (then_n ?_); exact ⟨g3, F.sub ⟨rfl, rfl, rfl, rfl, trivial⟩, (Le.refl _), S⟩
 clear F S; rintro a w ⟨g4, F, l4, S⟩
 refine wE (ev_move rfl) F S rfl fun a F=>?_
 obtain ⟨x3, hx3, hm⟩ := bind_some hm
 refine wl_cut 4 (fun a w => ∃ g6, Fr 38 a [(37, .bool x3), (0, .bool false)] ∧ Le g4 g6 ∧ St g6 [[bx b5 #[.i6 y1.2.2.2.Code, .i6 y1.2.2.2.Index] 29], [bx b4 #[.i6 y1.2.1.Kind, .string y1.2.1.Path, .string y1.2.1.To, v5, v6] 27], [bx b3 #[.i6 y1.1.Kind, .string y1.1.Path, .string y1.1.To, v3, v4] 27], [(b2, .cells #[.i6 3, .string (⟨#[98]⟩ : ByteArray), .string (⟨#[97]⟩ : ByteArray), nilS, nilS] 27 (0, 0))], [bx b1 #[v2] 25]] fr w) ?_ ?_
 ·clear hm; obtain ⟨hc3, hm⟩ | ⟨hc3, hm⟩ := ite_or hx3
  ·refine wl_ev (wg F rfl rfl rfl rfl hc3) (ev_loadA tu27 rfl (cs := [.i6 y1.2.1.Kind, .string y1.2.1.Path, .string y1.2.1.To, v5, v6]) ts27 rfl (box_ptr (cells := [.i6 y1.2.1.Kind, .string y1.2.1.Path, .string y1.2.1.To, v5, v6]) 1 rfl 0 rfl (lb rfl))) F S rfl rfl ?_; clear F a; intro a F
   refine wl_ev (wg F rfl rfl rfl rfl hc3) (ev_loadA tu27 rfl (cs := [.i6 3, .string (⟨#[98]⟩ : ByteArray), .string (⟨#[97]⟩ : ByteArray), nilS, nilS]) ts27 rfl (box_ptr (cells := [.i6 3, .string (⟨#[98]⟩ : ByteArray), .string (⟨#[97]⟩ : ByteArray), nilS, nilS]) 3 rfl 0 rfl (lb rfl))) F S rfl rfl ?_; clear F a; intro a F
   obtain ⟨y3, hy3, hm⟩ := bind_some hm
   refine wl_call0 (wg F rfl rfl rfl rfl hc3) rfl F rfl (changeforgeequal_Change_ok (fr := (fl [[bx b5 #[.i6 y1.2.2.2.Code, .i6 y1.2.2.2.Index] 29], [bx b4 #[.i6 y1.2.1.Kind, .string y1.2.1.Path, .string y1.2.1.To, v5, v6] 27], [bx b3 #[.i6 y1.1.Kind, .string y1.1.Path, .string y1.1.To, v3, v4] 27], [(b2, .cells #[.i6 3, .string (⟨#[98]⟩ : ByteArray), .string (⟨#[97]⟩ : ByteArray), nilS, nilS] 27 (0, 0))], [bx b1 #[v2] 25]] fr)) y1.2.1 v5 (h7.mono l4) v6 (h8.mono l4) ({ Kind := 3, Path := (⟨#[98]⟩ : ByteArray), To := (⟨#[97]⟩ : ByteArray), Lines := [], Patch := ({ Hunks := [] } : Patch) } : TreeChange) (nilS) (RepSl.nil _) (nilS) (RepSl.nil _) S hy3) rfl tc14 rfl rfl ?_; clear F a S
   rintro _ a w ⟨g7, l7, S, rfl⟩ F; replace S : St g7 [[bx b5 #[.i6 y1.2.2.2.Code, .i6 y1.2.2.2.Index] 29], [bx b4 #[.i6 y1.2.1.Kind, .string y1.2.1.Path, .string y1.2.1.To, v5, v6] 27], [bx b3 #[.i6 y1.1.Kind, .string y1.1.Path, .string y1.1.To, v3, v4] 27], [(b2, .cells #[.i6 3, .string (⟨#[98]⟩ : ByteArray), .string (⟨#[97]⟩ : ByteArray), nilS, nilS] 27 (0, 0))], [bx b1 #[v2] 25]] fr w := S
   refine wE (ev_pickT rfl hc3 rfl) F S rfl fun a F=>?_
   obtain rfl := sinj hm
   refine wpList_nil (then_n ?_); exact ⟨g7, F.sub ⟨rfl, rfl, trivial⟩, l7, S⟩
  ·refine wl_skip rfl rfl rfl rfl (ne_tf hc3) F rfl rfl ?_; clear F a; intro a F
   refine wl_skip rfl rfl rfl rfl (ne_tf hc3) F rfl rfl ?_; clear F a; intro a F
   refine wl_skip rfl rfl rfl rfl (ne_tf hc3) F rfl rfl ?_; clear F a; intro a F
   refine wE (ev_pickF rfl hc3 rfl) F S rfl fun a F=>?_
   obtain rfl := sinj hm
   refine wpList_nil (then_n ?_); exact ⟨g4, F.sub ⟨rfl, rfl, trivial⟩, (Le.refl _), S⟩
 clear F S; rintro a w ⟨g6, F, l6, S⟩
 refine wE (ev_assign rfl) F S rfl fun a F=>?_
 refine wpList_nil ?_
 refine then_n ?_
 refine wp_ret ?_
 obtain rfl := sinj hm
 refine post_r _ F rfl (ar_cons (resT rfl) ar_nil) ?_
 replace S : St g6 [] fr w := St.tail [] _ S
 exact ⟨_, rfl, g6, ((((l1.trans l2).trans l3).trans l4).trans l6), S, rfl⟩
end Go.Dc
