/- Walks: each function comes to what its model says. -/
import Derived.Test.YthpkobkngplbbaaDoorDcTab
import Derived.Test.YthpkobkngplbbaaDoorDcM
import Derived.Test.YthpkobkngplbbaaDoorDcW1
import Derived.Test.YthpkobkngplbbaaDoorDcW4
import Derived.Test.YthpkobkngplbbaaDoorDcW5
import Derived.Test.YthpkobkngplbbaaDoorDcW6
import Derived.Test.YthpkobkngplbbaaDoorDcW8
namespace Go.Dc
open Go Go.Proofs
set_option maxRecDepth 100000
set_option maxHeartbeats 4000000
set_option linter.unusedVariables false
theorem changeforgetop_h11Works_ok {g : Gh} {fr : Hl} {w : World} {r : Bool}  (S : St g [] fr w) (hm : changeforgetop_h11Works = some r) :
  Calls Tryd.prog 8 [].toArray w (fun en w' => ∃ v, en = .returned v ∧ ∃ (g' : Gh), Le g g' ∧ St g' [] fr w' ∧ .bool r = v) := by
 unfold changeforgetop_h11Works at hm
 refine calls_enter (fn := Tryd.f8) Tryd.func8 rfl Tryd.ntmps8 (lb rfl) ?_
 intro a F
 replace F : Fr 48 a [] := F
 refine wp_seq ?_
 refine wp_region_lit ?_
 refine wE (ev_assign rfl) F S rfl fun a F=>?_
 refine wpList_nil ?_
 refine then_n ?_
 refine wp_seq ?_
 refine wp_region_lit ?_
 refine wl_lit (l := ([(⟨#[97]⟩ : ByteArray)] : List ByteArray)) (vs := [.string (⟨#[97]⟩ : ByteArray)]) (parts := [(0, .const (.string (⟨#[97]⟩ : ByteArray)))]) (wn rfl) rfl rfl rfl tu22 te9 (sz_cons rfl sz_nil) rfl (Cat.cons (show Rep.rep _ (⟨#[97]⟩ : ByteArray) _ from rfl) (Cat.nil _)) (coa_cons rfl coa_nil) rfl F S rfl rfl ?_; clear F a S
 rintro v1 c1 a w h1 F S
 refine wl_lit (l := ([(⟨#[98]⟩ : ByteArray)] : List ByteArray)) (vs := [.string (⟨#[98]⟩ : ByteArray)]) (parts := [(0, .const (.string (⟨#[98]⟩ : ByteArray)))]) (wn rfl) rfl rfl rfl tu22 te9 (sz_cons rfl sz_nil) rfl (Cat.cons (show Rep.rep _ (⟨#[98]⟩ : ByteArray) _ from rfl) (Cat.nil _)) (coa_cons rfl coa_nil) rfl F S rfl rfl ?_; clear F a S
 rintro v2 c2 a w h2 F S
 refine wE (ev_build (parts := [(0, .const (.i6 0)), (1, .tmp 6), (2, .tmp 7)]) (vs := [(0, .i6 0), (1, v1), (2, v2)]) rfl (fun w => tb75_0_1_2 0 v1 (OwnS.isSl h1) v2 (OwnS.isSl h2) w)) F S rfl fun a F=>?_
 obtain ⟨g1, l1, S, h3⟩ : ∃ gz, Le g gz ∧ St gz [c2] fr w ∧ RepSl gz ([(⟨#[97]⟩ : ByteArray)] : List ByteArray) v1 := ⟨_, Le.add _ _, S.freeze 1 rfl, OwnS.freeze (S.front 1 rfl) h1⟩
 obtain ⟨g2, l2, S, h4⟩ : ∃ gz, Le g1 gz ∧ St gz [] fr w ∧ RepSl gz ([(⟨#[98]⟩ : ByteArray)] : List ByteArray) v2 := ⟨_, Le.add _ _, S.freeze 0 rfl, OwnS.freeze (S.front 0 rfl) (h2.mono l1)⟩
 refine wl_lit (l := ([({ At := 0, Old := ([(⟨#[97]⟩ : ByteArray)] : List ByteArray), New := ([(⟨#[98]⟩ : ByteArray)] : List ByteArray) } : Hunk)] : List Hunk)) (vs := [.agg #[.i6 0, v1, v2]]) (parts := [(0, .tmp 8)]) (wn rfl) rfl rfl rfl tu53 te75 (sz_cons rfl sz_nil) rfl (Cat.cons (rep_Hunk_mk (x := ({ At := 0, Old := ([(⟨#[97]⟩ : ByteArray)] : List ByteArray), New := ([(⟨#[98]⟩ : ByteArray)] : List ByteArray) } : Hunk)) (h3.mono l2) h4) (Cat.nil _)) (coa_cons rfl coa_nil) rfl F S rfl rfl ?_; clear F a S
 rintro v3 c3 a w h5 F S
 refine wE (ev_build (parts := [(0, .tmp 9)]) (vs := [(0, v3)]) rfl (fun w => tb55_0 v3 (OwnS.isSl h5) w)) F S rfl fun a F=>?_
 refine wl_alloc (wn rfl) rfl tz55 (cs := [nilS]) rfl F S rfl rfl ?_; clear F a S; rintro b1 a w F S
 refine wl_storeC (wn rfl) rfl F S rfl rfl (vs := [v3]) rfl ts55 (one_cons (OwnS.one h5) one_nil) (k := 0) rfl (lb rfl) (c' := #[v3]) rfl rfl ?_; clear S; intro w S
 refine wpList_nil ?_
 refine then_n ?_
 refine wp_seq ?_
 refine wp_region_lit ?_
 refine wE (ev_loadA tu55 rfl (cs := [v3]) ts55 rfl (box_ptr (cells := [v3]) 0 rfl 0 rfl (lb rfl))) F S rfl fun a F=>?_
 refine wl_lit (l := ([(⟨#[97]⟩ : ByteArray)] : List ByteArray)) (vs := [.string (⟨#[97]⟩ : ByteArray)]) (parts := [(0, .const (.string (⟨#[97]⟩ : ByteArray)))]) (wn rfl) rfl rfl rfl tu22 te9 (sz_cons rfl sz_nil) rfl (Cat.cons (show Rep.rep _ (⟨#[97]⟩ : ByteArray) _ from rfl) (Cat.nil _)) (coa_cons rfl coa_nil) rfl F S rfl rfl ?_; clear F a S
 rintro v4 c4 a w h6 F S
 obtain ⟨g3, l3, S, h7⟩ : ∃ gz, Le g2 gz ∧ St gz [c4, [bx b1 #[v3] 55]] fr w ∧ RepSl gz ([({ At := 0, Old := ([(⟨#[97]⟩ : ByteArray)] : List ByteArray), New := ([(⟨#[98]⟩ : ByteArray)] : List ByteArray) } : Hunk)] : List Hunk) v3 := ⟨_, Le.add _ _, S.freeze 2 rfl, OwnS.freeze (S.front 2 rfl) h5⟩
 obtain ⟨g4, l4, S, h8⟩ : ∃ gz, Le g3 gz ∧ St gz [[bx b1 #[v3] 55]] fr w ∧ RepSl gz ([(⟨#[97]⟩ : ByteArray)] : List ByteArray) v4 := ⟨_, Le.add _ _, S.freeze 0 rfl, OwnS.freeze (S.front 0 rfl) (h6.mono l3)⟩
 obtain ⟨y1, hy1, hm⟩ := bind_some hm
 refine wl_call0 (wn rfl) rfl F rfl (textpatch_Apply_ok (fr := (fl [[bx b1 #[v3] 55]] fr)) ({ Hunks := ([({ At := 0, Old := ([(⟨#[97]⟩ : ByteArray)] : List ByteArray), New := ([(⟨#[98]⟩ : ByteArray)] : List ByteArray) } : Hunk)] : List Hunk) } : Patch) v3 (h7.mono l4) ([(⟨#[97]⟩ : ByteArray)] : List ByteArray) v4 h8 S hy1) rfl tc27 rfl rfl ?_; clear F a S
 rintro _ a w ⟨g5, v5, c5, l5, S, h9, rfl⟩ F; replace S : St g5 [c5, [bx b1 #[v3] 55]] fr w := S
 refine wE (ev_move rfl) F S rfl fun a F=>?_
 refine wE (ev_extract rfl rfl) F S rfl fun a F=>?_
 refine wE (ev_extract rfl rfl) F S rfl fun a F=>?_
 refine wl_alloc (wn rfl) rfl tz25 (cs := [.i6 0, .i6 0]) rfl F S rfl rfl ?_; clear F a S; rintro b2 a w F S
 refine wE (ev_assign rfl) F S rfl fun a F=>?_
 refine wl_storeC (wn rfl) rfl F S rfl rfl (vs := [.i6 y1.2.Code, .i6 y1.2.Index]) rfl ts25 (one_cons rfl (one_cons rfl one_nil)) (k := 0) rfl (lb rfl) (c' := #[.i6 y1.2.Code, .i6 y1.2.Index]) rfl rfl ?_; clear S; intro w S
 refine wpList_nil ?_
 refine then_n ?_
 refine wp_seq ?_
 refine wp_region_lit ?_
 refine wE (ev_loadA tu55 rfl (cs := [v3]) ts55 rfl (box_ptr (cells := [v3]) 2 rfl 0 rfl (lb rfl))) F S rfl fun a F=>?_
 obtain ⟨y2, hy2, hm⟩ := bind_some hm
 refine wl_call0 (wn rfl) rfl F rfl (changeforgetop_h11Edit_ok (fr := (fl [[bx b2 #[.i6 y1.2.Code, .i6 y1.2.Index] 25], c5, [bx b1 #[v3] 55]] fr)) (⟨#[120]⟩ : ByteArray) ({ Hunks := ([({ At := 0, Old := ([(⟨#[97]⟩ : ByteArray)] : List ByteArray), New := ([(⟨#[98]⟩ : ByteArray)] : List ByteArray) } : Hunk)] : List Hunk) } : Patch) v3 (h7.mono (l4.trans l5)) S hy2) rfl tc29 rfl rfl ?_; clear F a S
 rintro _ a w ⟨g6, v6, c6, l6, S, h10, rfl⟩ F; replace S : St g6 [c6, [bx b2 #[.i6 y1.2.Code, .i6 y1.2.Index] 25], c5, [bx b1 #[v3] 55]] fr w := S
 refine wl_lit (l := ([(⟨#[97]⟩ : ByteArray)] : List ByteArray)) (vs := [.string (⟨#[97]⟩ : ByteArray)]) (parts := [(0, .const (.string (⟨#[97]⟩ : ByteArray)))]) (wn rfl) rfl rfl rfl tu22 te9 (sz_cons rfl sz_nil) rfl (Cat.cons (show Rep.rep _ (⟨#[97]⟩ : ByteArray) _ from rfl) (Cat.nil _)) (coa_cons rfl coa_nil) rfl F S rfl rfl ?_; clear F a S
 rintro v7 c7 a w h11 F S
 refine wE (ev_build (parts := [(0, .const (.string (⟨#[120]⟩ : ByteArray))), (1, .tmp 20)]) (vs := [(0, .string (⟨#[120]⟩ : ByteArray)), (1, v7)]) rfl (fun w => tb48_0_1 (⟨#[120]⟩ : ByteArray) v7 (OwnS.isSl h11) w)) F S rfl fun a F=>?_
 obtain ⟨g7, l7, S, h12⟩ : ∃ gz, Le g6 gz ∧ St gz [c6, [bx b2 #[.i6 y1.2.Code, .i6 y1.2.Index] 25], c5, [bx b1 #[v3] 55]] fr w ∧ RepSl gz ([(⟨#[97]⟩ : ByteArray)] : List ByteArray) v7 := ⟨_, Le.add _ _, S.freeze 0 rfl, OwnS.freeze (S.front 0 rfl) h11⟩
 refine wl_lit (l := ([({ Path := (⟨#[120]⟩ : ByteArray), Lines := ([(⟨#[97]⟩ : ByteArray)] : List ByteArray) } : File)] : List File)) (vs := [.agg #[.string (⟨#[120]⟩ : ByteArray), v7]]) (parts := [(0, .tmp 21)]) (wn rfl) rfl rfl rfl tu39 te48 (sz_cons rfl sz_nil) rfl (Cat.cons (rep_File_mk (x := ({ Path := (⟨#[120]⟩ : ByteArray), Lines := ([(⟨#[97]⟩ : ByteArray)] : List ByteArray) } : File)) h12) (Cat.nil _)) (coa_cons rfl coa_nil) rfl F S rfl rfl ?_; clear F a S
 rintro v8 c8 a w h13 F S
 refine wE (ev_build (parts := [(0, .tmp 22)]) (vs := [(0, v8)]) rfl (fun w => tb41_0 v8 (OwnS.isSl h13) w)) F S rfl fun a F=>?_
 obtain ⟨g8, l8, S, h14⟩ : ∃ gz, Le g7 gz ∧ St gz [c8, [bx b2 #[.i6 y1.2.Code, .i6 y1.2.Index] 25], c5, [bx b1 #[v3] 55]] fr w ∧ RepSl gz y2.Changes v6 := ⟨_, Le.add _ _, S.freeze 1 rfl, OwnS.freeze (S.front 1 rfl) (h10.mono l7)⟩
 obtain ⟨g9, l9, S, h15⟩ : ∃ gz, Le g8 gz ∧ St gz [[bx b2 #[.i6 y1.2.Code, .i6 y1.2.Index] 25], c5, [bx b1 #[v3] 55]] fr w ∧ RepSl gz ([({ Path := (⟨#[120]⟩ : ByteArray), Lines := ([(⟨#[97]⟩ : ByteArray)] : List ByteArray) } : File)] : List File) v8 := ⟨_, Le.add _ _, S.freeze 0 rfl, OwnS.freeze (S.front 0 rfl) (h13.mono l8)⟩
 obtain ⟨y3, hy3, hm⟩ := bind_some hm
 refine wl_call0 (wn rfl) rfl F rfl (treepatch_Apply_ok (fr := (fl [[bx b2 #[.i6 y1.2.Code, .i6 y1.2.Index] 25], c5, [bx b1 #[v3] 55]] fr)) y2 v6 (h14.mono l9) ({ Files := ([({ Path := (⟨#[120]⟩ : ByteArray), Lines := ([(⟨#[97]⟩ : ByteArray)] : List ByteArray) } : File)] : List File) } : FileTree) v8 h15 S hy3) rfl tc28 rfl rfl ?_; clear F a S
 rintro _ a w ⟨g10, v9, c9, l10, S, h16, rfl⟩ F; replace S : St g10 [c9, [bx b2 #[.i6 y1.2.Code, .i6 y1.2.Index] 25], c5, [bx b1 #[v3] 55]] fr w := S
 refine wE (ev_move rfl) F S rfl fun a F=>?_
 refine wE (ev_extract rfl rfl) F S rfl fun a F=>?_
 refine wE (ev_extract rfl rfl) F S rfl fun a F=>?_
 refine wl_alloc (wn rfl) rfl tz41 (cs := [nilS]) rfl F S rfl rfl ?_; clear F a S; rintro b3 a w F S
 refine wl_alloc (wn rfl) rfl tz25 (cs := [.i6 0, .i6 0]) rfl F S rfl rfl ?_; clear F a S; rintro b4 a w F S
 refine wl_storeC (wn rfl) rfl F S rfl rfl (vs := [v9]) rfl ts41 (one_cons (OwnS.one h16) one_nil) (k := 1) rfl (lb rfl) (c' := #[v9]) rfl rfl ?_; clear S; intro w S
 refine wl_storeC (wn rfl) rfl F S rfl rfl (vs := [.i6 y3.2.Code, .i6 y3.2.Index]) rfl ts25 (one_cons rfl (one_cons rfl one_nil)) (k := 0) rfl (lb rfl) (c' := #[.i6 y3.2.Code, .i6 y3.2.Index]) rfl rfl ?_; clear S; intro w S
 refine wpList_nil ?_
 refine then_n ?_
 refine wp_seq ?_
 refine wp_region_lit ?_
 refine wE (ev_fieldAddr' tu25 tf25_0 (z := 0) ts3 rfl ⟨_, rfl⟩ rfl) F S rfl fun a F=>?_
 refine wE (ev_load1 tu3 rfl rfl (box_ptr (cells := [.i6 y1.2.Code]) 3 rfl 0 rfl (lb rfl))) F S rfl fun a F=>?_
 refine wE (ev_int rfl rfl (bo_eql _ _ _ _)) F S rfl fun a F=>?_
 refine wE (ev_move rfl) F S rfl fun a F=>?_
 obtain ⟨x1, hx1, hm⟩ := bind_some hm
 refine wl_cut 4 (fun a w' => w = w' ∧ Fr 48 a [(34, .bool x1), (4, bp b3 0), (2, v5), (0, .bool false)]) ?_ ?_
 ·clear hm; obtain ⟨hc1, hm⟩ | ⟨hc1, hm⟩ := ite_or hx1
  ·refine wl_ev (wg F rfl rfl rfl rfl hc1) (ev_fieldAddr' tu25 tf25_0 (z := 0) ts3 rfl ⟨_, rfl⟩ rfl) F S rfl rfl ?_; clear F a; intro a F
   refine wl_ev (wg F rfl rfl rfl rfl hc1) (ev_load1 tu3 rfl rfl (box_ptr (cells := [.i6 y3.2.Code]) 0 rfl 0 rfl (lb rfl))) F S rfl rfl ?_; clear F a; intro a F
   refine wl_ev (wg F rfl rfl rfl rfl hc1) (ev_int rfl rfl (bo_eql _ _ _ _)) F S rfl rfl ?_; clear F a; intro a F
   refine wE (ev_pickT rfl hc1 rfl) F S rfl fun a F=>?_
   obtain rfl := sinj hm
   refine wpList_nil (then_n ?_); exact ⟨rfl, F.sub ⟨rfl, rfl, rfl, rfl, trivial⟩⟩
  ·refine wl_skip rfl rfl rfl rfl (ne_tf hc1) F rfl rfl ?_; clear F a; intro a F
   refine wl_skip rfl rfl rfl rfl (ne_tf hc1) F rfl rfl ?_; clear F a; intro a F
   refine wl_skip rfl rfl rfl rfl (ne_tf hc1) F rfl rfl ?_; clear F a; intro a F
   refine wE (ev_pickF rfl hc1 rfl) F S rfl fun a F=>?_
   obtain rfl := sinj hm
   refine wpList_nil (then_n ?_); exact ⟨rfl, F.sub ⟨rfl, rfl, rfl, rfl, trivial⟩⟩
 clear F; rintro a w' ⟨rfl, F⟩
 refine wE (ev_move rfl) F S rfl fun a F=>?_
 obtain ⟨g11, l11, S, h17⟩ : ∃ gz, Le g10 gz ∧ St gz [[bx b4 #[.i6 y3.2.Code, .i6 y3.2.Index] 25], [bx b3 #[v9] 41], c9, [bx b2 #[.i6 y1.2.Code, .i6 y1.2.Index] 25], [bx b1 #[v3] 55]] fr w ∧ RepSl gz y1.1 v5 := ⟨_, Le.add _ _, S.freeze 4 rfl, OwnS.freeze (S.front 4 rfl) (h9.mono ((((l6.trans l7).trans l8).trans l9).trans l10))⟩
 obtain ⟨x2, hx2, hm⟩ := bind_some hm
 refine wl_cut 4 (fun a w => ∃ g12, Fr 48 a [(39, .bool x2), (4, bp b3 0), (0, .bool false)] ∧ Le g11 g12 ∧ St g12 [[bx b4 #[.i6 y3.2.Code, .i6 y3.2.Index] 25], [bx b3 #[v9] 41], c9, [bx b2 #[.i6 y1.2.Code, .i6 y1.2.Index] 25], [bx b1 #[v3] 55]] fr w) ?_ ?_
 ·clear hm; obtain ⟨hc2, hm⟩ | ⟨hc2, hm⟩ := ite_or hx2
  ·refine wl_ev (wg F rfl rfl rfl rfl hc2) (ev_move rfl) F S rfl rfl ?_; clear F a; intro a F
   refine wl_lit (l := ([(⟨#[98]⟩ : ByteArray)] : List ByteArray)) (vs := [.string (⟨#[98]⟩ : ByteArray)]) (parts := [(0, .const (.string (⟨#[98]⟩ : ByteArray)))]) (wg F rfl rfl rfl rfl hc2) rfl rfl rfl tu22 te9 (sz_cons rfl sz_nil) rfl (Cat.cons (show Rep.rep _ (⟨#[98]⟩ : ByteArray) _ from rfl) (Cat.nil _)) (coa_cons rfl coa_nil) rfl F S rfl rfl ?_; clear F a S
   rintro v10 c10 a w h18 F S
   obtain ⟨g13, l13, S, h19⟩ : ∃ gz, Le g11 gz ∧ St gz [[bx b4 #[.i6 y3.2.Code, .i6 y3.2.Index] 25], [bx b3 #[v9] 41], c9, [bx b2 #[.i6 y1.2.Code, .i6 y1.2.Index] 25], [bx b1 #[v3] 55]] fr w ∧ RepSl gz ([(⟨#[98]⟩ : ByteArray)] : List ByteArray) v10 := ⟨_, Le.add _ _, S.freeze 0 rfl, OwnS.freeze (S.front 0 rfl) h18⟩
   obtain ⟨y4, hy4, hm⟩ := bind_some hm
   refine wl_call0 (wg F rfl rfl rfl rfl hc2) rfl F rfl (changeforgeequal_Strings_ok (fr := (fl [[bx b4 #[.i6 y3.2.Code, .i6 y3.2.Index] 25], [bx b3 #[v9] 41], c9, [bx b2 #[.i6 y1.2.Code, .i6 y1.2.Index] 25], [bx b1 #[v3] 55]] fr)) y1.1 v5 (h17.mono l13) ([(⟨#[98]⟩ : ByteArray)] : List ByteArray) v10 h19 S hy4) rfl tc30 rfl rfl ?_; clear F a S
   rintro _ a w ⟨g14, l14, S, rfl⟩ F; replace S : St g14 [[bx b4 #[.i6 y3.2.Code, .i6 y3.2.Index] 25], [bx b3 #[v9] 41], c9, [bx b2 #[.i6 y1.2.Code, .i6 y1.2.Index] 25], [bx b1 #[v3] 55]] fr w := S
   refine wE (ev_pickT rfl hc2 rfl) F S rfl fun a F=>?_
   obtain rfl := sinj hm
   refine wpList_nil (then_n ?_); exact ⟨g14, F.sub ⟨rfl, rfl, rfl, trivial⟩, (l13.trans l14), S⟩
  ·refine wl_skip rfl rfl rfl rfl (ne_tf hc2) F rfl rfl ?_; clear F a; intro a F
   refine wl_skip rfl rfl rfl rfl (ne_tf hc2) F rfl rfl ?_; clear F a; intro a F
   refine wl_skip rfl rfl rfl rfl (ne_tf hc2) F rfl rfl ?_; clear F a; intro a F
   refine wE (ev_pickF rfl hc2 rfl) F S rfl fun a F=>?_
   obtain rfl := sinj hm
   refine wpList_nil (then_n ?_); exact ⟨g11, F.sub ⟨rfl, rfl, rfl, trivial⟩, (Le.refl _), S⟩
 clear F S; rintro a w ⟨g12, F, l12, S⟩
 refine wE (ev_move rfl) F S rfl fun a F=>?_
 obtain ⟨g15, l15, S, h20⟩ : ∃ gz, Le g12 gz ∧ St gz [[bx b4 #[.i6 y3.2.Code, .i6 y3.2.Index] 25], [bx b3 #[v9] 41], [bx b2 #[.i6 y1.2.Code, .i6 y1.2.Index] 25], [bx b1 #[v3] 55]] fr w ∧ RepSl gz y3.1.Files v9 := ⟨_, Le.add _ _, S.freeze 2 rfl, OwnS.freeze (S.front 2 rfl) (h16.mono (l11.trans l12))⟩
 obtain ⟨x3, hx3, hm⟩ := bind_some hm
 refine wl_cut 7 (fun a w => ∃ g16, Fr 48 a [(47, .bool x3), (0, .bool false)] ∧ Le g15 g16 ∧ St g16 [[bx b4 #[.i6 y3.2.Code, .i6 y3.2.Index] 25], [bx b3 #[v9] 41], [bx b2 #[.i6 y1.2.Code, .i6 y1.2.Index] 25], [bx b1 #[v3] 55]] fr w) ?_ ?_
 ·clear hm; obtain ⟨hc3, hm⟩ | ⟨hc3, hm⟩ := ite_or hx3
  ·refine wl_ev (wg F rfl rfl rfl rfl hc3) (ev_loadA tu41 rfl (cs := [v9]) ts41 rfl (box_ptr (cells := [v9]) 1 rfl 0 rfl (lb rfl))) F S rfl rfl ?_; clear F a; intro a F
   refine wl_lit (l := ([(⟨#[98]⟩ : ByteArray)] : List ByteArray)) (vs := [.string (⟨#[98]⟩ : ByteArray)]) (parts := [(0, .const (.string (⟨#[98]⟩ : ByteArray)))]) (wg F rfl rfl rfl rfl hc3) rfl rfl rfl tu22 te9 (sz_cons rfl sz_nil) rfl (Cat.cons (show Rep.rep _ (⟨#[98]⟩ : ByteArray) _ from rfl) (Cat.nil _)) (coa_cons rfl coa_nil) rfl F S rfl rfl ?_; clear F a S
   rintro v11 c11 a w h21 F S
   refine wl_ev (wg F rfl rfl rfl rfl hc3) (ev_build (parts := [(0, .const (.string (⟨#[120]⟩ : ByteArray))), (1, .tmp 42)]) (vs := [(0, .string (⟨#[120]⟩ : ByteArray)), (1, v11)]) rfl (fun w => tb48_0_1 (⟨#[120]⟩ : ByteArray) v11 (OwnS.isSl h21) w)) F S rfl rfl ?_; clear F a; intro a F
   obtain ⟨g17, l17, S, h22⟩ : ∃ gz, Le g15 gz ∧ St gz [[bx b4 #[.i6 y3.2.Code, .i6 y3.2.Index] 25], [bx b3 #[v9] 41], [bx b2 #[.i6 y1.2.Code, .i6 y1.2.Index] 25], [bx b1 #[v3] 55]] fr w ∧ RepSl gz ([(⟨#[98]⟩ : ByteArray)] : List ByteArray) v11 := ⟨_, Le.add _ _, S.freeze 0 rfl, OwnS.freeze (S.front 0 rfl) h21⟩
   refine wl_lit (l := ([({ Path := (⟨#[120]⟩ : ByteArray), Lines := ([(⟨#[98]⟩ : ByteArray)] : List ByteArray) } : File)] : List File)) (vs := [.agg #[.string (⟨#[120]⟩ : ByteArray), v11]]) (parts := [(0, .tmp 43)]) (wg F rfl rfl rfl rfl hc3) rfl rfl rfl tu39 te48 (sz_cons rfl sz_nil) rfl (Cat.cons (rep_File_mk (x := ({ Path := (⟨#[120]⟩ : ByteArray), Lines := ([(⟨#[98]⟩ : ByteArray)] : List ByteArray) } : File)) h22) (Cat.nil _)) (coa_cons rfl coa_nil) rfl F S rfl rfl ?_; clear F a S
   rintro v12 c12 a w h23 F S
   refine wl_ev (wg F rfl rfl rfl rfl hc3) (ev_build (parts := [(0, .tmp 44)]) (vs := [(0, v12)]) rfl (fun w => tb41_0 v12 (OwnS.isSl h23) w)) F S rfl rfl ?_; clear F a; intro a F
   obtain ⟨g18, l18, S, h24⟩ : ∃ gz, Le g17 gz ∧ St gz [[bx b4 #[.i6 y3.2.Code, .i6 y3.2.Index] 25], [bx b3 #[v9] 41], [bx b2 #[.i6 y1.2.Code, .i6 y1.2.Index] 25], [bx b1 #[v3] 55]] fr w ∧ RepSl gz ([({ Path := (⟨#[120]⟩ : ByteArray), Lines := ([(⟨#[98]⟩ : ByteArray)] : List ByteArray) } : File)] : List File) v12 := ⟨_, Le.add _ _, S.freeze 0 rfl, OwnS.freeze (S.front 0 rfl) h23⟩
   obtain ⟨y5, hy5, hm⟩ := bind_some hm
   refine wl_call0 (wg F rfl rfl rfl rfl hc3) rfl F rfl (changeforgeequal_Tree_ok (fr := (fl [[bx b4 #[.i6 y3.2.Code, .i6 y3.2.Index] 25], [bx b3 #[v9] 41], [bx b2 #[.i6 y1.2.Code, .i6 y1.2.Index] 25], [bx b1 #[v3] 55]] fr)) y3.1 v9 (h20.mono (l17.trans l18)) ({ Files := ([({ Path := (⟨#[120]⟩ : ByteArray), Lines := ([(⟨#[98]⟩ : ByteArray)] : List ByteArray) } : File)] : List File) } : FileTree) v12 h24 S hy5) rfl tc31 rfl rfl ?_; clear F a S
   rintro _ a w ⟨g19, l19, S, rfl⟩ F; replace S : St g19 [[bx b4 #[.i6 y3.2.Code, .i6 y3.2.Index] 25], [bx b3 #[v9] 41], [bx b2 #[.i6 y1.2.Code, .i6 y1.2.Index] 25], [bx b1 #[v3] 55]] fr w := S
   refine wE (ev_pickT rfl hc3 rfl) F S rfl fun a F=>?_
   obtain rfl := sinj hm
   refine wpList_nil (then_n ?_); exact ⟨g19, F.sub ⟨rfl, rfl, trivial⟩, ((l17.trans l18).trans l19), S⟩
  ·refine wl_skip rfl rfl rfl rfl (ne_tf hc3) F rfl rfl ?_; clear F a; intro a F
   refine wl_skip rfl rfl rfl rfl (ne_tf hc3) F rfl rfl ?_; clear F a; intro a F
   refine wl_skip rfl rfl rfl rfl (ne_tf hc3) F rfl rfl ?_; clear F a; intro a F
   refine wl_skip rfl rfl rfl rfl (ne_tf hc3) F rfl rfl ?_; clear F a; intro a F
   refine wl_skip rfl rfl rfl rfl (ne_tf hc3) F rfl rfl ?_; clear F a; intro a F
   refine wl_skip rfl rfl rfl rfl (ne_tf hc3) F rfl rfl ?_; clear F a; intro a F
   refine wE (ev_pickF rfl hc3 rfl) F S rfl fun a F=>?_
   obtain rfl := sinj hm
   refine wpList_nil (then_n ?_); exact ⟨g15, F.sub ⟨rfl, rfl, trivial⟩, (Le.refl _), S⟩
 clear F S; rintro a w ⟨g16, F, l16, S⟩
 refine wE (ev_assign rfl) F S rfl fun a F=>?_
 refine wpList_nil ?_
 refine then_n ?_
 refine wp_ret ?_
 obtain rfl := sinj hm
 refine post_r _ F rfl (ar_cons (resT rfl) ar_nil) ?_
 replace S : St g16 [] fr w := St.tail [] _ S
 exact ⟨_, rfl, g16, (((((((((((((l1.trans l2).trans l3).trans l4).trans l5).trans l6).trans l7).trans l8).trans l9).trans l10).trans l11).trans l12).trans l15).trans l16), S, rfl⟩

theorem blame_Annotate_ok {g : Gh} {fr : Hl} {w : World} {r : (List Int) × Fault} (versions : (List (List ByteArray))) (vversions1 : Value) (hversions1 : RepSl g versions vversions1) (S : St g [] fr w) (hm : blame_Annotate versions = some r) :
  Calls Tryd.prog 9 [vversions1].toArray w (fun en w' => ∃ v, en = .returned v ∧ ∃ (g' : Gh) (v1 : Value) (c1 : Hl), Le g g' ∧ St g' [c1] fr w' ∧ OwnS g' r.1 v1 c1 ∧ .tuple #[v1, .agg #[.i6 r.2.Code, .i6 r.2.Index]] = v) := by
 unfold blame_Annotate at hm
 refine calls_enter (fn := Tryd.f9) Tryd.func9 rfl Tryd.ntmps9 (lb rfl) ?_
 intro a F
 replace F : Fr 77 a [(0, vversions1)] := F
 refine wp_seq ?_
 refine wp_region_lit ?_
 refine wE (ev_assign rfl) F S rfl fun a F=>?_
 refine wl_alloc (wn rfl) rfl tz25 (cs := [.i6 0, .i6 0]) rfl F S rfl rfl ?_; clear F a S; rintro b1 a w F S
 refine wpList_nil ?_
 refine then_n ?_
 refine wp_seq ?_
 refine wp_seq ?_
 refine wp_region_lit ?_
 refine wE (ev_move rfl) F S rfl fun a F=>?_
 refine wE (ev_lenSh hversions1 rfl tu34) F S rfl fun a F=>?_
 refine wE (ev_int rfl rfl (bo_gtr _ _ _ _)) F S rfl fun a F=>?_
 refine wpList_nil ?_
 refine then_n ?_
 obtain ⟨hc1, hm⟩ | ⟨hc1, hm⟩ := ite_or hm
 ·refine wp_condT F rfl hc1 ?_
  refine wp_seq ?_
  refine wp_region_lit ?_
  refine wE (ev_build (parts := [(0, .const (.i6 2)), (1, .const (.i6 (-1)))]) (vs := [(0, .i6 2), (1, .i6 (-1))]) rfl (fun w => tb25_0_1 2 (-1) w)) F S rfl fun a F=>?_
  refine wE (ev_assign rfl) F S rfl fun a F=>?_
  refine wl_storeC (wn rfl) rfl F S rfl rfl (vs := [.i6 2, .i6 (-1)]) rfl ts25 (one_cons rfl (one_cons rfl one_nil)) (k := 0) rfl (lb rfl) (c' := #[.i6 2, .i6 (-1)]) rfl rfl ?_; clear S; intro w S
  refine wpList_nil ?_
  refine then_n ?_
  refine wp_ret ?_
  refine then_r ?_
  obtain rfl := sinj hm
  replace S : St g [[], [bx b1 #[.i6 2, .i6 (-1)] 25]] fr w := S
  refine post_r _ F rfl (ar_cons (resT rfl) (ar_cons (resA rfl tu25 rfl (box_ptr (cells := [.i6 2, .i6 (-1)]) 1 rfl 0 rfl (lb rfl) w S) ts25) ar_nil)) ?_
  replace S : St g [[]] fr w := St.tail [[]] _ (S.frontC 0 rfl)
  exact ⟨_, rfl, g, (nilS), [], (Le.refl _), S, (OwnS.nil _), rfl⟩
 ·refine wp_condF F rfl hc1 ?_
  refine wp_skip ?_
  refine then_n ?_
  refine wp_cut (fun a w => ∃ (g1 : Gh), Fr 77 a [(3, bp b1 0), (0, vversions1)] ∧ Le g g1 ∧ St g1 [[bx b1 #[.i6 0, .i6 0] 25]] fr w ∧ blame_Annotate.j1 versions = some r) ?_ ?_
  ·refine wp_seq ?_
   refine wp_region_lit ?_
   refine wE (ev_move rfl) F S rfl fun a F=>?_
   refine wE (ev_lenSh hversions1 rfl tu34) F S rfl fun a F=>?_
   refine wE (ev_move rfl) F S rfl fun a F=>?_
   refine wpList_nil ?_
   refine then_n ?_
   refine wp_block ?_
   obtain ⟨r3, hr9, hm⟩ := bind_some hm
   have hmo3 := hm; clear hm
   refine wp_iter (σ := Int) (ρ := ((List Int) × Fault) ⊕ Unit) (m := fun s => blame_Annotate.l3 versions s) (I := fun x14 a w => ∃ (g11 : Gh), Fr 77 a [(19, .i6 x14), (18, .i6 (versions.length : Int)), (17, vversions1), (3, bp b1 0), (0, vversions1)] ∧ Le g g11 ∧ St g11 [[bx b1 #[.i6 0, .i6 0] 25]] fr w) hr9 ?_ ?_
   ·exact ⟨g, F.sub ⟨rfl, rfl, rfl, rfl, rfl, trivial⟩, (Le.refl _), S⟩
   ·clear F S; rintro x14 a w x15 ⟨g11, F, l11, S⟩ hx3 hfin3
    have hm : blame_Annotate.l3 versions x14 = some x15 := hx3; clear hx3
    unfold blame_Annotate.l3 at hm
    refine wp_seq ?_
    refine wp_region_lit ?_
    refine wE (ev_int rfl rfl (bo_lss _ _ _ _)) F S rfl fun a F=>?_
    refine wpList_nil ?_
    refine then_n ?_
    refine wp_seq ?_
    obtain ⟨hc7, hm⟩ | ⟨hc7, hm⟩ := ite_or hm
    ·refine wp_condT F rfl hc7 ?_
     refine wp_skip ?_
     refine then_n ?_
     refine wp_seq ?_
     refine wp_block ?_
     refine wp_seq ?_
     refine wp_region_lit ?_
     refine wE (ev_move rfl) F S rfl fun a F=>?_
     obtain ⟨y10, hy10, hm⟩ := bind_some hm
     obtain ⟨cs7, hr10, hp4⟩ := elemS (hversions1.mono l11) hy10
     obtain ⟨v19, rfl, h20⟩ := rep_list hr10
     refine wE (ev_idxS (hversions1.mono l11) hy10 tu34 ts22 rfl rfl) F S rfl fun a F=>?_
     refine wE (ev_load1 tu22 rfl rfl (ptr_mono (cks := [[bx b1 #[.i6 0, .i6 0] 25]]) (fr := fr) hp4 (Le.refl _))) F S rfl fun a F=>?_
     refine wE (ev_assign rfl) F S rfl fun a F=>?_
     refine wE (ev_assign rfl) F S rfl fun a F=>?_
     refine wpList_nil ?_
     refine then_n ?_
     refine wp_seq ?_
     refine wp_region_lit ?_
     refine wE (ev_move rfl) F S rfl fun a F=>?_
     refine wE (ev_move rfl) F S rfl fun a F=>?_
     obtain ⟨y11, hy11, hm⟩ := bind_some hm
     refine wl_call0 (wn rfl) rfl F rfl (lines_Second_ok (fr := (fl [[bx b1 #[.i6 0, .i6 0] 25]] fr)) y10 v19 h20 x14 S hy11) rfl tc17 rfl rfl ?_; clear F a S
     rintro _ a w ⟨g12, l12, S, rfl⟩ F; replace S : St g12 [[bx b1 #[.i6 0, .i6 0] 25]] fr w := S
     refine wl_alloc (wn rfl) rfl tz25 (cs := [.i6 0, .i6 0]) rfl F S rfl rfl ?_; clear F a S; rintro b2 a w F S
     refine wl_storeC (wn rfl) rfl F S rfl rfl (vs := [.i6 y11.Code, .i6 y11.Index]) rfl ts25 (one_cons rfl (one_cons rfl one_nil)) (k := 0) rfl (lb rfl) (c' := #[.i6 y11.Code, .i6 y11.Index]) rfl rfl ?_; clear S; intro w S
     refine wpList_nil ?_
     refine then_n ?_
     refine wp_seq ?_
     refine wp_region_lit ?_
     refine wE (ev_loadA tu25 rfl (cs := [.i6 y11.Code, .i6 y11.Index]) ts25 rfl (box_ptr (cells := [.i6 y11.Code, .i6 y11.Index]) 0 rfl 0 rfl (lb rfl))) F S rfl fun a F=>?_
     refine wE (ev_build (parts := []) (vs := []) rfl (fun w => tb25_  w)) F S rfl fun a F=>?_
     refine wE (ev_neS tu25 tqa25 tqb25 tqc25 (xs := [.i6 y11.Code, .i6 y11.Index]) (ys := [.i6 0, .i6 0]) rfl rfl ⟨_, _, rfl, by decide, ⟨_, _, rfl, rfl, leaf_int tu3⟩, ⟨_, _, rfl, by decide, ⟨_, _, rfl, rfl, leaf_int tu3⟩, rfl⟩⟩) F S rfl fun a F=>?_
     refine wpList_nil ?_
     refine then_n ?_
     obtain ⟨hc8, hm⟩ | ⟨hc8, hm⟩ := ite_or hm
     ·refine wp_condT F rfl hc8 ?_
      refine wp_seq ?_
      refine wp_dv [] mo S ?_; clear S; intro ok1 w S
      refine dv_ev ok1 0 rfl (ev_loadA tu25 rfl (cs := [.i6 y11.Code, .i6 y11.Index]) ts25 rfl (box_ptr (cells := [.i6 y11.Code, .i6 y11.Index]) 0 rfl 0 rfl (lb rfl))) F S rfl fun a F=>?_
      refine dv_et ok1 1 rfl (ev_assign rfl) F rfl fun a F=>?_
      refine dv_op ok1 2 rfl [] ?_
      refine wl_storeC (wn rfl) rfl F S rfl rfl (vs := [.i6 y11.Code, .i6 y11.Index]) rfl ts25 (one_cons rfl (one_cons rfl one_nil)) (k := 1) rfl (lb rfl) (c' := #[.i6 y11.Code, .i6 y11.Index]) rfl rfl ?_; clear S; intro w S
      refine dv_nx trivial ?_
      refine dv_fin ok1 ?_
      refine then_n ?_
      refine wp_ret ?_
      refine inb_r ?_
      refine then_r ?_
      refine then_r ?_
      refine inb_r ?_
      refine then_r ?_
      obtain rfl := sinj hm
      obtain rfl := hfin3 _ rfl
      clear hm
      have hm : (some ([], y11) : Option ((List Int) × Fault)) = some _ := hmo3
      obtain rfl := sinj hm
      replace S : St g12 [[], [bx b2 #[.i6 y11.Code, .i6 y11.Index] 25], [bx b1 #[.i6 y11.Code, .i6 y11.Index] 25]] fr w := S
      refine post_r _ F rfl (ar_cons (resT rfl) (ar_cons (resA rfl tu25 rfl (box_ptr (cells := [.i6 y11.Code, .i6 y11.Index]) 2 rfl 0 rfl (lb rfl) w S) ts25) ar_nil)) ?_
      replace S : St g12 [[]] fr w := St.tail [[]] _ (S.frontC 0 rfl)
      exact ⟨_, rfl, g12, (nilS), [], (l11.trans l12), S, (OwnS.nil _), rfl⟩
     ·refine wp_condF F rfl hc8 ?_
      refine wp_skip ?_
      refine inb_n ?_
      refine then_n ?_
      refine wp_region_lit ?_
      obtain ⟨z4, hz4, hm⟩ := bind_some hm
      refine wE (ev_int rfl rfl (bo_add hz4)) F S rfl fun a F=>?_
      refine wE (ev_move rfl) F S rfl fun a F=>?_
      refine wpList_nil ?_
      refine then_n ?_
      obtain rfl := sinj hm
      refine ⟨_, rfl, ?_⟩
      replace S : St g12 [[bx b1 #[.i6 0, .i6 0] 25]] fr w := St.tail [[bx b1 #[.i6 0, .i6 0] 25]] _ (S.frontC 1 rfl)
      exact ⟨g12, F.sub ⟨rfl, rfl, rfl, rfl, rfl, trivial⟩, (l11.trans l12), S⟩
    ·refine wp_condF F rfl hc7 ?_
     refine wp_exit ?_
     refine then_e ?_
     refine then_e ?_
     refine inb_x ?_
     refine then_n ?_
     obtain rfl := sinj hm
     obtain rfl := hfin3 _ rfl
     clear hm
     have hm : (blame_Annotate.j1 versions : Option ((List Int) × Fault)) = some _ := hmo3
     exact ⟨g11, F.sub ⟨rfl, rfl, trivial⟩, l11, S, hm⟩
  ·clear F S hm; rintro a w ⟨g1, F, l1, S, hm⟩
   refine wp_seq ?_
   refine wp_region_lit ?_
   refine wE (ev_assign rfl) F S rfl fun a F=>?_
   refine wE (ev_assign rfl) F S rfl fun a F=>?_
   refine wpList_nil ?_
   refine then_n ?_
   refine wp_cut (fun a w => ∃ (x1 : List Int) (v1 : Value) (c1 : Hl) (g2 : Gh), Fr 77 a [(7, v1), (3, bp b1 0)] ∧ Le g1 g2 ∧ St g2 [c1, [bx b1 #[.i6 0, .i6 0] 25]] fr w ∧ OwnS g2 x1 v1 c1 ∧ blame_Annotate.j2 x1 = some r) ?_ ?_
   ·refine wp_seq ?_
    refine wp_region_lit ?_
    refine wE (ev_move rfl) F S rfl fun a F=>?_
    refine wE (ev_lenSh hversions1 rfl tu34) F S rfl fun a F=>?_
    refine wE (ev_move rfl) F S rfl fun a F=>?_
    refine wpList_nil ?_
    refine then_n ?_
    refine wp_block ?_
    obtain ⟨r1, hr1, hm⟩ := bind_some hm
    have hmo1 := hm; clear hm
    refine wp_iter (σ := Int × (List Int)) (ρ := (List Int)) (m := fun s => blame_Annotate.l1 versions s.1 s.2) (I := fun s a w => match s with | (x2, x3) => ∃ (v2 : Value) (c2 : Hl) (g3 : Gh), Fr 77 a [(34, .i6 x2), (33, .i6 (versions.length : Int)), (32, vversions1), (7, v2), (3, bp b1 0), (0, vversions1)] ∧ Le g1 g3 ∧ St g3 [c2, [bx b1 #[.i6 0, .i6 0] 25]] fr w ∧ OwnS g3 x3 v2 c2) hr1 ?_ ?_
    ·dsimp only
     replace S : St g1 [[], [bx b1 #[.i6 0, .i6 0] 25]] fr w := S
     exact ⟨(nilS), [], g1, F.sub ⟨rfl, rfl, rfl, rfl, rfl, rfl, trivial⟩, (Le.refl _), S, (OwnS.nil _)⟩
    ·clear F S; rintro ⟨x2, x3⟩ a w x4 ⟨v2, c2, g3, F, l3, S, h2⟩ hx1 hfin1
     have hm : blame_Annotate.l1 versions x2 x3 = some x4 := hx1; clear hx1
     unfold blame_Annotate.l1 at hm
     refine wp_seq ?_
     refine wp_region_lit ?_
     refine wE (ev_int rfl rfl (bo_lss _ _ _ _)) F S rfl fun a F=>?_
     refine wpList_nil ?_
     refine then_n ?_
     refine wp_seq ?_
     obtain ⟨hc2, hm⟩ | ⟨hc2, hm⟩ := ite_or hm
     ·refine wp_condT F rfl hc2 ?_
      refine wp_skip ?_
      refine then_n ?_
      refine wp_cut (fun a w => ∃ (x5 : List Int) (v3 : Value) (c3 : Hl) (g4 : Gh), Fr 77 a [(7, v3), (34, .i6 x2), (33, .i6 (versions.length : Int)), (32, vversions1), (3, bp b1 0), (0, vversions1)] ∧ Le g3 g4 ∧ St g4 [c3, [bx b1 #[.i6 0, .i6 0] 25]] fr w ∧ OwnS g4 x5 v3 c3 ∧ blame_Annotate.j3 x2 x5 = some x4) ?_ ?_
      ·refine wp_block ?_
       refine wp_seq ?_
       refine wp_region_lit ?_
       refine wE (ev_move rfl) F S rfl fun a F=>?_
       obtain ⟨y1, hy1, hm⟩ := bind_some hm
       obtain ⟨cs1, hr2, hp1⟩ := elemS (hversions1.mono (l1.trans l3)) hy1
       obtain ⟨v4, rfl, h4⟩ := rep_list hr2
       refine wE (ev_idxS (hversions1.mono (l1.trans l3)) hy1 tu34 ts22 rfl rfl) F S rfl fun a F=>?_
       refine wE (ev_load1 tu22 rfl rfl (ptr_mono (cks := [c2, [bx b1 #[.i6 0, .i6 0] 25]]) (fr := fr) hp1 (Le.refl _))) F S rfl fun a F=>?_
       refine wE (ev_assign rfl) F S rfl fun a F=>?_
       refine wE (ev_assign rfl) F S rfl fun a F=>?_
       refine wpList_nil ?_
       refine then_n ?_
       refine wp_seq ?_
       refine wp_seq ?_
       refine wp_region_lit ?_
       refine wE (ev_move rfl) F S rfl fun a F=>?_
       refine wE (ev_int rfl rfl (bo_eql _ _ _ _)) F S rfl fun a F=>?_
       refine wpList_nil ?_
       refine then_n ?_
       obtain ⟨hc3, hm⟩ | ⟨hc3, hm⟩ := ite_or hm
       ·refine wp_condT F rfl hc3 ?_
        refine wp_seq ?_
        refine wp_region_lit ?_
        refine wE (ev_move rfl) F S rfl fun a F=>?_
        refine wE (ev_lenSh h4 rfl tu22) F S rfl fun a F=>?_
        obtain ⟨y2, hy2, hm⟩ := bind_some hm
        refine wl_make (wn rfl) rfl tu31 te3 (fun g => (show Rep.rep g (0 : Int) _ from rfl)) rfl hy2 (by decide) F S rfl rfl ?_; clear F a S; rintro v5 c4 a w h5 F S
        refine wE (ev_assign rfl) F S rfl fun a F=>?_
        refine wpList_nil ?_
        refine then_n ?_
        refine wp_exit ?_
        refine then_e ?_
        refine inb_x ?_
        refine then_n ?_
        replace S : St g3 [c4, [bx b1 #[.i6 0, .i6 0] 25]] fr w := St.tail [c4, [bx b1 #[.i6 0, .i6 0] 25]] _ ((S.frontC 2 rfl).frontC 1 rfl)
        exact ⟨y2, v5, c4, g3, F.sub ⟨rfl, rfl, rfl, rfl, rfl, rfl, trivial⟩, (Le.refl _), S, h5, hm⟩
       ·refine wp_condF F rfl hc3 ?_
        refine wp_skip ?_
        refine then_n ?_
        refine wp_seq ?_
        refine wp_region_lit ?_
        refine wE (ev_move rfl) F S rfl fun a F=>?_
        refine wE (ev_assign rfl) F S rfl fun a F=>?_
        refine wE (ev_assign rfl) F S rfl fun a F=>?_
        refine wpList_nil ?_
        refine then_n ?_
        refine wp_seq ?_
        refine wp_region_lit ?_
        refine wE (ev_move rfl) F S rfl fun a F=>?_
        refine wE (ev_move rfl) F S rfl fun a F=>?_
        obtain ⟨z2, hz2, hm⟩ := bind_some hm
        refine wE (ev_int rfl rfl (bo_sub hz2)) F S rfl fun a F=>?_
        obtain ⟨y3, hy3, hm⟩ := bind_some hm
        obtain ⟨cs2, hr3, hp2⟩ := elemS (hversions1.mono (l1.trans l3)) hy3
        obtain ⟨v6, rfl, h6⟩ := rep_list hr3
        refine wE (ev_idxS (hversions1.mono (l1.trans l3)) hy3 tu34 ts22 rfl rfl) F S rfl fun a F=>?_
        refine wE (ev_load1 tu22 rfl rfl (ptr_mono (cks := [c2, [bx b1 #[.i6 0, .i6 0] 25]]) (fr := fr) hp2 (Le.refl _))) F S rfl fun a F=>?_
        refine wE (ev_move rfl) F S rfl fun a F=>?_
        obtain ⟨y4, hy4, hm⟩ := bind_some hm
        refine wl_call0 (wn rfl) rfl F rfl (diff_Align_ok (fr := (fl [c2, [bx b1 #[.i6 0, .i6 0] 25]] fr)) y3 v6 h6 y1 v4 h4 S hy4) rfl tc32 rfl rfl ?_; clear F a S
        rintro _ a w ⟨g5, v7, c5, l5, S, h7, rfl⟩ F; replace S : St g5 [c5, c2, [bx b1 #[.i6 0, .i6 0] 25]] fr w := S
        refine wE (ev_lenOw h7 rfl tu31) F S rfl fun a F=>?_
        refine wE (ev_move rfl) F S rfl fun a F=>?_
        refine wpList_nil ?_
        refine then_n ?_
        refine wp_cut1 (fun a w => ∃ (x6 : List Int) (v8 : Value) (c6 : Hl) (g6 : Gh), Fr 77 a [(7, v8), (34, .i6 x2), (33, .i6 (versions.length : Int)), (32, vversions1), (3, bp b1 0), (0, vversions1)] ∧ Le g5 g6 ∧ St g6 [c6, [bx b1 #[.i6 0, .i6 0] 25]] fr w ∧ OwnS g6 x6 v8 c6 ∧ blame_Annotate.j4 x2 x6 = some x4) ?_ ?_
        ·refine wp_block ?_
         obtain ⟨r2, hr4, hm⟩ := bind_some hm
         have hmo2 := hm; clear hm
         refine wp_iter (σ := Int × (List Int) × (List Int)) (ρ := (List Int)) (m := fun s => blame_Annotate.l2 x2 y4 s.1 s.2.1 s.2.2) (I := fun s a w => match s with | (x7, x8, x9) => ∃ (v9 v10 : Value) (c7 : Hl) (g7 : Gh), Fr 77 a [(53, .i6 x7), (52, .i6 (y4.length : Int)), (51, v7), (7, v9), (8, v10), (9, .i6 x2), (34, .i6 x2), (33, .i6 (versions.length : Int)), (32, vversions1), (3, bp b1 0), (0, vversions1)] ∧ Le g5 g7 ∧ St g7 [c5, c7, [bx b1 #[.i6 0, .i6 0] 25]] fr w ∧ OwnS g7 x8 v9 c7 ∧ RepSl g7 x9 v10) hr4 ?_ ?_
         ·dsimp only
          obtain ⟨g8, l8, S, h11⟩ : ∃ gz, Le g5 gz ∧ St gz [c5, [bx b1 #[.i6 0, .i6 0] 25]] fr w ∧ RepSl gz x3 v2 := ⟨_, Le.add _ _, S.freeze 1 rfl, OwnS.freeze (S.front 1 rfl) (h2.mono l5)⟩
          replace S : St g8 [[], c5, [bx b1 #[.i6 0, .i6 0] 25]] fr w := S
          replace S : St g8 [c5, [], [bx b1 #[.i6 0, .i6 0] 25]] fr w := St.tail [c5, [], [bx b1 #[.i6 0, .i6 0] 25]] _ (((S.frontC 2 rfl).frontC 1 rfl).frontC 3 rfl)
          exact ⟨(nilS), v2, [], g8, F.sub ⟨rfl, rfl, rfl, rfl, rfl, rfl, rfl, rfl, rfl, rfl, rfl, trivial⟩, l8, S, (OwnS.nil _), h11⟩
         ·clear F S; rintro ⟨x7, x8, x9⟩ a w x10 ⟨v9, v10, c7, g7, F, l7, S, h9, h10⟩ hx2 hfin2
          have hm : blame_Annotate.l2 x2 y4 x7 x8 x9 = some x10 := hx2; clear hx2
          unfold blame_Annotate.l2 at hm
          refine wp_seq ?_
          refine wp_region_lit ?_
          refine wE (ev_int rfl rfl (bo_lss _ _ _ _)) F S rfl fun a F=>?_
          refine wpList_nil ?_
          refine then_n ?_
          refine wp_seq ?_
          obtain ⟨hc4, hm⟩ | ⟨hc4, hm⟩ := ite_or hm
          ·refine wp_condT F rfl hc4 ?_
           refine wp_skip ?_
           refine then_n ?_
           refine wp_cut (fun a w => ∃ (x11 : List Int) (x12 : List Int) (v11 v12 : Value) (c8 : Hl) (g9 : Gh), Fr 77 a [(7, v11), (53, .i6 x7), (52, .i6 (y4.length : Int)), (51, v7), (8, v12), (9, .i6 x2), (34, .i6 x2), (33, .i6 (versions.length : Int)), (32, vversions1), (3, bp b1 0), (0, vversions1)] ∧ Le g7 g9 ∧ St g9 [c8, c5, [bx b1 #[.i6 0, .i6 0] 25]] fr w ∧ OwnS g9 x11 v11 c8 ∧ RepSl g9 x12 v12 ∧ blame_Annotate.j5 x7 x11 x12 = some x10) ?_ ?_
           ·refine wp_block ?_
            refine wp_seq ?_
            refine wp_region_lit ?_
            obtain ⟨y5, hy5, hm⟩ := bind_some hm
            refine wE (ev_idxO (h7.mono l7) hy5 tu31 ts3 rfl rfl) F S rfl fun a F=>?_
            obtain ⟨cs3, hr5, hq1⟩ := elemO (h7.mono l7) hy5
            obtain rfl := rep_int hr5
            refine wE (ev_load1 tu3 rfl rfl (hq1 _ _ 0 rfl)) F S rfl fun a F=>?_
            refine wE (ev_assign rfl) F S rfl fun a F=>?_
            refine wpList_nil ?_
            refine then_n ?_
            refine wp_seq ?_
            refine wp_seq ?_
            refine wp_region_lit ?_
            refine wE (ev_move rfl) F S rfl fun a F=>?_
            refine wE (ev_int rfl rfl (bo_eql _ _ _ _)) F S rfl fun a F=>?_
            refine wpList_nil ?_
            refine then_n ?_
            obtain ⟨hc5, hm⟩ | ⟨hc5, hm⟩ := ite_or hm
            ·refine wp_condT F rfl hc5 ?_
             refine wp_seq ?_
             refine wp_region_lit ?_
             refine wE (ev_move rfl) F S rfl fun a F=>?_
             refine wE (ev_move rfl) F S rfl fun a F=>?_
             refine wl_lit (l := ([x2] : List Int)) (vs := [.i6 x2]) (parts := [(0, .tmp 60)]) (wn rfl) rfl rfl rfl tu31 te3 (sz_cons rfl sz_nil) rfl (Cat.cons (show Rep.rep _ x2 _ from rfl) (Cat.nil _)) (coa_cons rfl coa_nil) rfl F S rfl rfl ?_; clear F a S
             rintro v13 c9 a w h14 F S
             obtain ⟨cs4, hk1, hr6⟩ := OwnS.reads h14
             obtain ⟨y6, hy6, hm⟩ := bind_some hm
             refine wl_append (wn rfl) rfl tu31 tu31 te3 (by decide) (by decide) F S rfl rfl (k := 2) rfl h9 hk1 rfl (hr6 _ _ _ 0 rfl S) hy6 rfl rfl ?_; clear F a S
             rintro v14 c10 a w h15 S F; replace S : St g7 [c9, c5, c10, [bx b1 #[.i6 0, .i6 0] 25]] fr w := S
             refine wE (ev_assign rfl) F S rfl fun a F=>?_
             refine wpList_nil ?_
             refine then_n ?_
             refine wp_exit ?_
             refine then_e ?_
             refine inb_x ?_
             refine then_n ?_
             replace S : St g7 [c10, c5, [bx b1 #[.i6 0, .i6 0] 25]] fr w := St.tail [c10, c5, [bx b1 #[.i6 0, .i6 0] 25]] _ (((S.frontC 3 rfl).frontC 2 rfl).frontC 4 rfl)
             exact ⟨y6, x9, v14, v10, c10, g7, F.sub ⟨rfl, rfl, rfl, rfl, rfl, rfl, rfl, rfl, rfl, rfl, rfl, trivial⟩, (Le.refl _), S, h15, h10, hm⟩
            ·refine wp_condF F rfl hc5 ?_
             refine wp_skip ?_
             refine then_n ?_
             refine wp_cut (fun a w => ∃ (x13 : List Int) (v15 : Value) (c11 : Hl) (g10 : Gh), Fr 77 a [(7, v15), (53, .i6 x7), (52, .i6 (y4.length : Int)), (51, v7), (8, v10), (9, .i6 x2), (34, .i6 x2), (33, .i6 (versions.length : Int)), (32, vversions1), (3, bp b1 0), (0, vversions1)] ∧ Le g7 g10 ∧ St g10 [c11, c5, [bx b1 #[.i6 0, .i6 0] 25]] fr w ∧ OwnS g10 x13 v15 c11 ∧ blame_Annotate.j6 x7 x9 x13 = some x10) ?_ ?_
             ·refine wp_seq ?_
              refine wp_region_lit ?_
              refine wE (ev_move rfl) F S rfl fun a F=>?_
              refine wE (ev_int rfl rfl (bo_eql _ _ _ _)) F S rfl fun a F=>?_
              refine wpList_nil ?_
              refine then_n ?_
              obtain ⟨hc6, hm⟩ | ⟨hc6, hm⟩ := ite_or hm
              ·refine wp_condT F rfl hc6 ?_
               refine wp_region_lit ?_
               refine wE (ev_move rfl) F S rfl fun a F=>?_
               refine wE (ev_move rfl) F S rfl fun a F=>?_
               obtain ⟨y8, hy8, hm⟩ := bind_some hm
               obtain ⟨cs5, hr7, hp3⟩ := elemS h10 hy8
               obtain rfl := rep_int hr7
               refine wE (ev_idxS h10 hy8 tu31 ts3 rfl rfl) F S rfl fun a F=>?_
               refine wE (ev_load1 tu3 rfl rfl (ptr_mono (cks := [c5, c7, [bx b1 #[.i6 0, .i6 0] 25]]) (fr := fr) hp3 (Le.refl _))) F S rfl fun a F=>?_
               refine wl_lit (l := ([y8] : List Int)) (vs := [.i6 y8]) (parts := [(0, .tmp 68)]) (wn rfl) rfl rfl rfl tu31 te3 (sz_cons rfl sz_nil) rfl (Cat.cons (show Rep.rep _ y8 _ from rfl) (Cat.nil _)) (coa_cons rfl coa_nil) rfl F S rfl rfl ?_; clear F a S
               rintro v17 c12 a w h18 F S
               obtain ⟨cs6, hk2, hr8⟩ := OwnS.reads h18
               obtain ⟨y9, hy9, hm⟩ := bind_some hm
               refine wl_append (wn rfl) rfl tu31 tu31 te3 (by decide) (by decide) F S rfl rfl (k := 2) rfl h9 hk2 rfl (hr8 _ _ _ 0 rfl S) hy9 rfl rfl ?_; clear F a S
               rintro v18 c13 a w h19 S F; replace S : St g7 [c12, c5, c13, [bx b1 #[.i6 0, .i6 0] 25]] fr w := S
               refine wE (ev_assign rfl) F S rfl fun a F=>?_
               refine wpList_nil ?_
               refine then_n ?_
               replace S : St g7 [c13, c5, [bx b1 #[.i6 0, .i6 0] 25]] fr w := St.tail [c13, c5, [bx b1 #[.i6 0, .i6 0] 25]] _ (((S.frontC 3 rfl).frontC 2 rfl).frontC 4 rfl)
               exact ⟨y9, v18, c13, g7, F.sub ⟨rfl, rfl, rfl, rfl, rfl, rfl, rfl, rfl, rfl, rfl, rfl, trivial⟩, (Le.refl _), S, h19, hm⟩
              ·refine wp_condF F rfl hc6 ?_
               refine wp_skip ?_
               refine then_n ?_
               replace S : St g7 [c7, c5, [bx b1 #[.i6 0, .i6 0] 25]] fr w := St.tail [c7, c5, [bx b1 #[.i6 0, .i6 0] 25]] _ (((S.frontC 2 rfl).frontC 1 rfl).frontC 3 rfl)
               exact ⟨x8, v9, c7, g7, F.sub ⟨rfl, rfl, rfl, rfl, rfl, rfl, rfl, rfl, rfl, rfl, rfl, trivial⟩, (Le.refl _), S, h9, hm⟩
             ·clear F S hm; rintro a w ⟨x13, v15, c11, g10, F, l10, S, h16, hm⟩
              refine wp_region_lit ?_
              refine wE (ev_move rfl) F S rfl fun a F=>?_
              obtain ⟨y7, hy7, hm⟩ := bind_some hm
              refine wl_cutS (wn rfl) rfl (h10.mono l10) hy7 tu31 ts3 rfl (bndV rfl) (bnd0 _) F rfl rfl ?_; clear F a; rintro v16 h17 a F
              refine wE (ev_assign rfl) F S rfl fun a F=>?_
              refine wpList_nil ?_
              refine inb_n ?_
              refine then_n ?_
              exact ⟨x13, y7, v15, v16, c11, g10, F.sub ⟨rfl, rfl, rfl, rfl, rfl, rfl, rfl, rfl, rfl, rfl, rfl, trivial⟩, l10, S, h16, h17, hm⟩
           ·clear F S hm; rintro a w ⟨x11, x12, v11, v12, c8, g9, F, l9, S, h12, h13, hm⟩
            refine wp_region_lit ?_
            obtain ⟨z3, hz3, hm⟩ := bind_some hm
            refine wE (ev_int rfl rfl (bo_add hz3)) F S rfl fun a F=>?_
            refine wE (ev_move rfl) F S rfl fun a F=>?_
            refine wpList_nil ?_
            refine then_n ?_
            obtain rfl := sinj hm
            refine ⟨_, rfl, ?_⟩
            dsimp only
            replace S : St g9 [c5, c8, [bx b1 #[.i6 0, .i6 0] 25]] fr w := St.tail [c5, c8, [bx b1 #[.i6 0, .i6 0] 25]] _ (((S.frontC 2 rfl).frontC 1 rfl).frontC 3 rfl)
            exact ⟨v11, v12, c8, g9, F.sub ⟨rfl, rfl, rfl, rfl, rfl, rfl, rfl, rfl, rfl, rfl, rfl, trivial⟩, (l7.trans l9), S, h12, h13⟩
          ·refine wp_condF F rfl hc4 ?_
           refine wp_exit ?_
           refine then_e ?_
           refine then_e ?_
           refine inb_x ?_
           refine then_n ?_
           obtain rfl := sinj hm
           obtain rfl := hfin2 _ rfl
           clear hm
           have hm : (blame_Annotate.j4 x2 x8 : Option (Step (Int × (List Int)) (List Int))) = some _ := hmo2
           replace S : St g7 [c7, [bx b1 #[.i6 0, .i6 0] 25]] fr w := St.tail [c7, [bx b1 #[.i6 0, .i6 0] 25]] _ ((S.frontC 2 rfl).frontC 2 rfl)
           exact ⟨x8, v9, c7, g7, F.sub ⟨rfl, rfl, rfl, rfl, rfl, rfl, trivial⟩, l7, S, h9, hm⟩
        ·clear F S hm; rintro a w ⟨x6, v8, c6, g6, F, l6, S, h8, hm⟩
         refine inb_n ?_
         refine then_n ?_
         exact ⟨x6, v8, c6, g6, F.sub ⟨rfl, rfl, rfl, rfl, rfl, rfl, trivial⟩, (l5.trans l6), S, h8, hm⟩
      ·clear F S hm; rintro a w ⟨x5, v3, c3, g4, F, l4, S, h3, hm⟩
       refine wp_region_lit ?_
       obtain ⟨z1, hz1, hm⟩ := bind_some hm
       refine wE (ev_int rfl rfl (bo_add hz1)) F S rfl fun a F=>?_
       refine wE (ev_move rfl) F S rfl fun a F=>?_
       refine wpList_nil ?_
       refine then_n ?_
       obtain rfl := sinj hm
       refine ⟨_, rfl, ?_⟩
       dsimp only
       exact ⟨v3, c3, g4, F.sub ⟨rfl, rfl, rfl, rfl, rfl, rfl, trivial⟩, (l3.trans l4), S, h3⟩
     ·refine wp_condF F rfl hc2 ?_
      refine wp_exit ?_
      refine then_e ?_
      refine then_e ?_
      refine inb_x ?_
      refine then_n ?_
      obtain rfl := sinj hm
      obtain rfl := hfin1 _ rfl
      clear hm
      have hm : (blame_Annotate.j2 x3 : Option ((List Int) × Fault)) = some _ := hmo1
      exact ⟨x3, v2, c2, g3, F.sub ⟨rfl, rfl, trivial⟩, l3, S, h2, hm⟩
   ·clear F S hm; rintro a w ⟨x1, v1, c1, g2, F, l2, S, h1, hm⟩
    refine wp_seq ?_
    refine wp_region_lit ?_
    refine wE (ev_move rfl) F S rfl fun a F=>?_
    refine wE (ev_build (parts := []) (vs := []) rfl (fun w => tb25_  w)) F S rfl fun a F=>?_
    refine wE (ev_assign rfl) F S rfl fun a F=>?_
    refine wl_storeC (wn rfl) rfl F S rfl rfl (vs := [.i6 0, .i6 0]) rfl ts25 (one_cons rfl (one_cons rfl one_nil)) (k := 1) rfl (lb rfl) (c' := #[.i6 0, .i6 0]) rfl rfl ?_; clear S; intro w S
    refine wpList_nil ?_
    refine then_n ?_
    refine wp_ret ?_
    obtain rfl := sinj hm
    refine post_r _ F rfl (ar_cons (resT rfl) (ar_cons (resA rfl tu25 rfl (box_ptr (cells := [.i6 0, .i6 0]) 1 rfl 0 rfl (lb rfl) w S) ts25) ar_nil)) ?_
    replace S : St g2 [c1] fr w := St.tail [c1] _ (S.frontC 0 rfl)
    exact ⟨_, rfl, g2, v1, c1, (l1.trans l2), S, h1, rfl⟩

theorem changeforgetop_h11Has_ok {g : Gh} {fr : Hl} {w : World} {r : Bool} (l_ : (List ByteArray)) (vl_1 : Value) (hl_1 : RepSl g l_ vl_1) (s_ : ByteArray) (S : St g [] fr w) (hm : changeforgetop_h11Has l_ s_ = some r) :
  Calls Tryd.prog 11 [vl_1, .string s_].toArray w (fun en w' => ∃ v, en = .returned v ∧ ∃ (g' : Gh), Le g g' ∧ St g' [] fr w' ∧ .bool r = v) := by
 unfold changeforgetop_h11Has at hm
 refine calls_enter (fn := Tryd.f11) Tryd.func11 rfl Tryd.ntmps11 (lb rfl) ?_
 intro a F
 replace F : Fr 18 a [(0, vl_1), (1, .string s_)] := F
 refine wp_seq ?_
 refine wp_region_lit ?_
 refine wE (ev_assign rfl) F S rfl fun a F=>?_
 refine wpList_nil ?_
 refine then_n ?_
 refine wp_cut (fun a w => ∃ (g1 : Gh), Fr 18 a [] ∧ Le g g1 ∧ St g1 [] fr w ∧ changeforgetop_h11Has.j1 = some r) ?_ ?_
 ·refine wp_seq ?_
  refine wp_region_lit ?_
  refine wE (ev_assign rfl) F S rfl fun a F=>?_
  refine wpList_nil ?_
  refine then_n ?_
  refine wp_block ?_
  obtain ⟨r1, hr1, hm⟩ := bind_some hm
  have hmo1 := hm; clear hm
  refine wp_iter (σ := Int) (ρ := Bool ⊕ Unit) (m := fun s => changeforgetop_h11Has.l1 l_ s_ s) (I := fun x1 a w => ∃ (g2 : Gh), Fr 18 a [(5, .i6 x1), (0, vl_1), (1, .string s_)] ∧ Le g g2 ∧ St g2 [] fr w) hr1 ?_ ?_
  ·exact ⟨g, F.sub ⟨rfl, rfl, rfl, trivial⟩, (Le.refl _), S⟩
  ·clear F S; rintro x1 a w x2 ⟨g2, F, l2, S⟩ hx1 hfin1
   have hm : changeforgetop_h11Has.l1 l_ s_ x1 = some x2 := hx1; clear hx1
   unfold changeforgetop_h11Has.l1 at hm
   refine wp_seq ?_
   refine wp_seq ?_
   refine wp_region_lit ?_
   refine wE (ev_move rfl) F S rfl fun a F=>?_
   refine wE (ev_move rfl) F S rfl fun a F=>?_
   refine wE (ev_lenSh hl_1 rfl tu22) F S rfl fun a F=>?_
   refine wE (ev_int rfl rfl (bo_lss _ _ _ _)) F S rfl fun a F=>?_
   refine wpList_nil ?_
   refine then_n ?_
   obtain ⟨hc1, hm⟩ | ⟨hc1, hm⟩ := ite_or hm
   ·refine wp_condT F rfl hc1 ?_
    refine wp_skip ?_
    refine then_n ?_
    refine wp_seq ?_
    refine wp_block ?_
    refine wp_seq ?_
    refine wp_region_lit ?_
    refine wE (ev_move rfl) F S rfl fun a F=>?_
    refine wE (ev_move rfl) F S rfl fun a F=>?_
    obtain ⟨y1, hy1, hm⟩ := bind_some hm
    obtain ⟨cs1, hr2, hp1⟩ := elemS (hl_1.mono l2) hy1
    obtain rfl := rep_str hr2
    refine wE (ev_idxS (hl_1.mono l2) hy1 tu22 ts9 rfl rfl) F S rfl fun a F=>?_
    refine wE (ev_load1 tu9 rfl rfl (ptr_mono (cks := []) (fr := fr) hp1 (Le.refl _))) F S rfl fun a F=>?_
    refine wE (ev_move rfl) F S rfl fun a F=>?_
    refine wE (ev_str rfl rfl (bs_eql _ _ _)) F S rfl fun a F=>?_
    refine wpList_nil ?_
    refine then_n ?_
    obtain ⟨hc2, hm⟩ | ⟨hc2, hm⟩ := ite_or hm
    ·refine wp_condT F rfl hc2 ?_
     refine wp_seq ?_
     refine wp_region_lit ?_
     refine wE (ev_assign rfl) F S rfl fun a F=>?_
     refine wpList_nil ?_
     refine then_n ?_
     refine wp_ret ?_
     refine inb_r ?_
     refine then_r ?_
     refine then_r ?_
     refine inb_r ?_
     refine then_r ?_
     obtain rfl := sinj hm
     obtain rfl := hfin1 _ rfl
     clear hm
     have hm : (some true : Option Bool) = some _ := hmo1
     obtain rfl := sinj hm
     refine post_r _ F rfl (ar_cons (resT rfl) ar_nil) ?_
     exact ⟨_, rfl, g2, l2, S, rfl⟩
    ·refine wp_condF F rfl hc2 ?_
     refine wp_skip ?_
     refine inb_n ?_
     refine then_n ?_
     refine wp_region_lit ?_
     refine wE (ev_move rfl) F S rfl fun a F=>?_
     obtain ⟨z1, hz1, hm⟩ := bind_some hm
     refine wE (ev_int rfl rfl (bo_add hz1)) F S rfl fun a F=>?_
     refine wE (ev_assign rfl) F S rfl fun a F=>?_
     refine wpList_nil ?_
     refine then_n ?_
     obtain rfl := sinj hm
     refine ⟨_, rfl, ?_⟩
     exact ⟨g2, F.sub ⟨rfl, rfl, rfl, trivial⟩, l2, S⟩
   ·refine wp_condF F rfl hc1 ?_
    refine wp_exit ?_
    refine then_e ?_
    refine then_e ?_
    refine inb_x ?_
    refine then_n ?_
    obtain rfl := sinj hm
    obtain rfl := hfin1 _ rfl
    clear hm
    have hm : (changeforgetop_h11Has.j1 : Option Bool) = some _ := hmo1
    exact ⟨g2, F.sub trivial, l2, S, hm⟩
 ·clear F S hm; rintro a w ⟨g1, F, l1, S, hm⟩
  refine wp_seq ?_
  refine wp_region_lit ?_
  refine wE (ev_assign rfl) F S rfl fun a F=>?_
  refine wpList_nil ?_
  refine then_n ?_
  refine wp_ret ?_
  obtain rfl := sinj hm
  refine post_r _ F rfl (ar_cons (resT rfl) ar_nil) ?_
  exact ⟨_, rfl, g1, l1, S, rfl⟩

theorem changeforgetop_TopMergedTextsAreBlamed_ok {g : Gh} {fr : Hl} {w : World} {r : Bool} (base : (List ByteArray)) (vbase1 : Value) (hbase1 : RepSl g base vbase1) (left : (List ByteArray)) (vleft1 : Value) (hleft1 : RepSl g left vleft1) (right : (List ByteArray)) (vright1 : Value) (hright1 : RepSl g right vright1) (S : St g [] fr w) (hm : changeforgetop_TopMergedTextsAreBlamed base left right = some r) :
  Calls Tryd.prog 3 [vbase1, vleft1, vright1].toArray w (fun en w' => ∃ v, en = .returned v ∧ ∃ (g' : Gh), Le g g' ∧ St g' [] fr w' ∧ .bool r = v) := by
 unfold changeforgetop_TopMergedTextsAreBlamed at hm
 refine calls_enter (fn := Tryd.f3) Tryd.func3 rfl Tryd.ntmps3 (lb rfl) ?_
 intro a F
 replace F : Fr 141 a [(0, vbase1), (1, vleft1), (2, vright1)] := F
 refine wp_seq ?_
 refine wp_region_lit ?_
 refine wE (ev_assign rfl) F S rfl fun a F=>?_
 refine wpList_nil ?_
 refine then_n ?_
 refine wp_seq ?_
 refine wp_region_lit ?_
 refine wE (ev_move rfl) F S rfl fun a F=>?_
 refine wE (ev_move rfl) F S rfl fun a F=>?_
 refine wE (ev_move rfl) F S rfl fun a F=>?_
 obtain ⟨y1, hy1, hm⟩ := bind_some hm
 refine wl_call0 (wn rfl) rfl F rfl (merge3_Merge_ok base vbase1 hbase1 left vleft1 hleft1 right vright1 hright1 S hy1) rfl tc6 rfl rfl ?_; clear F a S
 rintro _ a w ⟨g1, v1, l1, S, h1, rfl⟩ F; replace S : St g1 [] fr w := S
 refine wE (ev_move rfl) F S rfl fun a F=>?_
 refine wE (ev_extract rfl rfl) F S rfl fun a F=>?_
 refine wE (ev_extract rfl rfl) F S rfl fun a F=>?_
 refine wl_alloc (wn rfl) rfl tz25 (cs := [.i6 0, .i6 0]) rfl F S rfl rfl ?_; clear F a S; rintro b1 a w F S
 refine wE (ev_assign rfl) F S rfl fun a F=>?_
 refine wl_storeC (wn rfl) rfl F S rfl rfl (vs := [.i6 y1.2.Code, .i6 y1.2.Index]) rfl ts25 (one_cons rfl (one_cons rfl one_nil)) (k := 0) rfl (lb rfl) (c' := #[.i6 y1.2.Code, .i6 y1.2.Index]) rfl rfl ?_; clear S; intro w S
 refine wpList_nil ?_
 refine then_n ?_
 refine wp_seq ?_
 refine wp_region_lit ?_
 refine wE (ev_move rfl) F S rfl fun a F=>?_
 obtain ⟨y2, hy2, hm⟩ := bind_some hm
 refine wl_call0 (wn rfl) rfl F rfl (merge3_Clean_ok (fr := (fl [[bx b1 #[.i6 y1.2.Code, .i6 y1.2.Index] 25]] fr)) y1.1 v1 h1 S hy2) rfl tc7 rfl rfl ?_; clear F a S
 rintro _ a w ⟨g2, v2, l2, S, h2, rfl⟩ F; replace S : St g2 [[bx b1 #[.i6 y1.2.Code, .i6 y1.2.Index] 25]] fr w := S
 refine wE (ev_move rfl) F S rfl fun a F=>?_
 refine wE (ev_extract rfl rfl) F S rfl fun a F=>?_
 refine wE (ev_extract rfl rfl) F S rfl fun a F=>?_
 refine wE (ev_extract rfl rfl) F S rfl fun a F=>?_
 refine wl_alloc (wn rfl) rfl tz25 (cs := [.i6 0, .i6 0]) rfl F S rfl rfl ?_; clear F a S; rintro b2 a w F S
 refine wE (ev_assign rfl) F S rfl fun a F=>?_
 refine wE (ev_assign rfl) F S rfl fun a F=>?_
 refine wl_storeC (wn rfl) rfl F S rfl rfl (vs := [.i6 y2.2.2.Code, .i6 y2.2.2.Index]) rfl ts25 (one_cons rfl (one_cons rfl one_nil)) (k := 0) rfl (lb rfl) (c' := #[.i6 y2.2.2.Code, .i6 y2.2.2.Index]) rfl rfl ?_; clear S; intro w S
 refine wpList_nil ?_
 refine then_n ?_
 refine wp_seq ?_
 refine wp_seq ?_
 refine wp_region_lit ?_
 refine wE (ev_fieldAddr' tu25 tf25_0 (z := 0) ts3 rfl ⟨_, rfl⟩ rfl) F S rfl fun a F=>?_
 refine wE (ev_load1 tu3 rfl rfl (box_ptr (cells := [.i6 y1.2.Code]) 1 rfl 0 rfl (lb rfl))) F S rfl fun a F=>?_
 refine wE (ev_int rfl rfl (bo_neq _ _ _ _)) F S rfl fun a F=>?_
 refine wE (ev_move rfl) F S rfl fun a F=>?_
 obtain ⟨x1, hx1, hm⟩ := bind_some hm
 refine wl_cut 4 (fun a w' => w = w' ∧ Fr 141 a [(40, .bool x1), (10, .bool y2.2.1), (9, v2), (0, vbase1), (1, vleft1), (2, vright1)]) ?_ ?_
 ·clear hm; obtain ⟨hc1, hm⟩ | ⟨hc1, hm⟩ := ite_or hx1
  ·refine wl_skip rfl rfl rfl rfl (ne_ft hc1) F rfl rfl ?_; clear F a; intro a F
   refine wl_skip rfl rfl rfl rfl (ne_ft hc1) F rfl rfl ?_; clear F a; intro a F
   refine wl_skip rfl rfl rfl rfl (ne_ft hc1) F rfl rfl ?_; clear F a; intro a F
   refine wE (ev_pickT rfl hc1 rfl) F S rfl fun a F=>?_
   obtain rfl := sinj hm
   refine wpList_nil (then_n ?_); exact ⟨rfl, F.sub ⟨rfl, rfl, rfl, rfl, rfl, rfl, trivial⟩⟩
  ·refine wl_ev (wg F rfl rfl rfl rfl hc1) (ev_fieldAddr' tu25 tf25_0 (z := 0) ts3 rfl ⟨_, rfl⟩ rfl) F S rfl rfl ?_; clear F a; intro a F
   refine wl_ev (wg F rfl rfl rfl rfl hc1) (ev_load1 tu3 rfl rfl (box_ptr (cells := [.i6 y2.2.2.Code]) 0 rfl 0 rfl (lb rfl))) F S rfl rfl ?_; clear F a; intro a F
   refine wl_ev (wg F rfl rfl rfl rfl hc1) (ev_int rfl rfl (bo_neq _ _ _ _)) F S rfl rfl ?_; clear F a; intro a F
   refine wE (ev_pickF rfl hc1 rfl) F S rfl fun a F=>?_
   obtain rfl := sinj hm
   refine wpList_nil (then_n ?_); exact ⟨rfl, F.sub ⟨rfl, rfl, rfl, rfl, rfl, rfl, trivial⟩⟩
 clear F; rintro a w' ⟨rfl, F⟩
 refine wE (ev_move rfl) F S rfl fun a F=>?_
 obtain ⟨x2, hx2, hm⟩ := bind_some hm
 refine wl_cut 3 (fun a w' => w = w' ∧ Fr 141 a [(44, .bool x2), (9, v2), (0, vbase1), (1, vleft1), (2, vright1)]) ?_ ?_
 ·clear hm; obtain ⟨hc2, hm⟩ | ⟨hc2, hm⟩ := ite_or hx2
  ·refine wl_skip rfl rfl rfl rfl (ne_ft hc2) F rfl rfl ?_; clear F a; intro a F
   refine wl_skip rfl rfl rfl rfl (ne_ft hc2) F rfl rfl ?_; clear F a; intro a F
   refine wE (ev_pickT rfl hc2 rfl) F S rfl fun a F=>?_
   obtain rfl := sinj hm
   refine wpList_nil (then_n ?_); exact ⟨rfl, F.sub ⟨rfl, rfl, rfl, rfl, rfl, trivial⟩⟩
  ·refine wl_ev (wg F rfl rfl rfl rfl hc2) (ev_move rfl) F S rfl rfl ?_; clear F a; intro a F
   refine wl_ev (wg F rfl rfl rfl rfl hc2) (ev_not rfl) F S rfl rfl ?_; clear F a; intro a F
   refine wE (ev_pickF rfl hc2 rfl) F S rfl fun a F=>?_
   obtain rfl := sinj hm
   refine wpList_nil (then_n ?_); exact ⟨rfl, F.sub ⟨rfl, rfl, rfl, rfl, rfl, trivial⟩⟩
 clear F; rintro a w' ⟨rfl, F⟩
 refine wpList_nil ?_
 refine then_n ?_
 obtain ⟨hc3, hm⟩ | ⟨hc3, hm⟩ := ite_or hm
 ·refine wp_condT F rfl hc3 ?_
  refine wp_seq ?_
  refine wp_region_lit ?_
  obtain ⟨y3, hy3, hm⟩ := bind_some hm
  refine wl_call0 (wn rfl) rfl F rfl (changeforgetop_h11Works_ok (fr := (fl [[bx b2 #[.i6 y2.2.2.Code, .i6 y2.2.2.Index] 25], [bx b1 #[.i6 y1.2.Code, .i6 y1.2.Index] 25]] fr))  S hy3) rfl tc8 rfl rfl ?_; clear F a S
  rintro _ a w ⟨g3, l3, S, rfl⟩ F; replace S : St g3 [[bx b2 #[.i6 y2.2.2.Code, .i6 y2.2.2.Index] 25], [bx b1 #[.i6 y1.2.Code, .i6 y1.2.Index] 25]] fr w := S
  refine wE (ev_assign rfl) F S rfl fun a F=>?_
  refine wpList_nil ?_
  refine then_n ?_
  refine wp_ret ?_
  refine then_r ?_
  obtain rfl := sinj hm
  refine post_r _ F rfl (ar_cons (resT rfl) ar_nil) ?_
  replace S : St g3 [] fr w := St.tail [] _ S
  exact ⟨_, rfl, g3, ((l1.trans l2).trans l3), S, rfl⟩
 ·refine wp_condF F rfl hc3 ?_
  refine wp_skip ?_
  refine then_n ?_
  refine wp_seq ?_
  refine wp_region_lit ?_
  refine wE (ev_move rfl) F S rfl fun a F=>?_
  refine wE (ev_move rfl) F S rfl fun a F=>?_
  refine wE (ev_move rfl) F S rfl fun a F=>?_
  refine wl_lit (l := ([base, left, y2.1] : List (List ByteArray))) (vs := [vbase1, vleft1, v2]) (parts := [(0, .tmp 47), (1, .tmp 48), (2, .tmp 49)]) (wn rfl) rfl rfl rfl tu34 te22 (sz_cons hbase1.csz (sz_cons hleft1.csz (sz_cons h2.csz sz_nil))) rfl (Cat.cons ⟨_, rfl, (hbase1.mono (l1.trans l2))⟩ (Cat.cons ⟨_, rfl, (hleft1.mono (l1.trans l2))⟩ (Cat.cons ⟨_, rfl, h2⟩ (Cat.nil _)))) (coa_cons hbase1.cl (coa_cons hleft1.cl (coa_cons h2.cl coa_nil))) rfl F S rfl rfl ?_; clear F a S
  rintro v3 c1 a w h3 F S
  obtain ⟨g4, l4, S, h4⟩ : ∃ gz, Le g2 gz ∧ St gz [[bx b2 #[.i6 y2.2.2.Code, .i6 y2.2.2.Index] 25], [bx b1 #[.i6 y1.2.Code, .i6 y1.2.Index] 25]] fr w ∧ RepSl gz ([base, left, y2.1] : List (List ByteArray)) v3 := ⟨_, Le.add _ _, S.freeze 0 rfl, OwnS.freeze (S.front 0 rfl) h3⟩
  obtain ⟨y4, hy4, hm⟩ := bind_some hm
  refine wl_call0 (wn rfl) rfl F rfl (blame_Annotate_ok (fr := (fl [[bx b2 #[.i6 y2.2.2.Code, .i6 y2.2.2.Index] 25], [bx b1 #[.i6 y1.2.Code, .i6 y1.2.Index] 25]] fr)) ([base, left, y2.1] : List (List ByteArray)) v3 h4 S hy4) rfl tc9 rfl rfl ?_; clear F a S
  rintro _ a w ⟨g5, v4, c2, l5, S, h5, rfl⟩ F; replace S : St g5 [c2, [bx b2 #[.i6 y2.2.2.Code, .i6 y2.2.2.Index] 25], [bx b1 #[.i6 y1.2.Code, .i6 y1.2.Index] 25]] fr w := S
  refine wE (ev_move rfl) F S rfl fun a F=>?_
  refine wE (ev_extract rfl rfl) F S rfl fun a F=>?_
  refine wE (ev_extract rfl rfl) F S rfl fun a F=>?_
  refine wl_alloc (wn rfl) rfl tz25 (cs := [.i6 0, .i6 0]) rfl F S rfl rfl ?_; clear F a S; rintro b3 a w F S
  refine wE (ev_assign rfl) F S rfl fun a F=>?_
  refine wl_storeC (wn rfl) rfl F S rfl rfl (vs := [.i6 y4.2.Code, .i6 y4.2.Index]) rfl ts25 (one_cons rfl (one_cons rfl one_nil)) (k := 0) rfl (lb rfl) (c' := #[.i6 y4.2.Code, .i6 y4.2.Index]) rfl rfl ?_; clear S; intro w S
  refine wpList_nil ?_
  refine then_n ?_
  refine wp_seq ?_
  refine wp_region_lit ?_
  refine wE (ev_move rfl) F S rfl fun a F=>?_
  refine wE (ev_move rfl) F S rfl fun a F=>?_
  obtain ⟨y5, hy5, hm⟩ := bind_some hm
  refine wl_call0 (wn rfl) rfl F rfl (diff_Distance_ok (fr := (fl [[bx b3 #[.i6 y4.2.Code, .i6 y4.2.Index] 25], c2, [bx b2 #[.i6 y2.2.2.Code, .i6 y2.2.2.Index] 25], [bx b1 #[.i6 y1.2.Code, .i6 y1.2.Index] 25]] fr)) left vleft1 (hleft1.mono (((l1.trans l2).trans l4).trans l5)) y2.1 v2 (h2.mono (l4.trans l5)) S hy5) rfl tc10 rfl rfl ?_; clear F a S
  rintro _ a w ⟨g6, l6, S, rfl⟩ F; replace S : St g6 [[bx b3 #[.i6 y4.2.Code, .i6 y4.2.Index] 25], c2, [bx b2 #[.i6 y2.2.2.Code, .i6 y2.2.2.Index] 25], [bx b1 #[.i6 y1.2.Code, .i6 y1.2.Index] 25]] fr w := S
  refine wE (ev_move rfl) F S rfl fun a F=>?_
  refine wE (ev_extract rfl rfl) F S rfl fun a F=>?_
  refine wE (ev_extract rfl rfl) F S rfl fun a F=>?_
  refine wl_alloc (wn rfl) rfl tz25 (cs := [.i6 0, .i6 0]) rfl F S rfl rfl ?_; clear F a S; rintro b4 a w F S
  refine wE (ev_assign rfl) F S rfl fun a F=>?_
  refine wl_storeC (wn rfl) rfl F S rfl rfl (vs := [.i6 y5.2.Code, .i6 y5.2.Index]) rfl ts25 (one_cons rfl (one_cons rfl one_nil)) (k := 0) rfl (lb rfl) (c' := #[.i6 y5.2.Code, .i6 y5.2.Index]) rfl rfl ?_; clear S; intro w S
  refine wpList_nil ?_
  refine then_n ?_
  refine wp_seq ?_
  refine wp_region_lit ?_
  refine wE (ev_move rfl) F S rfl fun a F=>?_
  refine wE (ev_move rfl) F S rfl fun a F=>?_
  obtain ⟨y6, hy6, hm⟩ := bind_some hm
  refine wl_call0 (wn rfl) rfl F rfl (diff_Distance_ok (fr := (fl [[bx b4 #[.i6 y5.2.Code, .i6 y5.2.Index] 25], [bx b3 #[.i6 y4.2.Code, .i6 y4.2.Index] 25], c2, [bx b2 #[.i6 y2.2.2.Code, .i6 y2.2.2.Index] 25], [bx b1 #[.i6 y1.2.Code, .i6 y1.2.Index] 25]] fr)) base vbase1 (hbase1.mono ((((l1.trans l2).trans l4).trans l5).trans l6)) right vright1 (hright1.mono ((((l1.trans l2).trans l4).trans l5).trans l6)) S hy6) rfl tc10 rfl rfl ?_; clear F a S
  rintro _ a w ⟨g7, l7, S, rfl⟩ F; replace S : St g7 [[bx b4 #[.i6 y5.2.Code, .i6 y5.2.Index] 25], [bx b3 #[.i6 y4.2.Code, .i6 y4.2.Index] 25], c2, [bx b2 #[.i6 y2.2.2.Code, .i6 y2.2.2.Index] 25], [bx b1 #[.i6 y1.2.Code, .i6 y1.2.Index] 25]] fr w := S
  refine wE (ev_move rfl) F S rfl fun a F=>?_
  refine wE (ev_extract rfl rfl) F S rfl fun a F=>?_
  refine wE (ev_extract rfl rfl) F S rfl fun a F=>?_
  refine wl_alloc (wn rfl) rfl tz25 (cs := [.i6 0, .i6 0]) rfl F S rfl rfl ?_; clear F a S; rintro b5 a w F S
  refine wE (ev_assign rfl) F S rfl fun a F=>?_
  refine wl_storeC (wn rfl) rfl F S rfl rfl (vs := [.i6 y6.2.Code, .i6 y6.2.Index]) rfl ts25 (one_cons rfl (one_cons rfl one_nil)) (k := 0) rfl (lb rfl) (c' := #[.i6 y6.2.Code, .i6 y6.2.Index]) rfl rfl ?_; clear S; intro w S
  refine wpList_nil ?_
  refine then_n ?_
  refine wp_seq ?_
  refine wp_seq ?_
  refine wp_region_lit ?_
  refine wE (ev_fieldAddr' tu25 tf25_0 (z := 0) ts3 rfl ⟨_, rfl⟩ rfl) F S rfl fun a F=>?_
  refine wE (ev_load1 tu3 rfl rfl (box_ptr (cells := [.i6 y4.2.Code]) 2 rfl 0 rfl (lb rfl))) F S rfl fun a F=>?_
  refine wE (ev_int rfl rfl (bo_neq _ _ _ _)) F S rfl fun a F=>?_
  refine wE (ev_move rfl) F S rfl fun a F=>?_
  obtain ⟨x3, hx3, hm⟩ := bind_some hm
  refine wl_cut 4 (fun a w' => w = w' ∧ Fr 141 a [(73, .bool x3), (16, .i6 y6.1), (17, bp b5 0), (14, .i6 y5.1), (12, v4), (9, v2), (0, vbase1), (1, vleft1), (2, vright1)]) ?_ ?_
  ·clear hm; obtain ⟨hc4, hm⟩ | ⟨hc4, hm⟩ := ite_or hx3
   ·refine wl_skip rfl rfl rfl rfl (ne_ft hc4) F rfl rfl ?_; clear F a; intro a F
    refine wl_skip rfl rfl rfl rfl (ne_ft hc4) F rfl rfl ?_; clear F a; intro a F
    refine wl_skip rfl rfl rfl rfl (ne_ft hc4) F rfl rfl ?_; clear F a; intro a F
    refine wE (ev_pickT rfl hc4 rfl) F S rfl fun a F=>?_
    obtain rfl := sinj hm
    refine wpList_nil (then_n ?_); exact ⟨rfl, F.sub ⟨rfl, rfl, rfl, rfl, rfl, rfl, rfl, rfl, rfl, trivial⟩⟩
   ·refine wl_ev (wg F rfl rfl rfl rfl hc4) (ev_fieldAddr' tu25 tf25_0 (z := 0) ts3 rfl ⟨_, rfl⟩ rfl) F S rfl rfl ?_; clear F a; intro a F
    refine wl_ev (wg F rfl rfl rfl rfl hc4) (ev_load1 tu3 rfl rfl (box_ptr (cells := [.i6 y5.2.Code]) 1 rfl 0 rfl (lb rfl))) F S rfl rfl ?_; clear F a; intro a F
    refine wl_ev (wg F rfl rfl rfl rfl hc4) (ev_int rfl rfl (bo_neq _ _ _ _)) F S rfl rfl ?_; clear F a; intro a F
    refine wE (ev_pickF rfl hc4 rfl) F S rfl fun a F=>?_
    obtain rfl := sinj hm
    refine wpList_nil (then_n ?_); exact ⟨rfl, F.sub ⟨rfl, rfl, rfl, rfl, rfl, rfl, rfl, rfl, rfl, trivial⟩⟩
  clear F; rintro a w' ⟨rfl, F⟩
  refine wE (ev_move rfl) F S rfl fun a F=>?_
  obtain ⟨x4, hx4, hm⟩ := bind_some hm
  refine wl_cut 4 (fun a w' => w = w' ∧ Fr 141 a [(78, .bool x4), (16, .i6 y6.1), (14, .i6 y5.1), (12, v4), (9, v2), (0, vbase1), (1, vleft1), (2, vright1)]) ?_ ?_
  ·clear hm; obtain ⟨hc5, hm⟩ | ⟨hc5, hm⟩ := ite_or hx4
   ·refine wl_skip rfl rfl rfl rfl (ne_ft hc5) F rfl rfl ?_; clear F a; intro a F
    refine wl_skip rfl rfl rfl rfl (ne_ft hc5) F rfl rfl ?_; clear F a; intro a F
    refine wl_skip rfl rfl rfl rfl (ne_ft hc5) F rfl rfl ?_; clear F a; intro a F
    refine wE (ev_pickT rfl hc5 rfl) F S rfl fun a F=>?_
    obtain rfl := sinj hm
    refine wpList_nil (then_n ?_); exact ⟨rfl, F.sub ⟨rfl, rfl, rfl, rfl, rfl, rfl, rfl, rfl, trivial⟩⟩
   ·refine wl_ev (wg F rfl rfl rfl rfl hc5) (ev_fieldAddr' tu25 tf25_0 (z := 0) ts3 rfl ⟨_, rfl⟩ rfl) F S rfl rfl ?_; clear F a; intro a F
    refine wl_ev (wg F rfl rfl rfl rfl hc5) (ev_load1 tu3 rfl rfl (box_ptr (cells := [.i6 y6.2.Code]) 0 rfl 0 rfl (lb rfl))) F S rfl rfl ?_; clear F a; intro a F
    refine wl_ev (wg F rfl rfl rfl rfl hc5) (ev_int rfl rfl (bo_neq _ _ _ _)) F S rfl rfl ?_; clear F a; intro a F
    refine wE (ev_pickF rfl hc5 rfl) F S rfl fun a F=>?_
    obtain rfl := sinj hm
    refine wpList_nil (then_n ?_); exact ⟨rfl, F.sub ⟨rfl, rfl, rfl, rfl, rfl, rfl, rfl, rfl, trivial⟩⟩
  clear F; rintro a w' ⟨rfl, F⟩
  refine wE (ev_move rfl) F S rfl fun a F=>?_
  obtain ⟨x5, hx5, hm⟩ := bind_some hm
  refine wl_cut 6 (fun a w' => w = w' ∧ Fr 141 a [(85, .bool x5), (16, .i6 y6.1), (14, .i6 y5.1), (12, v4), (9, v2), (0, vbase1), (1, vleft1), (2, vright1)]) ?_ ?_
  ·clear hm; obtain ⟨hc6, hm⟩ | ⟨hc6, hm⟩ := ite_or hx5
   ·refine wl_skip rfl rfl rfl rfl (ne_ft hc6) F rfl rfl ?_; clear F a; intro a F
    refine wl_skip rfl rfl rfl rfl (ne_ft hc6) F rfl rfl ?_; clear F a; intro a F
    refine wl_skip rfl rfl rfl rfl (ne_ft hc6) F rfl rfl ?_; clear F a; intro a F
    refine wl_skip rfl rfl rfl rfl (ne_ft hc6) F rfl rfl ?_; clear F a; intro a F
    refine wl_skip rfl rfl rfl rfl (ne_ft hc6) F rfl rfl ?_; clear F a; intro a F
    refine wE (ev_pickT rfl hc6 rfl) F S rfl fun a F=>?_
    obtain rfl := sinj hm
    refine wpList_nil (then_n ?_); exact ⟨rfl, F.sub ⟨rfl, rfl, rfl, rfl, rfl, rfl, rfl, rfl, trivial⟩⟩
   ·refine wl_ev (wg F rfl rfl rfl rfl hc6) (ev_move rfl) F S rfl rfl ?_; clear F a; intro a F
    refine wl_ev (wg F rfl rfl rfl rfl hc6) (ev_lenOw h5 rfl tu31) F S rfl rfl ?_; clear F a; intro a F
    refine wl_ev (wg F rfl rfl rfl rfl hc6) (ev_move rfl) F S rfl rfl ?_; clear F a; intro a F
    refine wl_ev (wg F rfl rfl rfl rfl hc6) (ev_lenSh h2 rfl tu22) F S rfl rfl ?_; clear F a; intro a F
    refine wl_ev (wg F rfl rfl rfl rfl hc6) (ev_int rfl rfl (bo_neq _ _ _ _)) F S rfl rfl ?_; clear F a; intro a F
    refine wE (ev_pickF rfl hc6 rfl) F S rfl fun a F=>?_
    obtain rfl := sinj hm
    refine wpList_nil (then_n ?_); exact ⟨rfl, F.sub ⟨rfl, rfl, rfl, rfl, rfl, rfl, rfl, rfl, trivial⟩⟩
  clear F; rintro a w' ⟨rfl, F⟩
  refine wpList_nil ?_
  refine then_n ?_
  obtain ⟨hc7, hm⟩ | ⟨hc7, hm⟩ := ite_or hm
  ·refine wp_condT F rfl hc7 ?_
   refine wp_seq ?_
   refine wp_region_lit ?_
   refine wE (ev_assign rfl) F S rfl fun a F=>?_
   refine wpList_nil ?_
   refine then_n ?_
   refine wp_ret ?_
   refine then_r ?_
   obtain rfl := sinj hm
   refine post_r _ F rfl (ar_cons (resT rfl) ar_nil) ?_
   replace S : St g7 [] fr w := St.tail [] _ S
   exact ⟨_, rfl, g7, (((((l1.trans l2).trans l4).trans l5).trans l6).trans l7), S, rfl⟩
  ·refine wp_condF F rfl hc7 ?_
   refine wp_skip ?_
   refine then_n ?_
   refine wp_cut (fun a w => ∃ (g8 : Gh), Fr 141 a [(16, .i6 y6.1), (14, .i6 y5.1)] ∧ Le g7 g8 ∧ St g8 [] fr w ∧ changeforgetop_TopMergedTextsAreBlamed.j1 y5 y6 = some r) ?_ ?_
   ·refine wp_seq ?_
    refine wp_region_lit ?_
    refine wE (ev_assign rfl) F S rfl fun a F=>?_
    refine wpList_nil ?_
    refine then_n ?_
    refine wp_block ?_
    obtain ⟨r1, hr1, hm⟩ := bind_some hm
    have hmo1 := hm; clear hm
    refine wp_iter (σ := Int) (ρ := Bool ⊕ Unit) (m := fun s => changeforgetop_TopMergedTextsAreBlamed.l1 base left right y2 y4 s) (I := fun x7 a w => ∃ (g11 : Gh), Fr 141 a [(18, .i6 x7), (16, .i6 y6.1), (14, .i6 y5.1), (12, v4), (9, v2), (0, vbase1), (1, vleft1), (2, vright1)] ∧ Le g7 g11 ∧ St g11 [c2] fr w) hr1 ?_ ?_
    ·replace S : St g7 [c2] fr w := St.tail [c2] _ (S.frontC 3 rfl)
     exact ⟨g7, F.sub ⟨rfl, rfl, rfl, rfl, rfl, rfl, rfl, rfl, trivial⟩, (Le.refl _), S⟩
    ·clear F S; rintro x7 a w x8 ⟨g11, F, l11, S⟩ hx7 hfin1
     have hm : changeforgetop_TopMergedTextsAreBlamed.l1 base left right y2 y4 x7 = some x8 := hx7; clear hx7
     unfold changeforgetop_TopMergedTextsAreBlamed.l1 at hm
     refine wp_seq ?_
     refine wp_seq ?_
     refine wp_region_lit ?_
     refine wE (ev_move rfl) F S rfl fun a F=>?_
     refine wE (ev_move rfl) F S rfl fun a F=>?_
     refine wE (ev_lenOw h5 rfl tu31) F S rfl fun a F=>?_
     refine wE (ev_int rfl rfl (bo_lss _ _ _ _)) F S rfl fun a F=>?_
     refine wpList_nil ?_
     refine then_n ?_
     obtain ⟨hc9, hm⟩ | ⟨hc9, hm⟩ := ite_or hm
     ·refine wp_condT F rfl hc9 ?_
      refine wp_skip ?_
      refine then_n ?_
      refine wp_seq ?_
      refine wp_block ?_
      refine wp_seq ?_
      refine wp_region_lit ?_
      refine wE (ev_move rfl) F S rfl fun a F=>?_
      refine wE (ev_move rfl) F S rfl fun a F=>?_
      refine wE (ev_move rfl) F S rfl fun a F=>?_
      obtain ⟨y8, hy8, hm⟩ := bind_some hm
      obtain ⟨cs1, hr2, hp1⟩ := elemS (h2.mono ((((l4.trans l5).trans l6).trans l7).trans l11)) hy8
      obtain rfl := rep_str hr2
      refine wE (ev_idxS (h2.mono ((((l4.trans l5).trans l6).trans l7).trans l11)) hy8 tu22 ts9 rfl rfl) F S rfl fun a F=>?_
      refine wE (ev_load1 tu9 rfl rfl (ptr_mono (cks := [c2]) (fr := fr) hp1 (Le.refl _))) F S rfl fun a F=>?_
      obtain ⟨y9, hy9, hm⟩ := bind_some hm
      refine wl_call0 (wn rfl) rfl F rfl (changeforgetop_h11Has_ok (fr := (fl [c2] fr)) base vbase1 (hbase1.mono ((((((l1.trans l2).trans l4).trans l5).trans l6).trans l7).trans l11)) y8 S hy9) rfl tc11 rfl rfl ?_; clear F a S
      rintro _ a w ⟨g12, l12, S, rfl⟩ F; replace S : St g12 [c2] fr w := S
      refine wE (ev_assign rfl) F S rfl fun a F=>?_
      refine wpList_nil ?_
      refine then_n ?_
      refine wp_cut (fun a w => ∃ (x9 : Bool) (g13 : Gh), Fr 141 a [(19, .bool x9), (18, .i6 x7), (16, .i6 y6.1), (14, .i6 y5.1), (12, v4), (9, v2), (0, vbase1), (1, vleft1), (2, vright1)] ∧ Le g12 g13 ∧ St g13 [c2] fr w ∧ changeforgetop_TopMergedTextsAreBlamed.j2 right y2 y4 x7 x9 = some x8) ?_ ?_
      ·refine wp_seq ?_
       refine wp_region_lit ?_
       refine wE (ev_move rfl) F S rfl fun a F=>?_
       refine wE (ev_move rfl) F S rfl fun a F=>?_
       obtain ⟨y13, hy13, hm⟩ := bind_some hm
       refine wE (ev_idxO (h5.mono (((l6.trans l7).trans l11).trans l12)) hy13 tu31 ts3 rfl rfl) F S rfl fun a F=>?_
       obtain ⟨cs4, hr5, hq2⟩ := elemO (h5.mono (((l6.trans l7).trans l11).trans l12)) hy13
       obtain rfl := rep_int hr5
       refine wE (ev_load1 tu3 rfl rfl (hq2 _ _ 0 rfl)) F S rfl fun a F=>?_
       refine wE (ev_int rfl rfl (bo_gtr _ _ _ _)) F S rfl fun a F=>?_
       refine wpList_nil ?_
       refine then_n ?_
       obtain ⟨hc13, hm⟩ | ⟨hc13, hm⟩ := ite_or hm
       ·refine wp_condT F rfl hc13 ?_
        refine wp_region_lit ?_
        refine wE (ev_move rfl) F S rfl fun a F=>?_
        refine wE (ev_move rfl) F S rfl fun a F=>?_
        obtain ⟨x12, hx9, hm⟩ := bind_some hm
        refine wl_cut 6 (fun a w' => w = w' ∧ Fr 141 a [(110, .bool x12), (19, .bool y9), (18, .i6 x7), (16, .i6 y6.1), (14, .i6 y5.1), (12, v4), (9, v2), (0, vbase1), (1, vleft1), (2, vright1)]) ?_ ?_
        ·clear hm; obtain ⟨hc14, hm⟩ | ⟨hc14, hm⟩ := ite_or hx9
         ·refine wl_ev (wg F rfl rfl rfl rfl hc14) (ev_move rfl) F S rfl rfl ?_; clear F a; intro a F
          refine wl_ev (wg F rfl rfl rfl rfl hc14) (ev_move rfl) F S rfl rfl ?_; clear F a; intro a F
          obtain ⟨y14, hy14, hm⟩ := bind_some hm
          refine wl_ev (wg F rfl rfl rfl rfl hc14) (ev_idxO (h5.mono (((l6.trans l7).trans l11).trans l12)) hy14 tu31 ts3 rfl rfl) F S rfl rfl ?_; clear F a; intro a F
          obtain ⟨cs5, hr6, hq3⟩ := elemO (h5.mono (((l6.trans l7).trans l11).trans l12)) hy14
          obtain rfl := rep_int hr6
          refine wl_ev (wg F rfl rfl rfl rfl hc14) (ev_load1 tu3 rfl rfl (hq3 _ _ 0 rfl)) F S rfl rfl ?_; clear F a; intro a F
          refine wl_ev (wg F rfl rfl rfl rfl hc14) (ev_int rfl rfl (bo_eql _ _ _ _)) F S rfl rfl ?_; clear F a; intro a F
          refine wE (ev_pickT rfl hc14 rfl) F S rfl fun a F=>?_
          obtain rfl := sinj hm
          refine wpList_nil (then_n ?_); exact ⟨rfl, F.sub ⟨rfl, rfl, rfl, rfl, rfl, rfl, rfl, rfl, rfl, rfl, trivial⟩⟩
         ·refine wl_skip rfl rfl rfl rfl (ne_tf hc14) F rfl rfl ?_; clear F a; intro a F
          refine wl_skip rfl rfl rfl rfl (ne_tf hc14) F rfl rfl ?_; clear F a; intro a F
          refine wl_skip rfl rfl rfl rfl (ne_tf hc14) F rfl rfl ?_; clear F a; intro a F
          refine wl_skip rfl rfl rfl rfl (ne_tf hc14) F rfl rfl ?_; clear F a; intro a F
          refine wl_skip rfl rfl rfl rfl (ne_tf hc14) F rfl rfl ?_; clear F a; intro a F
          refine wE (ev_pickF rfl hc14 rfl) F S rfl fun a F=>?_
          obtain rfl := sinj hm
          refine wpList_nil (then_n ?_); exact ⟨rfl, F.sub ⟨rfl, rfl, rfl, rfl, rfl, rfl, rfl, rfl, rfl, rfl, trivial⟩⟩
        clear F; rintro a w' ⟨rfl, F⟩
        refine wE (ev_move rfl) F S rfl fun a F=>?_
        obtain ⟨x13, hx10, hm⟩ := bind_some hm
        refine wl_cut 7 (fun a w => ∃ g17, Fr 141 a [(118, .bool x13), (19, .bool y9), (18, .i6 x7), (16, .i6 y6.1), (14, .i6 y5.1), (12, v4), (9, v2), (0, vbase1), (1, vleft1), (2, vright1)] ∧ Le g12 g17 ∧ St g17 [c2] fr w) ?_ ?_
        ·clear hm; obtain ⟨hc15, hm⟩ | ⟨hc15, hm⟩ := ite_or hx10
         ·refine wl_skip rfl rfl rfl rfl (ne_ft hc15) F rfl rfl ?_; clear F a; intro a F
          refine wl_skip rfl rfl rfl rfl (ne_ft hc15) F rfl rfl ?_; clear F a; intro a F
          refine wl_skip rfl rfl rfl rfl (ne_ft hc15) F rfl rfl ?_; clear F a; intro a F
          refine wl_skip rfl rfl rfl rfl (ne_ft hc15) F rfl rfl ?_; clear F a; intro a F
          refine wl_skip rfl rfl rfl rfl (ne_ft hc15) F rfl rfl ?_; clear F a; intro a F
          refine wl_skip rfl rfl rfl rfl (ne_ft hc15) F rfl rfl ?_; clear F a; intro a F
          refine wE (ev_pickT rfl hc15 rfl) F S rfl fun a F=>?_
          obtain rfl := sinj hm
          refine wpList_nil (then_n ?_); exact ⟨g12, F.sub ⟨rfl, rfl, rfl, rfl, rfl, rfl, rfl, rfl, rfl, rfl, trivial⟩, (Le.refl _), S⟩
         ·refine wl_ev (wg F rfl rfl rfl rfl hc15) (ev_move rfl) F S rfl rfl ?_; clear F a; intro a F
          refine wl_ev (wg F rfl rfl rfl rfl hc15) (ev_move rfl) F S rfl rfl ?_; clear F a; intro a F
          refine wl_ev (wg F rfl rfl rfl rfl hc15) (ev_move rfl) F S rfl rfl ?_; clear F a; intro a F
          obtain ⟨y15, hy15, hm⟩ := bind_some hm
          obtain ⟨cs6, hr7, hp3⟩ := elemS (h2.mono (((((l4.trans l5).trans l6).trans l7).trans l11).trans l12)) hy15
          obtain rfl := rep_str hr7
          refine wl_ev (wg F rfl rfl rfl rfl hc15) (ev_idxS (h2.mono (((((l4.trans l5).trans l6).trans l7).trans l11).trans l12)) hy15 tu22 ts9 rfl rfl) F S rfl rfl ?_; clear F a; intro a F
          refine wl_ev (wg F rfl rfl rfl rfl hc15) (ev_load1 tu9 rfl rfl (ptr_mono (cks := [c2]) (fr := fr) hp3 (Le.refl _))) F S rfl rfl ?_; clear F a; intro a F
          obtain ⟨y16, hy16, hm⟩ := bind_some hm
          refine wl_call0 (wg F rfl rfl rfl rfl hc15) rfl F rfl (changeforgetop_h11Has_ok (fr := (fl [c2] fr)) left vleft1 (hleft1.mono (((((((l1.trans l2).trans l4).trans l5).trans l6).trans l7).trans l11).trans l12)) y15 S hy16) rfl tc11 rfl rfl ?_; clear F a S
          rintro _ a w ⟨g18, l18, S, rfl⟩ F; replace S : St g18 [c2] fr w := S
          refine wE (ev_pickF rfl hc15 rfl) F S rfl fun a F=>?_
          obtain rfl := sinj hm
          refine wpList_nil (then_n ?_); exact ⟨g18, F.sub ⟨rfl, rfl, rfl, rfl, rfl, rfl, rfl, rfl, rfl, rfl, trivial⟩, l18, S⟩
        clear F S; rintro a w ⟨g17, F, l17, S⟩
        refine wE (ev_assign rfl) F S rfl fun a F=>?_
        refine wpList_nil ?_
        refine then_n ?_
        exact ⟨x13, g17, F.sub ⟨rfl, rfl, rfl, rfl, rfl, rfl, rfl, rfl, rfl, trivial⟩, l17, S, hm⟩
       ·refine wp_condF F rfl hc13 ?_
        refine wp_skip ?_
        refine then_n ?_
        exact ⟨y9, g12, F.sub ⟨rfl, rfl, rfl, rfl, rfl, rfl, rfl, rfl, rfl, trivial⟩, (Le.refl _), S, hm⟩
      ·clear F S hm; rintro a w ⟨x9, g13, F, l13, S, hm⟩
       refine wp_cut (fun a w => ∃ (x10 : Bool) (g14 : Gh), Fr 141 a [(19, .bool x10), (18, .i6 x7), (16, .i6 y6.1), (14, .i6 y5.1), (12, v4), (9, v2), (0, vbase1), (1, vleft1), (2, vright1)] ∧ Le g13 g14 ∧ St g14 [c2] fr w ∧ changeforgetop_TopMergedTextsAreBlamed.j3 x7 x10 = some x8) ?_ ?_
       ·refine wp_seq ?_
        refine wp_region_lit ?_
        refine wE (ev_move rfl) F S rfl fun a F=>?_
        refine wE (ev_move rfl) F S rfl fun a F=>?_
        obtain ⟨y10, hy10, hm⟩ := bind_some hm
        refine wE (ev_idxO (h5.mono ((((l6.trans l7).trans l11).trans l12).trans l13)) hy10 tu31 ts3 rfl rfl) F S rfl fun a F=>?_
        obtain ⟨cs2, hr3, hq1⟩ := elemO (h5.mono ((((l6.trans l7).trans l11).trans l12).trans l13)) hy10
        obtain rfl := rep_int hr3
        refine wE (ev_load1 tu3 rfl rfl (hq1 _ _ 0 rfl)) F S rfl fun a F=>?_
        refine wE (ev_int rfl rfl (bo_gtr _ _ _ _)) F S rfl fun a F=>?_
        refine wpList_nil ?_
        refine then_n ?_
        obtain ⟨hc11, hm⟩ | ⟨hc11, hm⟩ := ite_or hm
        ·refine wp_condT F rfl hc11 ?_
         refine wp_region_lit ?_
         refine wE (ev_move rfl) F S rfl fun a F=>?_
         refine wE (ev_move rfl) F S rfl fun a F=>?_
         obtain ⟨x11, hx8, hm⟩ := bind_some hm
         refine wl_cut 7 (fun a w => ∃ g15, Fr 141 a [(132, .bool x11), (19, .bool x9), (18, .i6 x7), (16, .i6 y6.1), (14, .i6 y5.1), (12, v4), (9, v2), (0, vbase1), (1, vleft1), (2, vright1)] ∧ Le g13 g15 ∧ St g15 [c2] fr w) ?_ ?_
         ·clear hm; obtain ⟨hc12, hm⟩ | ⟨hc12, hm⟩ := ite_or hx8
          ·refine wl_skip rfl rfl rfl rfl (ne_ft hc12) F rfl rfl ?_; clear F a; intro a F
           refine wl_skip rfl rfl rfl rfl (ne_ft hc12) F rfl rfl ?_; clear F a; intro a F
           refine wl_skip rfl rfl rfl rfl (ne_ft hc12) F rfl rfl ?_; clear F a; intro a F
           refine wl_skip rfl rfl rfl rfl (ne_ft hc12) F rfl rfl ?_; clear F a; intro a F
           refine wl_skip rfl rfl rfl rfl (ne_ft hc12) F rfl rfl ?_; clear F a; intro a F
           refine wl_skip rfl rfl rfl rfl (ne_ft hc12) F rfl rfl ?_; clear F a; intro a F
           refine wE (ev_pickT rfl hc12 rfl) F S rfl fun a F=>?_
           obtain rfl := sinj hm
           refine wpList_nil (then_n ?_); exact ⟨g13, F.sub ⟨rfl, rfl, rfl, rfl, rfl, rfl, rfl, rfl, rfl, rfl, trivial⟩, (Le.refl _), S⟩
          ·refine wl_ev (wg F rfl rfl rfl rfl hc12) (ev_move rfl) F S rfl rfl ?_; clear F a; intro a F
           refine wl_ev (wg F rfl rfl rfl rfl hc12) (ev_move rfl) F S rfl rfl ?_; clear F a; intro a F
           refine wl_ev (wg F rfl rfl rfl rfl hc12) (ev_move rfl) F S rfl rfl ?_; clear F a; intro a F
           obtain ⟨y11, hy11, hm⟩ := bind_some hm
           obtain ⟨cs3, hr4, hp2⟩ := elemS (h2.mono ((((((l4.trans l5).trans l6).trans l7).trans l11).trans l12).trans l13)) hy11
           obtain rfl := rep_str hr4
           refine wl_ev (wg F rfl rfl rfl rfl hc12) (ev_idxS (h2.mono ((((((l4.trans l5).trans l6).trans l7).trans l11).trans l12).trans l13)) hy11 tu22 ts9 rfl rfl) F S rfl rfl ?_; clear F a; intro a F
           refine wl_ev (wg F rfl rfl rfl rfl hc12) (ev_load1 tu9 rfl rfl (ptr_mono (cks := [c2]) (fr := fr) hp2 (Le.refl _))) F S rfl rfl ?_; clear F a; intro a F
           obtain ⟨y12, hy12, hm⟩ := bind_some hm
           refine wl_call0 (wg F rfl rfl rfl rfl hc12) rfl F rfl (changeforgetop_h11Has_ok (fr := (fl [c2] fr)) right vright1 (hright1.mono ((((((((l1.trans l2).trans l4).trans l5).trans l6).trans l7).trans l11).trans l12).trans l13)) y11 S hy12) rfl tc11 rfl rfl ?_; clear F a S
           rintro _ a w ⟨g16, l16, S, rfl⟩ F; replace S : St g16 [c2] fr w := S
           refine wE (ev_pickF rfl hc12 rfl) F S rfl fun a F=>?_
           obtain rfl := sinj hm
           refine wpList_nil (then_n ?_); exact ⟨g16, F.sub ⟨rfl, rfl, rfl, rfl, rfl, rfl, rfl, rfl, rfl, rfl, trivial⟩, l16, S⟩
         clear F S; rintro a w ⟨g15, F, l15, S⟩
         refine wE (ev_assign rfl) F S rfl fun a F=>?_
         refine wpList_nil ?_
         refine then_n ?_
         exact ⟨x11, g15, F.sub ⟨rfl, rfl, rfl, rfl, rfl, rfl, rfl, rfl, rfl, trivial⟩, l15, S, hm⟩
        ·refine wp_condF F rfl hc11 ?_
         refine wp_skip ?_
         refine then_n ?_
         exact ⟨x9, g13, F.sub ⟨rfl, rfl, rfl, rfl, rfl, rfl, rfl, rfl, rfl, trivial⟩, (Le.refl _), S, hm⟩
       ·clear F S hm; rintro a w ⟨x10, g14, F, l14, S, hm⟩
        refine wp_seq ?_
        refine wp_region_lit ?_
        refine wE (ev_move rfl) F S rfl fun a F=>?_
        refine wE (ev_not rfl) F S rfl fun a F=>?_
        refine wpList_nil ?_
        refine then_n ?_
        obtain ⟨hc10, hm⟩ | ⟨hc10, hm⟩ := ite_or hm
        ·refine wp_condT F rfl hc10 ?_
         refine wp_seq ?_
         refine wp_region_lit ?_
         refine wE (ev_assign rfl) F S rfl fun a F=>?_
         refine wpList_nil ?_
         refine then_n ?_
         refine wp_ret ?_
         refine inb_r ?_
         refine then_r ?_
         refine then_r ?_
         refine inb_r ?_
         refine then_r ?_
         obtain rfl := sinj hm
         obtain rfl := hfin1 _ rfl
         clear hm
         have hm : (some false : Option Bool) = some _ := hmo1
         obtain rfl := sinj hm
         refine post_r _ F rfl (ar_cons (resT rfl) ar_nil) ?_
         replace S : St g14 [] fr w := St.tail [] _ S
         exact ⟨_, rfl, g14, (((((((((l1.trans l2).trans l4).trans l5).trans l6).trans l7).trans l11).trans l12).trans l13).trans l14), S, rfl⟩
        ·refine wp_condF F rfl hc10 ?_
         refine wp_skip ?_
         refine inb_n ?_
         refine then_n ?_
         refine wp_region_lit ?_
         refine wE (ev_move rfl) F S rfl fun a F=>?_
         obtain ⟨z1, hz1, hm⟩ := bind_some hm
         refine wE (ev_int rfl rfl (bo_add hz1)) F S rfl fun a F=>?_
         refine wE (ev_assign rfl) F S rfl fun a F=>?_
         refine wpList_nil ?_
         refine then_n ?_
         obtain rfl := sinj hm
         refine ⟨_, rfl, ?_⟩
         exact ⟨g14, F.sub ⟨rfl, rfl, rfl, rfl, rfl, rfl, rfl, rfl, trivial⟩, (((l11.trans l12).trans l13).trans l14), S⟩
     ·refine wp_condF F rfl hc9 ?_
      refine wp_exit ?_
      refine then_e ?_
      refine then_e ?_
      refine inb_x ?_
      refine then_n ?_
      obtain rfl := sinj hm
      obtain rfl := hfin1 _ rfl
      clear hm
      have hm : (changeforgetop_TopMergedTextsAreBlamed.j1 y5 y6 : Option Bool) = some _ := hmo1
      replace S : St g11 [] fr w := St.tail [] _ S
      exact ⟨g11, F.sub ⟨rfl, rfl, trivial⟩, l11, S, hm⟩
   ·clear F S hm; rintro a w ⟨g8, F, l8, S, hm⟩
    refine wp_seq ?_
    refine wp_region_lit ?_
    refine wE (ev_move rfl) F S rfl fun a F=>?_
    refine wE (ev_move rfl) F S rfl fun a F=>?_
    refine wE (ev_int rfl rfl (bo_leq _ _ _ _)) F S rfl fun a F=>?_
    refine wE (ev_move rfl) F S rfl fun a F=>?_
    obtain ⟨x6, hx6, hm⟩ := bind_some hm
    refine wl_cut 2 (fun a w => ∃ g9, Fr 141 a [(140, .bool x6)] ∧ Le g8 g9 ∧ St g9 [] fr w) ?_ ?_
    ·clear hm; obtain ⟨hc8, hm⟩ | ⟨hc8, hm⟩ := ite_or hx6
     ·obtain ⟨y7, hy7, hm⟩ := bind_some hm
      refine wl_call0 (wg F rfl rfl rfl rfl hc8) rfl F rfl (changeforgetop_h11Works_ok  S hy7) rfl tc8 rfl rfl ?_; clear F a S
      rintro _ a w ⟨g10, l10, S, rfl⟩ F; replace S : St g10 [] fr w := S
      refine wE (ev_pickT rfl hc8 rfl) F S rfl fun a F=>?_
      obtain rfl := sinj hm
      refine wpList_nil (then_n ?_); exact ⟨g10, F.sub ⟨rfl, trivial⟩, l10, S⟩
     ·refine wl_skip rfl rfl rfl rfl (ne_tf hc8) F rfl rfl ?_; clear F a; intro a F
      refine wE (ev_pickF rfl hc8 rfl) F S rfl fun a F=>?_
      obtain rfl := sinj hm
      refine wpList_nil (then_n ?_); exact ⟨g8, F.sub ⟨rfl, trivial⟩, (Le.refl _), S⟩
    clear F S; rintro a w ⟨g9, F, l9, S⟩
    refine wE (ev_assign rfl) F S rfl fun a F=>?_
    refine wpList_nil ?_
    refine then_n ?_
    refine wp_ret ?_
    obtain rfl := sinj hm
    refine post_r _ F rfl (ar_cons (resT rfl) ar_nil) ?_
    exact ⟨_, rfl, g9, (((((((l1.trans l2).trans l4).trans l5).trans l6).trans l7).trans l8).trans l9), S, rfl⟩
end Go.Dc
