/- Walks: each function comes to what its model says. -/
import Derived.Test.YthpkobkngplbbaaGreatDoorDcTab
import Derived.Test.YthpkobkngplbbaaGreatDoorDcM
import Derived.Test.YthpkobkngplbbaaGreatDoorDcW10
import Derived.Test.YthpkobkngplbbaaGreatDoorDcW11
import Derived.Test.YthpkobkngplbbaaGreatDoorDcW12
import Derived.Test.YthpkobkngplbbaaGreatDoorDcW5
import Derived.Test.YthpkobkngplbbaaGreatDoorDcW7
namespace Go.Dc
open Go Go.Proofs
set_option maxRecDepth 100000
set_option maxHeartbeats 4000000
set_option linter.unusedVariables false
theorem changeforgelaw2_RenameMatchesSpec_ok {g : Gh} {fr : Hl} {w : World} {r : Bool} (a_ : (List ByteArray)) (va_1 : Value) (ha_1 : RepSl g a_ va_1) (b_ : (List ByteArray)) (vb_1 : Value) (hb_1 : RepSl g b_ vb_1) (old_ : FileTree) (vold_1 : Value) (hold_1 : RepSl g old_.Files vold_1) (new_ : FileTree) (vnew_1 : Value) (hnew_1 : RepSl g new_.Files vnew_1) (percent : Int) (S : St g [] fr w) (hm : changeforgelaw2_RenameMatchesSpec a_ b_ old_ new_ percent = some r) :
  Calls Tryz.prog 4 [va_1, vb_1, .agg #[vold_1], .agg #[vnew_1], .i6 percent].toArray w (fun en w' => ∃ v, en = .returned v ∧ ∃ (g' : Gh), Le g g' ∧ St g' [] fr w' ∧ .bool r = v) := by
 unfold changeforgelaw2_RenameMatchesSpec at hm
 refine calls_enter (fn := Tryz.f4) Tryz.func4 rfl Tryz.ntmps4 (lb rfl) ?_
 intro a F
 replace F : Fr 102 a [(0, va_1), (1, vb_1), (2, .agg #[vold_1]), (3, .agg #[vnew_1]), (4, .i6 percent)] := F
 refine wp_seq ?_
 refine wp_region_lit ?_
 refine wl_boxC (wn rfl) rfl rfl rfl F S rfl rfl ?_; clear F a S; rintro b1 a w F S
 refine wl_boxC (wn rfl) rfl rfl rfl F S rfl rfl ?_; clear F a S; rintro b2 a w F S
 refine wE (ev_assign rfl) F S rfl fun a F=>?_
 refine wpList_nil ?_
 refine then_n ?_
 refine wp_seq ?_
 refine wp_region_lit ?_
 refine wE (ev_move rfl) F S rfl fun a F=>?_
 obtain ⟨y1, hy1, hm⟩ := bind_some hm
 refine wl_call0 (wn rfl) rfl F rfl (rename_Sketch_ok (fr := (fl [[bx b2 #[vnew_1] 24], [bx b1 #[vold_1] 24]] fr)) a_ va_1 ha_1 S hy1) rfl tc10 rfl rfl ?_; clear F a S
 rintro _ a w ⟨g1, v1, l1, S, h1, rfl⟩ F; replace S : St g1 [[bx b2 #[vnew_1] 24], [bx b1 #[vold_1] 24]] fr w := S
 refine wE (ev_move rfl) F S rfl fun a F=>?_
 refine wE (ev_extract rfl rfl) F S rfl fun a F=>?_
 refine wE (ev_extract rfl rfl) F S rfl fun a F=>?_
 refine wl_alloc (wn rfl) rfl tz32 (cs := [.i6 0, .i6 0]) rfl F S rfl rfl ?_; clear F a S; rintro b3 a w F S
 refine wE (ev_assign rfl) F S rfl fun a F=>?_
 refine wl_storeC (wn rfl) rfl F S rfl rfl (vs := [.i6 y1.2.Code, .i6 y1.2.Index]) rfl ts32 (one_cons rfl (one_cons rfl one_nil)) (k := 0) rfl (lb rfl) (c' := #[.i6 y1.2.Code, .i6 y1.2.Index]) rfl rfl ?_; clear S; intro w S
 refine wpList_nil ?_
 refine then_n ?_
 refine wp_seq ?_
 refine wp_region_lit ?_
 refine wE (ev_move rfl) F S rfl fun a F=>?_
 refine wE (ev_move rfl) F S rfl fun a F=>?_
 obtain ⟨y2, hy2, hm⟩ := bind_some hm
 refine wl_call0 (wn rfl) rfl F rfl (rename_Similarity_ok (fr := (fl [[bx b3 #[.i6 y1.2.Code, .i6 y1.2.Index] 32], [bx b2 #[vnew_1] 24], [bx b1 #[vold_1] 24]] fr)) a_ va_1 (ha_1.mono l1) b_ vb_1 (hb_1.mono l1) S hy2) rfl tc11 rfl rfl ?_; clear F a S
 rintro _ a w ⟨g2, l2, S, rfl⟩ F; replace S : St g2 [[bx b3 #[.i6 y1.2.Code, .i6 y1.2.Index] 32], [bx b2 #[vnew_1] 24], [bx b1 #[vold_1] 24]] fr w := S
 refine wE (ev_move rfl) F S rfl fun a F=>?_
 refine wE (ev_extract rfl rfl) F S rfl fun a F=>?_
 refine wE (ev_extract rfl rfl) F S rfl fun a F=>?_
 refine wl_alloc (wn rfl) rfl tz32 (cs := [.i6 0, .i6 0]) rfl F S rfl rfl ?_; clear F a S; rintro b4 a w F S
 refine wE (ev_assign rfl) F S rfl fun a F=>?_
 refine wl_storeC (wn rfl) rfl F S rfl rfl (vs := [.i6 y2.2.Code, .i6 y2.2.Index]) rfl ts32 (one_cons rfl (one_cons rfl one_nil)) (k := 0) rfl (lb rfl) (c' := #[.i6 y2.2.Code, .i6 y2.2.Index]) rfl rfl ?_; clear S; intro w S
 refine wpList_nil ?_
 refine then_n ?_
 refine wp_seq ?_
 refine wp_region_lit ?_
 refine wE (ev_loadA tu24 rfl (cs := [vold_1]) ts24 rfl (box_ptr (cells := [vold_1]) 3 rfl 0 rfl (lb rfl))) F S rfl fun a F=>?_
 refine wE (ev_loadA tu24 rfl (cs := [vnew_1]) ts24 rfl (box_ptr (cells := [vnew_1]) 2 rfl 0 rfl (lb rfl))) F S rfl fun a F=>?_
 refine wE (ev_move rfl) F S rfl fun a F=>?_
 obtain ⟨y3, hy3, hm⟩ := bind_some hm
 refine wl_call0 (wn rfl) rfl F rfl (rename_Detect_ok (fr := (fl [[bx b4 #[.i6 y2.2.Code, .i6 y2.2.Index] 32], [bx b3 #[.i6 y1.2.Code, .i6 y1.2.Index] 32], [bx b2 #[vnew_1] 24], [bx b1 #[vold_1] 24]] fr)) old_ vold_1 (hold_1.mono (l1.trans l2)) new_ vnew_1 (hnew_1.mono (l1.trans l2)) percent S hy3) rfl tc7 rfl rfl ?_; clear F a S
 rintro _ a w ⟨g3, v2, c1, l3, S, h2, rfl⟩ F; replace S : St g3 [c1, [bx b4 #[.i6 y2.2.Code, .i6 y2.2.Index] 32], [bx b3 #[.i6 y1.2.Code, .i6 y1.2.Index] 32], [bx b2 #[vnew_1] 24], [bx b1 #[vold_1] 24]] fr w := S
 refine wE (ev_move rfl) F S rfl fun a F=>?_
 refine wE (ev_extract rfl rfl) F S rfl fun a F=>?_
 refine wE (ev_extract rfl rfl) F S rfl fun a F=>?_
 refine wl_alloc (wn rfl) rfl tz32 (cs := [.i6 0, .i6 0]) rfl F S rfl rfl ?_; clear F a S; rintro b5 a w F S
 refine wE (ev_assign rfl) F S rfl fun a F=>?_
 refine wl_storeC (wn rfl) rfl F S rfl rfl (vs := [.i6 y3.2.Code, .i6 y3.2.Index]) rfl ts32 (one_cons rfl (one_cons rfl one_nil)) (k := 0) rfl (lb rfl) (c' := #[.i6 y3.2.Code, .i6 y3.2.Index]) rfl rfl ?_; clear S; intro w S
 refine wpList_nil ?_
 refine then_n ?_
 refine wp_seq ?_
 refine wp_region_lit ?_
 refine wE (ev_loadA tu24 rfl (cs := [vold_1]) ts24 rfl (box_ptr (cells := [vold_1]) 5 rfl 0 rfl (lb rfl))) F S rfl fun a F=>?_
 refine wE (ev_loadA tu24 rfl (cs := [vnew_1]) ts24 rfl (box_ptr (cells := [vnew_1]) 4 rfl 0 rfl (lb rfl))) F S rfl fun a F=>?_
 refine wE (ev_move rfl) F S rfl fun a F=>?_
 obtain ⟨y4, hy4, hm⟩ := bind_some hm
 refine wl_call0 (wn rfl) rfl F rfl (changeforgeref2_Renames_ok (fr := (fl [[bx b5 #[.i6 y3.2.Code, .i6 y3.2.Index] 32], c1, [bx b4 #[.i6 y2.2.Code, .i6 y2.2.Index] 32], [bx b3 #[.i6 y1.2.Code, .i6 y1.2.Index] 32], [bx b2 #[vnew_1] 24], [bx b1 #[vold_1] 24]] fr)) old_ vold_1 (hold_1.mono ((l1.trans l2).trans l3)) new_ vnew_1 (hnew_1.mono ((l1.trans l2).trans l3)) percent S hy4) rfl tc12 rfl rfl ?_; clear F a S
 rintro _ a w ⟨g4, v3, c2, l4, S, h3, rfl⟩ F; replace S : St g4 [c2, [bx b5 #[.i6 y3.2.Code, .i6 y3.2.Index] 32], c1, [bx b4 #[.i6 y2.2.Code, .i6 y2.2.Index] 32], [bx b3 #[.i6 y1.2.Code, .i6 y1.2.Index] 32], [bx b2 #[vnew_1] 24], [bx b1 #[vold_1] 24]] fr w := S
 refine wE (ev_move rfl) F S rfl fun a F=>?_
 refine wE (ev_extract rfl rfl) F S rfl fun a F=>?_
 refine wE (ev_extract rfl rfl) F S rfl fun a F=>?_
 refine wl_alloc (wn rfl) rfl tz32 (cs := [.i6 0, .i6 0]) rfl F S rfl rfl ?_; clear F a S; rintro b6 a w F S
 refine wE (ev_assign rfl) F S rfl fun a F=>?_
 refine wl_storeC (wn rfl) rfl F S rfl rfl (vs := [.i6 y4.2.Code, .i6 y4.2.Index]) rfl ts32 (one_cons rfl (one_cons rfl one_nil)) (k := 0) rfl (lb rfl) (c' := #[.i6 y4.2.Code, .i6 y4.2.Index]) rfl rfl ?_; clear S; intro w S
 refine wpList_nil ?_
 replace F := F.sub (e' := [(17, v3), (18, bp b6 0), (15, v2), (16, bp b5 0), (13, .i6 y2.1), (14, bp b4 0), (11, v1), (12, bp b3 0), (0, va_1), (1, vb_1)]) ⟨rfl, rfl, rfl, rfl, rfl, rfl, rfl, rfl, rfl, rfl, trivial⟩
 refine then_n ?_
 refine wp_seq ?_
 refine wp_seq ?_
 obtain ⟨g5, l5, S, h4⟩ : ∃ gz, Le g4 gz ∧ St gz [[bx b6 #[.i6 y4.2.Code, .i6 y4.2.Index] 32], c2, [bx b5 #[.i6 y3.2.Code, .i6 y3.2.Index] 32], [bx b4 #[.i6 y2.2.Code, .i6 y2.2.Index] 32], [bx b3 #[.i6 y1.2.Code, .i6 y1.2.Index] 32], [bx b2 #[vnew_1] 24], [bx b1 #[vold_1] 24]] fr w ∧ RepSl gz y3.1 v2 := ⟨_, Le.add _ _, S.freeze 3 rfl, OwnS.freeze (S.front 3 rfl) (h2.mono l4)⟩
 obtain ⟨g6, l6, S, h5⟩ : ∃ gz, Le g5 gz ∧ St gz [[bx b6 #[.i6 y4.2.Code, .i6 y4.2.Index] 32], [bx b5 #[.i6 y3.2.Code, .i6 y3.2.Index] 32], [bx b4 #[.i6 y2.2.Code, .i6 y2.2.Index] 32], [bx b3 #[.i6 y1.2.Code, .i6 y1.2.Index] 32], [bx b2 #[vnew_1] 24], [bx b1 #[vold_1] 24]] fr w ∧ RepSl gz y4.1 v3 := ⟨_, Le.add _ _, S.freeze 1 rfl, OwnS.freeze (S.front 1 rfl) (h3.mono l5)⟩
 refine wp_quiet mo (by kernel_rfl) S ?_
 refine wq_ev (wn rfl) (ev_move rfl) F rfl rfl ?_; clear F a; intro a F
 refine wq_ev (wn rfl) (ev_move rfl) F rfl rfl ?_; clear F a; intro a F
 obtain ⟨y5, hy5, hm⟩ := bind_some hm
 refine wq_call (wn rfl) rfl (xs := [.tmp 44, .tmp 45]) (vs := [v2, v3]) (cap := []) F rfl rfl tc13 (v := .bool y5) (fun w S => (changeforgeequal_StringPairs_ok (g := g6) (fr := (fl [[bx b6 #[.i6 y4.2.Code, .i6 y4.2.Index] 32], [bx b5 #[.i6 y3.2.Code, .i6 y3.2.Index] 32], [bx b4 #[.i6 y2.2.Code, .i6 y2.2.Index] 32], [bx b3 #[.i6 y1.2.Code, .i6 y1.2.Index] 32], [bx b2 #[vnew_1] 24], [bx b1 #[vold_1] 24]] fr)) (w := w) y3.1 v2 (h4.mono l6) y4.1 v3 h5 S hy5).mono (by rintro en w' ⟨_, rfl, g2, l2, S2, rfl⟩; exact ⟨rfl, S2.weak l2⟩)) rfl rfl ?_; clear F a; intro a F
 refine wq_ev (wn rfl) (ev_not rfl) F rfl rfl ?_; clear F a; intro a F
 refine wq_ev (wn rfl) (ev_move rfl) F rfl rfl ?_; clear F a; intro a F
 obtain ⟨x1, hx1, hm⟩ := bind_some hm
 refine wq_cut 4 (fun a => Fr 102 a [(52, .bool x1), (13, .i6 y2.1), (14, bp b4 0), (11, v1), (12, bp b3 0), (0, va_1), (1, vb_1)]) ?_ ?_
 ·clear hm; obtain ⟨hc1, hm⟩ | ⟨hc1, hm⟩ := ite_or hx1
  ·refine wq_skip rfl rfl rfl rfl (ne_ft hc1) F rfl rfl ?_; clear F a; intro a F
   refine wq_skip rfl rfl rfl rfl (ne_ft hc1) F rfl rfl ?_; clear F a; intro a F
   refine wq_skip rfl rfl rfl rfl (ne_ft hc1) F rfl rfl ?_; clear F a; intro a F
   refine wq_ev (wn rfl) (ev_pickT rfl hc1 rfl) F rfl rfl ?_; clear F a; intro a F
   obtain rfl := sinj hm
   refine wq_nil ?_; exact F.sub ⟨rfl, rfl, rfl, rfl, rfl, rfl, rfl, trivial⟩
  ·refine wq_ev (wg F rfl rfl rfl rfl hc1) (ev_loadA tu32 rfl (cs := [.i6 y3.2.Code, .i6 y3.2.Index]) ts32 rfl (box_ptr (cells := [.i6 y3.2.Code, .i6 y3.2.Index]) 1 rfl 0 rfl (lb rfl))) F rfl rfl ?_; clear F a; intro a F
   refine wq_ev (wg F rfl rfl rfl rfl hc1) (ev_loadA tu32 rfl (cs := [.i6 y4.2.Code, .i6 y4.2.Index]) ts32 rfl (box_ptr (cells := [.i6 y4.2.Code, .i6 y4.2.Index]) 0 rfl 0 rfl (lb rfl))) F rfl rfl ?_; clear F a; intro a F
   refine wq_ev (wg F rfl rfl rfl rfl hc1) (ev_neS tu32 tqa32 tqb32 tqc32 (xs := [.i6 y3.2.Code, .i6 y3.2.Index]) (ys := [.i6 y4.2.Code, .i6 y4.2.Index]) rfl rfl ⟨_, _, rfl, by decide, ⟨_, _, rfl, rfl, leaf_int tu3⟩, ⟨_, _, rfl, by decide, ⟨_, _, rfl, rfl, leaf_int tu3⟩, rfl⟩⟩) F rfl rfl ?_; clear F a; intro a F
   refine wq_ev (wn rfl) (ev_pickF rfl hc1 rfl) F rfl rfl ?_; clear F a; intro a F
   obtain rfl := sinj hm
   refine wq_nil ?_; exact F.sub ⟨rfl, rfl, rfl, rfl, rfl, rfl, rfl, trivial⟩
 clear F; intro a F
 refine wq_ev (wn rfl) (ev_move rfl) F rfl rfl ?_; clear F a; intro a F
 obtain ⟨x2, hx2, hm⟩ := bind_some hm
 refine wq_cut 5 (fun a => Fr 102 a [(58, .bool x2), (13, .i6 y2.1), (14, bp b4 0), (11, v1), (12, bp b3 0), (0, va_1), (1, vb_1)]) ?_ ?_
 ·clear hm; obtain ⟨hc2, hm⟩ | ⟨hc2, hm⟩ := ite_or hx2
  ·refine wq_skip rfl rfl rfl rfl (ne_ft hc2) F rfl rfl ?_; clear F a; intro a F
   refine wq_skip rfl rfl rfl rfl (ne_ft hc2) F rfl rfl ?_; clear F a; intro a F
   refine wq_skip rfl rfl rfl rfl (ne_ft hc2) F rfl rfl ?_; clear F a; intro a F
   refine wq_skip rfl rfl rfl rfl (ne_ft hc2) F rfl rfl ?_; clear F a; intro a F
   refine wq_ev (wn rfl) (ev_pickT rfl hc2 rfl) F rfl rfl ?_; clear F a; intro a F
   obtain rfl := sinj hm
   refine wq_nil ?_; exact F.sub ⟨rfl, rfl, rfl, rfl, rfl, rfl, rfl, trivial⟩
  ·refine wq_ev (wg F rfl rfl rfl rfl hc2) (ev_loadA tu32 rfl (cs := [.i6 y1.2.Code, .i6 y1.2.Index]) ts32 rfl (box_ptr (cells := [.i6 y1.2.Code, .i6 y1.2.Index]) 3 rfl 0 rfl (lb rfl))) F rfl rfl ?_; clear F a; intro a F
   refine wq_ev (wg F rfl rfl rfl rfl hc2) (ev_move rfl) F rfl rfl ?_; clear F a; intro a F
   obtain ⟨y6, hy6, hm⟩ := bind_some hm
   refine wq_call (wg F rfl rfl rfl rfl hc2) rfl (xs := [.tmp 55]) (vs := [va_1]) (cap := []) F rfl rfl tc14 (v := .agg #[.i6 y6.Code, .i6 y6.Index]) (fun w S => (changeforgeref1_LinesFault_ok (g := g6) (fr := (fl [[bx b6 #[.i6 y4.2.Code, .i6 y4.2.Index] 32], [bx b5 #[.i6 y3.2.Code, .i6 y3.2.Index] 32], [bx b4 #[.i6 y2.2.Code, .i6 y2.2.Index] 32], [bx b3 #[.i6 y1.2.Code, .i6 y1.2.Index] 32], [bx b2 #[vnew_1] 24], [bx b1 #[vold_1] 24]] fr)) (w := w) a_ va_1 (ha_1.mono (((((l1.trans l2).trans l3).trans l4).trans l5).trans l6)) S hy6).mono (by rintro en w' ⟨_, rfl, g2, l2, S2, rfl⟩; exact ⟨rfl, S2.weak l2⟩)) rfl rfl ?_; clear F a; intro a F
   refine wq_ev (wg F rfl rfl rfl rfl hc2) (ev_neS tu32 tqa32 tqb32 tqc32 (xs := [.i6 y1.2.Code, .i6 y1.2.Index]) (ys := [.i6 y6.Code, .i6 y6.Index]) rfl rfl ⟨_, _, rfl, by decide, ⟨_, _, rfl, rfl, leaf_int tu3⟩, ⟨_, _, rfl, by decide, ⟨_, _, rfl, rfl, leaf_int tu3⟩, rfl⟩⟩) F rfl rfl ?_; clear F a; intro a F
   refine wq_ev (wn rfl) (ev_pickF rfl hc2 rfl) F rfl rfl ?_; clear F a; intro a F
   obtain rfl := sinj hm
   refine wq_nil ?_; exact F.sub ⟨rfl, rfl, rfl, rfl, rfl, rfl, rfl, trivial⟩
 clear F; intro a F
 refine wq_ev (wn rfl) (ev_move rfl) F rfl rfl ?_; clear F a; intro a F
 obtain ⟨x3, hx3, hm⟩ := bind_some hm
 refine wq_cut 6 (fun a => Fr 102 a [(65, .bool x3), (13, .i6 y2.1), (14, bp b4 0), (11, v1), (12, bp b3 0), (0, va_1), (1, vb_1)]) ?_ ?_
 ·clear hm; obtain ⟨hc3, hm⟩ | ⟨hc3, hm⟩ := ite_or hx3
  ·refine wq_skip rfl rfl rfl rfl (ne_ft hc3) F rfl rfl ?_; clear F a; intro a F
   refine wq_skip rfl rfl rfl rfl (ne_ft hc3) F rfl rfl ?_; clear F a; intro a F
   refine wq_skip rfl rfl rfl rfl (ne_ft hc3) F rfl rfl ?_; clear F a; intro a F
   refine wq_skip rfl rfl rfl rfl (ne_ft hc3) F rfl rfl ?_; clear F a; intro a F
   refine wq_skip rfl rfl rfl rfl (ne_ft hc3) F rfl rfl ?_; clear F a; intro a F
   refine wq_ev (wn rfl) (ev_pickT rfl hc3 rfl) F rfl rfl ?_; clear F a; intro a F
   obtain rfl := sinj hm
   refine wq_nil ?_; exact F.sub ⟨rfl, rfl, rfl, rfl, rfl, rfl, rfl, trivial⟩
  ·refine wq_ev (wg F rfl rfl rfl rfl hc3) (ev_loadA tu32 rfl (cs := [.i6 y2.2.Code, .i6 y2.2.Index]) ts32 rfl (box_ptr (cells := [.i6 y2.2.Code, .i6 y2.2.Index]) 2 rfl 0 rfl (lb rfl))) F rfl rfl ?_; clear F a; intro a F
   refine wq_ev (wg F rfl rfl rfl rfl hc3) (ev_move rfl) F rfl rfl ?_; clear F a; intro a F
   refine wq_ev (wg F rfl rfl rfl rfl hc3) (ev_move rfl) F rfl rfl ?_; clear F a; intro a F
   obtain ⟨y7, hy7, hm⟩ := bind_some hm
   refine wq_call (wg F rfl rfl rfl rfl hc3) rfl (xs := [.tmp 61, .tmp 62]) (vs := [va_1, vb_1]) (cap := []) F rfl rfl tc15 (v := .agg #[.i6 y7.Code, .i6 y7.Index]) (fun w S => (changeforgeref1_TwoFault_ok (g := g6) (fr := (fl [[bx b6 #[.i6 y4.2.Code, .i6 y4.2.Index] 32], [bx b5 #[.i6 y3.2.Code, .i6 y3.2.Index] 32], [bx b4 #[.i6 y2.2.Code, .i6 y2.2.Index] 32], [bx b3 #[.i6 y1.2.Code, .i6 y1.2.Index] 32], [bx b2 #[vnew_1] 24], [bx b1 #[vold_1] 24]] fr)) (w := w) a_ va_1 (ha_1.mono (((((l1.trans l2).trans l3).trans l4).trans l5).trans l6)) b_ vb_1 (hb_1.mono (((((l1.trans l2).trans l3).trans l4).trans l5).trans l6)) S hy7).mono (by rintro en w' ⟨_, rfl, g2, l2, S2, rfl⟩; exact ⟨rfl, S2.weak l2⟩)) rfl rfl ?_; clear F a; intro a F
   refine wq_ev (wg F rfl rfl rfl rfl hc3) (ev_neS tu32 tqa32 tqb32 tqc32 (xs := [.i6 y2.2.Code, .i6 y2.2.Index]) (ys := [.i6 y7.Code, .i6 y7.Index]) rfl rfl ⟨_, _, rfl, by decide, ⟨_, _, rfl, rfl, leaf_int tu3⟩, ⟨_, _, rfl, by decide, ⟨_, _, rfl, rfl, leaf_int tu3⟩, rfl⟩⟩) F rfl rfl ?_; clear F a; intro a F
   refine wq_ev (wn rfl) (ev_pickF rfl hc3 rfl) F rfl rfl ?_; clear F a; intro a F
   obtain rfl := sinj hm
   refine wq_nil ?_; exact F.sub ⟨rfl, rfl, rfl, rfl, rfl, rfl, rfl, trivial⟩
 clear F; intro a F
 refine wq_nil ?_; clear S; intro w S
 refine then_n ?_
 obtain ⟨hc4, hm⟩ | ⟨hc4, hm⟩ := ite_or hm
 ·refine wp_condT F rfl hc4 ?_
  refine wp_seq ?_
  refine wp_region_lit ?_
  refine wE (ev_assign rfl) F S rfl fun a F=>?_
  refine wpList_nil ?_
  refine then_n ?_
  refine wp_ret ?_
  refine then_r ?_
  obtain rfl := sinj hm
  refine post_r _ F rfl (ar_cons (resT rfl) ar_nil) ?_
  replace S : St g6 [] fr w := St.tail [] _ S
  exact ⟨_, rfl, g6, (((((l1.trans l2).trans l3).trans l4).trans l5).trans l6), S, rfl⟩
 ·refine wp_condF F rfl hc4 ?_
  refine wp_skip ?_
  refine then_n ?_
  refine wp_seq ?_
  refine wp_seq ?_
  refine wp_region_lit ?_
  refine wE (ev_fieldAddr' tu32 tf32_0 (z := 0) ts3 rfl ⟨_, rfl⟩ rfl) F S rfl fun a F=>?_
  refine wE (ev_load1 tu3 rfl rfl (box_ptr (cells := [.i6 y1.2.Code]) 3 rfl 0 rfl (lb rfl))) F S rfl fun a F=>?_
  refine wE (ev_int rfl rfl (bo_eql _ _ _ _)) F S rfl fun a F=>?_
  refine wE (ev_move rfl) F S rfl fun a F=>?_
  obtain ⟨x4, hx4, hm⟩ := bind_some hm
  refine wl_cut 6 (fun a w => ∃ g10, Fr 102 a [(75, .bool x4), (13, .i6 y2.1), (14, bp b4 0), (11, v1), (12, bp b3 0), (0, va_1), (1, vb_1)] ∧ Le g6 g10 ∧ St g10 [[bx b6 #[.i6 y4.2.Code, .i6 y4.2.Index] 32], [bx b5 #[.i6 y3.2.Code, .i6 y3.2.Index] 32], [bx b4 #[.i6 y2.2.Code, .i6 y2.2.Index] 32], [bx b3 #[.i6 y1.2.Code, .i6 y1.2.Index] 32], [bx b2 #[vnew_1] 24], [bx b1 #[vold_1] 24]] fr w) ?_ ?_
  ·clear hm; obtain ⟨hc5, hm⟩ | ⟨hc5, hm⟩ := ite_or hx4
   ·refine wl_ev (wg F rfl rfl rfl rfl hc5) (ev_move rfl) F S rfl rfl ?_; clear F a; intro a F
    refine wl_ev (wg F rfl rfl rfl rfl hc5) (ev_move rfl) F S rfl rfl ?_; clear F a; intro a F
    obtain ⟨y8, hy8, hm⟩ := bind_some hm
    refine wl_call0 (wg F rfl rfl rfl rfl hc5) rfl F rfl (changeforgeref2_Sketched_ok (fr := (fl [[bx b6 #[.i6 y4.2.Code, .i6 y4.2.Index] 32], [bx b5 #[.i6 y3.2.Code, .i6 y3.2.Index] 32], [bx b4 #[.i6 y2.2.Code, .i6 y2.2.Index] 32], [bx b3 #[.i6 y1.2.Code, .i6 y1.2.Index] 32], [bx b2 #[vnew_1] 24], [bx b1 #[vold_1] 24]] fr)) a_ va_1 (ha_1.mono (((((l1.trans l2).trans l3).trans l4).trans l5).trans l6)) S hy8) rfl tc17 rfl rfl ?_; clear F a S
    rintro _ a w ⟨g11, v4, c3, l11, S, h6, rfl⟩ F; replace S : St g11 [c3, [bx b6 #[.i6 y4.2.Code, .i6 y4.2.Index] 32], [bx b5 #[.i6 y3.2.Code, .i6 y3.2.Index] 32], [bx b4 #[.i6 y2.2.Code, .i6 y2.2.Index] 32], [bx b3 #[.i6 y1.2.Code, .i6 y1.2.Index] 32], [bx b2 #[vnew_1] 24], [bx b1 #[vold_1] 24]] fr w := S
    obtain ⟨g12, l12, S, h7⟩ : ∃ gz, Le g11 gz ∧ St gz [[bx b6 #[.i6 y4.2.Code, .i6 y4.2.Index] 32], [bx b5 #[.i6 y3.2.Code, .i6 y3.2.Index] 32], [bx b4 #[.i6 y2.2.Code, .i6 y2.2.Index] 32], [bx b3 #[.i6 y1.2.Code, .i6 y1.2.Index] 32], [bx b2 #[vnew_1] 24], [bx b1 #[vold_1] 24]] fr w ∧ RepSl gz y8 v4 := ⟨_, Le.add _ _, S.freeze 0 rfl, OwnS.freeze (S.front 0 rfl) h6⟩
    obtain ⟨y9, hy9, hm⟩ := bind_some hm
    refine wl_call0 (wg F rfl rfl rfl rfl hc5) rfl F rfl (changeforgeequal_Ints_ok (fr := (fl [[bx b6 #[.i6 y4.2.Code, .i6 y4.2.Index] 32], [bx b5 #[.i6 y3.2.Code, .i6 y3.2.Index] 32], [bx b4 #[.i6 y2.2.Code, .i6 y2.2.Index] 32], [bx b3 #[.i6 y1.2.Code, .i6 y1.2.Index] 32], [bx b2 #[vnew_1] 24], [bx b1 #[vold_1] 24]] fr)) y1.1 v1 (h1.mono ((((((l2.trans l3).trans l4).trans l5).trans l6).trans l11).trans l12)) y8 v4 h7 S hy9) rfl tc16 rfl rfl ?_; clear F a S
    rintro _ a w ⟨g13, l13, S, rfl⟩ F; replace S : St g13 [[bx b6 #[.i6 y4.2.Code, .i6 y4.2.Index] 32], [bx b5 #[.i6 y3.2.Code, .i6 y3.2.Index] 32], [bx b4 #[.i6 y2.2.Code, .i6 y2.2.Index] 32], [bx b3 #[.i6 y1.2.Code, .i6 y1.2.Index] 32], [bx b2 #[vnew_1] 24], [bx b1 #[vold_1] 24]] fr w := S
    refine wl_ev (wg F rfl rfl rfl rfl hc5) (ev_not rfl) F S rfl rfl ?_; clear F a; intro a F
    refine wE (ev_pickT rfl hc5 rfl) F S rfl fun a F=>?_
    obtain rfl := sinj hm
    refine wpList_nil (then_n ?_); exact ⟨g13, F.sub ⟨rfl, rfl, rfl, rfl, rfl, rfl, rfl, trivial⟩, ((l11.trans l12).trans l13), S⟩
   ·refine wl_skip rfl rfl rfl rfl (ne_tf hc5) F rfl rfl ?_; clear F a; intro a F
    refine wl_skip rfl rfl rfl rfl (ne_tf hc5) F rfl rfl ?_; clear F a; intro a F
    refine wl_skip rfl rfl rfl rfl (ne_tf hc5) F rfl rfl ?_; clear F a; intro a F
    refine wl_skip rfl rfl rfl rfl (ne_tf hc5) F rfl rfl ?_; clear F a; intro a F
    refine wl_skip rfl rfl rfl rfl (ne_tf hc5) F rfl rfl ?_; clear F a; intro a F
    refine wE (ev_pickF rfl hc5 rfl) F S rfl fun a F=>?_
    obtain rfl := sinj hm
    refine wpList_nil (then_n ?_); exact ⟨g6, F.sub ⟨rfl, rfl, rfl, rfl, rfl, rfl, rfl, trivial⟩, (Le.refl _), S⟩
  clear F S; rintro a w ⟨g10, F, l10, S⟩
  refine wE (ev_move rfl) F S rfl fun a F=>?_
  obtain ⟨x5, hx5, hm⟩ := bind_some hm
  refine wl_cut 9 (fun a w' => w = w' ∧ Fr 102 a [(85, .bool x5), (13, .i6 y2.1), (14, bp b4 0), (0, va_1), (1, vb_1)]) ?_ ?_
  ·clear hm; obtain ⟨hc6, hm⟩ | ⟨hc6, hm⟩ := ite_or hx5
   ·refine wl_skip rfl rfl rfl rfl (ne_ft hc6) F rfl rfl ?_; clear F a; intro a F
    refine wl_skip rfl rfl rfl rfl (ne_ft hc6) F rfl rfl ?_; clear F a; intro a F
    refine wl_skip rfl rfl rfl rfl (ne_ft hc6) F rfl rfl ?_; clear F a; intro a F
    refine wl_skip rfl rfl rfl rfl (ne_ft hc6) F rfl rfl ?_; clear F a; intro a F
    refine wl_skipu rfl rfl rfl rfl F rfl rfl ?_; clear F a; intro a F
    refine wl_skipu rfl rfl rfl rfl F rfl rfl ?_; clear F a; intro a F
    refine wl_skipu rfl rfl rfl rfl F rfl rfl ?_; clear F a; intro a F
    refine wl_skip rfl rfl rfl rfl (ne_ft hc6) F rfl rfl ?_; clear F a; intro a F
    refine wE (ev_pickT rfl hc6 rfl) F S rfl fun a F=>?_
    obtain rfl := sinj hm
    refine wpList_nil (then_n ?_); exact ⟨rfl, F.sub ⟨rfl, rfl, rfl, rfl, rfl, trivial⟩⟩
   ·refine wl_ev (wg F rfl rfl rfl rfl hc6) (ev_fieldAddr' tu32 tf32_0 (z := 0) ts3 rfl ⟨_, rfl⟩ rfl) F S rfl rfl ?_; clear F a; intro a F
    refine wl_ev (wg F rfl rfl rfl rfl hc6) (ev_load1 tu3 rfl rfl (box_ptr (cells := [.i6 y1.2.Code]) 3 rfl 0 rfl (lb rfl))) F S rfl rfl ?_; clear F a; intro a F
    refine wl_ev (wg F rfl rfl rfl rfl hc6) (ev_int rfl rfl (bo_neq _ _ _ _)) F S rfl rfl ?_; clear F a; intro a F
    refine wl_ev (wg F rfl rfl rfl rfl hc6) (ev_move rfl) F S rfl rfl ?_; clear F a; intro a F
    obtain ⟨x6, hx6, hm⟩ := bind_some hm
    refine wl_cut 4 (fun a w' => w = w' ∧ Fr 102 a [(84, .bool x6), (76, .bool x4), (13, .i6 y2.1), (14, bp b4 0), (0, va_1), (1, vb_1)]) ?_ ?_
    ·clear hm; obtain ⟨hc7, hm⟩ | ⟨hc7, hm⟩ := ite_or hx6
     ·refine wl_ev (wg F rfl rfl rfl rfl hc7) (ev_move rfl) F S rfl rfl ?_; clear F a; intro a F
      refine wl_ev (wg F rfl rfl rfl rfl hc7) (ev_lenSh h1 rfl tu47) F S rfl rfl ?_; clear F a; intro a F
      refine wl_ev (wg F rfl rfl rfl rfl hc7) (ev_int rfl rfl (bo_gtr _ _ _ _)) F S rfl rfl ?_; clear F a; intro a F
      refine wl_ev (wg F rfl rfl rfl rfl hc6) (ev_pickT rfl hc7 rfl) F S rfl rfl ?_; clear F a; intro a F
      obtain rfl := sinj hm
      refine wpList_nil (then_n ?_); exact ⟨rfl, F.sub ⟨rfl, rfl, rfl, rfl, rfl, rfl, trivial⟩⟩
     ·refine wl_skip rfl rfl rfl rfl (ne_tf hc7) F rfl rfl ?_; clear F a; intro a F
      refine wl_skip rfl rfl rfl rfl (ne_tf hc7) F rfl rfl ?_; clear F a; intro a F
      refine wl_skip rfl rfl rfl rfl (ne_tf hc7) F rfl rfl ?_; clear F a; intro a F
      refine wl_ev (wg F rfl rfl rfl rfl hc6) (ev_pickF rfl hc7 rfl) F S rfl rfl ?_; clear F a; intro a F
      obtain rfl := sinj hm
      refine wpList_nil (then_n ?_); exact ⟨rfl, F.sub ⟨rfl, rfl, rfl, rfl, rfl, rfl, trivial⟩⟩
    clear F; rintro a w' ⟨rfl, F⟩
    refine wE (ev_pickF rfl hc6 rfl) F S rfl fun a F=>?_
    obtain rfl := sinj hm
    refine wpList_nil (then_n ?_); exact ⟨rfl, F.sub ⟨rfl, rfl, rfl, rfl, rfl, trivial⟩⟩
  clear F; rintro a w' ⟨rfl, F⟩
  refine wpList_nil ?_
  refine then_n ?_
  obtain ⟨hc8, hm⟩ | ⟨hc8, hm⟩ := ite_or hm
  ·refine wp_condT F rfl hc8 ?_
   refine wp_seq ?_
   refine wp_region_lit ?_
   refine wE (ev_assign rfl) F S rfl fun a F=>?_
   refine wpList_nil ?_
   refine then_n ?_
   refine wp_ret ?_
   refine then_r ?_
   obtain rfl := sinj hm
   refine post_r _ F rfl (ar_cons (resT rfl) ar_nil) ?_
   replace S : St g10 [] fr w := St.tail [] _ S
   exact ⟨_, rfl, g10, ((((((l1.trans l2).trans l3).trans l4).trans l5).trans l6).trans l10), S, rfl⟩
  ·refine wp_condF F rfl hc8 ?_
   refine wp_skip ?_
   refine then_n ?_
   refine wp_seq ?_
   refine wp_seq ?_
   refine wp_region_lit ?_
   refine wE (ev_fieldAddr' tu32 tf32_0 (z := 0) ts3 rfl ⟨_, rfl⟩ rfl) F S rfl fun a F=>?_
   refine wE (ev_load1 tu3 rfl rfl (box_ptr (cells := [.i6 y2.2.Code]) 2 rfl 0 rfl (lb rfl))) F S rfl fun a F=>?_
   refine wE (ev_int rfl rfl (bo_neq _ _ _ _)) F S rfl fun a F=>?_
   refine wpList_nil ?_
   refine then_n ?_
   obtain ⟨hc9, hm⟩ | ⟨hc9, hm⟩ := ite_or hm
   ·refine wp_condT F rfl hc9 ?_
    refine wp_seq ?_
    refine wp_region_lit ?_
    refine wE (ev_move rfl) F S rfl fun a F=>?_
    refine wE (ev_int rfl rfl (bo_eql _ _ _ _)) F S rfl fun a F=>?_
    refine wE (ev_move rfl) F S rfl fun a F=>?_
    obtain ⟨x7, hx7, hm⟩ := bind_some hm
    refine wl_cut 2 (fun a w => ∃ g14, Fr 102 a [(93, .bool x7)] ∧ Le g10 g14 ∧ St g14 [[bx b6 #[.i6 y4.2.Code, .i6 y4.2.Index] 32], [bx b5 #[.i6 y3.2.Code, .i6 y3.2.Index] 32], [bx b4 #[.i6 y2.2.Code, .i6 y2.2.Index] 32], [bx b3 #[.i6 y1.2.Code, .i6 y1.2.Index] 32], [bx b2 #[vnew_1] 24], [bx b1 #[vold_1] 24]] fr w) ?_ ?_
    ·clear hm; obtain ⟨hc10, hm⟩ | ⟨hc10, hm⟩ := ite_or hx7
     ·obtain ⟨y10, hy10, hm⟩ := bind_some hm
      refine wl_call0 (wg F rfl rfl rfl rfl hc10) rfl F rfl (changeforgelaw2_half_ok (fr := (fl [[bx b6 #[.i6 y4.2.Code, .i6 y4.2.Index] 32], [bx b5 #[.i6 y3.2.Code, .i6 y3.2.Index] 32], [bx b4 #[.i6 y2.2.Code, .i6 y2.2.Index] 32], [bx b3 #[.i6 y1.2.Code, .i6 y1.2.Index] 32], [bx b2 #[vnew_1] 24], [bx b1 #[vold_1] 24]] fr))  S hy10) rfl tc18 rfl rfl ?_; clear F a S
      rintro _ a w ⟨g15, l15, S, rfl⟩ F; replace S : St g15 [[bx b6 #[.i6 y4.2.Code, .i6 y4.2.Index] 32], [bx b5 #[.i6 y3.2.Code, .i6 y3.2.Index] 32], [bx b4 #[.i6 y2.2.Code, .i6 y2.2.Index] 32], [bx b3 #[.i6 y1.2.Code, .i6 y1.2.Index] 32], [bx b2 #[vnew_1] 24], [bx b1 #[vold_1] 24]] fr w := S
      refine wE (ev_pickT rfl hc10 rfl) F S rfl fun a F=>?_
      obtain rfl := sinj hm
      refine wpList_nil (then_n ?_); exact ⟨g15, F.sub ⟨rfl, trivial⟩, l15, S⟩
     ·refine wl_skip rfl rfl rfl rfl (ne_tf hc10) F rfl rfl ?_; clear F a; intro a F
      refine wE (ev_pickF rfl hc10 rfl) F S rfl fun a F=>?_
      obtain rfl := sinj hm
      refine wpList_nil (then_n ?_); exact ⟨g10, F.sub ⟨rfl, trivial⟩, (Le.refl _), S⟩
    clear F S; rintro a w ⟨g14, F, l14, S⟩
    refine wE (ev_assign rfl) F S rfl fun a F=>?_
    refine wpList_nil ?_
    refine then_n ?_
    refine wp_ret ?_
    refine then_r ?_
    obtain rfl := sinj hm
    refine post_r _ F rfl (ar_cons (resT rfl) ar_nil) ?_
    replace S : St g14 [] fr w := St.tail [] _ S
    exact ⟨_, rfl, g14, (((((((l1.trans l2).trans l3).trans l4).trans l5).trans l6).trans l10).trans l14), S, rfl⟩
   ·refine wp_condF F rfl hc9 ?_
    refine wp_skip ?_
    refine then_n ?_
    refine wp_seq ?_
    refine wp_region_lit ?_
    refine wE (ev_move rfl) F S rfl fun a F=>?_
    refine wE (ev_move rfl) F S rfl fun a F=>?_
    refine wE (ev_move rfl) F S rfl fun a F=>?_
    obtain ⟨y11, hy11, hm⟩ := bind_some hm
    refine wl_call0 (wn rfl) rfl F rfl (changeforgeref2_Percent_ok (fr := (fl [[bx b6 #[.i6 y4.2.Code, .i6 y4.2.Index] 32], [bx b5 #[.i6 y3.2.Code, .i6 y3.2.Index] 32], [bx b4 #[.i6 y2.2.Code, .i6 y2.2.Index] 32], [bx b3 #[.i6 y1.2.Code, .i6 y1.2.Index] 32], [bx b2 #[vnew_1] 24], [bx b1 #[vold_1] 24]] fr)) a_ va_1 (ha_1.mono ((((((l1.trans l2).trans l3).trans l4).trans l5).trans l6).trans l10)) b_ vb_1 (hb_1.mono ((((((l1.trans l2).trans l3).trans l4).trans l5).trans l6).trans l10)) S hy11) rfl tc19 rfl rfl ?_; clear F a S
    rintro _ a w ⟨g16, l16, S, rfl⟩ F; replace S : St g16 [[bx b6 #[.i6 y4.2.Code, .i6 y4.2.Index] 32], [bx b5 #[.i6 y3.2.Code, .i6 y3.2.Index] 32], [bx b4 #[.i6 y2.2.Code, .i6 y2.2.Index] 32], [bx b3 #[.i6 y1.2.Code, .i6 y1.2.Index] 32], [bx b2 #[vnew_1] 24], [bx b1 #[vold_1] 24]] fr w := S
    refine wE (ev_int rfl rfl (bo_eql _ _ _ _)) F S rfl fun a F=>?_
    refine wE (ev_move rfl) F S rfl fun a F=>?_
    obtain ⟨x8, hx8, hm⟩ := bind_some hm
    refine wl_cut 2 (fun a w => ∃ g17, Fr 102 a [(101, .bool x8)] ∧ Le g16 g17 ∧ St g17 [[bx b6 #[.i6 y4.2.Code, .i6 y4.2.Index] 32], [bx b5 #[.i6 y3.2.Code, .i6 y3.2.Index] 32], [bx b4 #[.i6 y2.2.Code, .i6 y2.2.Index] 32], [bx b3 #[.i6 y1.2.Code, .i6 y1.2.Index] 32], [bx b2 #[vnew_1] 24], [bx b1 #[vold_1] 24]] fr w) ?_ ?_
    ·clear hm; obtain ⟨hc11, hm⟩ | ⟨hc11, hm⟩ := ite_or hx8
     ·obtain ⟨y12, hy12, hm⟩ := bind_some hm
      refine wl_call0 (wg F rfl rfl rfl rfl hc11) rfl F rfl (changeforgelaw2_half_ok (fr := (fl [[bx b6 #[.i6 y4.2.Code, .i6 y4.2.Index] 32], [bx b5 #[.i6 y3.2.Code, .i6 y3.2.Index] 32], [bx b4 #[.i6 y2.2.Code, .i6 y2.2.Index] 32], [bx b3 #[.i6 y1.2.Code, .i6 y1.2.Index] 32], [bx b2 #[vnew_1] 24], [bx b1 #[vold_1] 24]] fr))  S hy12) rfl tc18 rfl rfl ?_; clear F a S
      rintro _ a w ⟨g18, l18, S, rfl⟩ F; replace S : St g18 [[bx b6 #[.i6 y4.2.Code, .i6 y4.2.Index] 32], [bx b5 #[.i6 y3.2.Code, .i6 y3.2.Index] 32], [bx b4 #[.i6 y2.2.Code, .i6 y2.2.Index] 32], [bx b3 #[.i6 y1.2.Code, .i6 y1.2.Index] 32], [bx b2 #[vnew_1] 24], [bx b1 #[vold_1] 24]] fr w := S
      refine wE (ev_pickT rfl hc11 rfl) F S rfl fun a F=>?_
      obtain rfl := sinj hm
      refine wpList_nil (then_n ?_); exact ⟨g18, F.sub ⟨rfl, trivial⟩, l18, S⟩
     ·refine wl_skip rfl rfl rfl rfl (ne_tf hc11) F rfl rfl ?_; clear F a; intro a F
      refine wE (ev_pickF rfl hc11 rfl) F S rfl fun a F=>?_
      obtain rfl := sinj hm
      refine wpList_nil (then_n ?_); exact ⟨g16, F.sub ⟨rfl, trivial⟩, (Le.refl _), S⟩
    clear F S; rintro a w ⟨g17, F, l17, S⟩
    refine wE (ev_assign rfl) F S rfl fun a F=>?_
    refine wpList_nil ?_
    refine then_n ?_
    refine wp_ret ?_
    obtain rfl := sinj hm
    refine post_r _ F rfl (ar_cons (resT rfl) ar_nil) ?_
    replace S : St g17 [] fr w := St.tail [] _ S
    exact ⟨_, rfl, g17, ((((((((l1.trans l2).trans l3).trans l4).trans l5).trans l6).trans l10).trans l16).trans l17), S, rfl⟩
end Go.Dc
