/- Walks: each function comes to what its model says. -/
import Derived.Test.YtigjmijbekhdgaaDcTab
import Derived.Test.YtigjmijbekhdgaaDcM
import Derived.Test.YtigjmijbekhdgaaDcW1
import Derived.Test.YtigjmijbekhdgaaDcW2
import Derived.Test.YtigjmijbekhdgaaDcW3
namespace Go.Dc
open Go Go.Proofs
set_option maxRecDepth 100000
set_option maxHeartbeats 4000000
set_option linter.unusedVariables false
theorem changeforgeref2_Parsed_ok {g : Gh} {fr : Hl} {w : World} {r : SyntaxTree × Fault} (s_ : ByteArray) (S : St g [] fr w) (hm : changeforgeref2_Parsed s_ = some r) :
  Calls Try.prog 11 [.string s_].toArray w (fun en w' => ∃ v, en = .returned v ∧ ∃ (g' : Gh) (v1 : Value) (c1 : Hl), Le g g' ∧ St g' [c1] fr w' ∧ OwnS g' r.1.Nodes v1 c1 ∧ .tuple #[.agg #[v1], .agg #[.i6 r.2.Code, .i6 r.2.Index]] = v) := by
 unfold changeforgeref2_Parsed at hm
 refine calls_enter (fn := Try.f11) Try.func11 rfl Try.ntmps11 (lb rfl) ?_
 intro a F
 replace F : Fr 241 a [(0, .string s_)] := F
 refine wp_seq ?_
 refine wp_region_lit ?_
 refine wl_alloc (wn rfl) rfl tz24 (cs := [nilS]) rfl F S rfl rfl ?_; clear F a S; rintro b1 a w F S
 refine wl_alloc (wn rfl) rfl tz26 (cs := [.i6 0, .i6 0]) rfl F S rfl rfl ?_; clear F a S; rintro b2 a w F S
 refine wpList_nil ?_
 refine then_n ?_
 refine wp_seq ?_
 refine wp_seq ?_
 refine wp_region_lit ?_
 refine wE (ev_move rfl) F S rfl fun a F=>?_
 refine wE (ev_lenS rfl tu9) F S rfl fun a F=>?_
 refine wE (ev_int rfl rfl (bo_gtr _ _ _ _)) F S rfl fun a F=>?_
 refine wpList_nil ?_
 refine then_n ?_
 obtain ⟨hc1, hm⟩ | ⟨hc1, hm⟩ := ite_or hm
 ·refine wp_condT F rfl hc1 ?_
  refine wp_seq ?_
  refine wp_region_lit ?_
  refine wE (ev_build (parts := []) (vs := []) rfl (fun w => tb24_  w)) F S rfl fun a F=>?_
  obtain ⟨y1, hy1, hm⟩ := bind_some hm
  refine wl_call0 (wn rfl) rfl F rfl (changeforgeref1_At_ok (fr := (fl [[bx b2 #[.i6 0, .i6 0] 26], [bx b1 #[nilS] 24]] fr)) 2 (-1) S hy1) rfl tc23 rfl rfl ?_; clear F a S
  rintro _ a w ⟨g1, l1, S, rfl⟩ F; replace S : St g1 [[bx b2 #[.i6 0, .i6 0] 26], [bx b1 #[nilS] 24]] fr w := S
  refine wl_storeC (wn rfl) rfl F S rfl rfl (vs := [nilS]) rfl ts24 (one_cons rfl one_nil) (k := 1) rfl (lb rfl) (c' := #[nilS]) rfl rfl ?_; clear S; intro w S
  refine wl_storeC (wn rfl) rfl F S rfl rfl (vs := [.i6 y1.Code, .i6 y1.Index]) rfl ts26 (one_cons rfl (one_cons rfl one_nil)) (k := 0) rfl (lb rfl) (c' := #[.i6 y1.Code, .i6 y1.Index]) rfl rfl ?_; clear S; intro w S
  refine wpList_nil ?_
  refine then_n ?_
  refine wp_ret ?_
  refine then_r ?_
  obtain rfl := sinj hm
  replace S : St g1 [[], [bx b2 #[.i6 y1.Code, .i6 y1.Index] 26], [bx b1 #[nilS] 24]] fr w := S
  refine post_r _ F rfl (ar_cons (resA rfl tu24 rfl (box_ptr (cells := [nilS]) 2 rfl 0 rfl (lb rfl) w S) ts24) (ar_cons (resA rfl tu26 rfl (box_ptr (cells := [.i6 y1.Code, .i6 y1.Index]) 1 rfl 0 rfl (lb rfl) w S) ts26) ar_nil)) ?_
  replace S : St g1 [[]] fr w := St.tail [[]] _ (S.frontC 0 rfl)
  exact ⟨_, rfl, g1, (nilS), [], l1, S, (OwnS.nil _), rfl⟩
 ·refine wp_condF F rfl hc1 ?_
  refine wp_skip ?_
  refine then_n ?_
  refine wp_seq ?_
  refine wp_region_lit ?_
  refine wl_alloc (wn rfl) rfl tz24 (cs := [nilS]) rfl F S rfl rfl ?_; clear F a S; rintro b3 a w F S
  refine wpList_nil ?_
  refine then_n ?_
  refine wp_seq ?_
  refine wp_region_lit ?_
  refine wE (ev_assign rfl) F S rfl fun a F=>?_
  refine wpList_nil ?_
  refine then_n ?_
  refine wp_seq ?_
  refine wp_region_lit ?_
  refine wE (ev_assign rfl) F S rfl fun a F=>?_
  refine wpList_nil ?_
  refine then_n ?_
  refine wp_seq ?_
  refine wp_region_lit ?_
  refine wE (ev_assign rfl) F S rfl fun a F=>?_
  refine wpList_nil ?_
  refine then_n ?_
  refine wp_seq ?_
  refine wp_region_lit ?_
  refine wE (ev_assign rfl) F S rfl fun a F=>?_
  refine wpList_nil ?_
  refine then_n ?_
  refine wp_seq ?_
  refine wp_region_lit ?_
  refine wE (ev_assign rfl) F S rfl fun a F=>?_
  refine wpList_nil ?_
  refine then_n ?_
  refine wp_cut (fun a w => ∃ (x1 : Int) (x2 : Bool) (x3 : List Node) (v1 : Value) (c1 : Hl) (g2 : Gh), Fr 241 a [(9, .i6 x1), (7, .bool x2), (4, bp b3 0), (3, bp b2 0), (2, bp b1 0)] ∧ Le g g2 ∧ St g2 [[bx b3 #[v1] 24], [bx b2 #[.i6 0, .i6 0] 26], [bx b1 #[nilS] 24], c1] fr w ∧ OwnS g2 x3 v1 c1 ∧ changeforgeref2_Parsed.j1 x1 x2 x3 = some r) ?_ ?_
  ·refine wp_block ?_
   obtain ⟨r1, hr1, hm⟩ := bind_some hm
   have hmo1 := hm; clear hm
   refine wp_iter (σ := Int × Bool × Bool × (List (List Int)) × (List ByteArray) × (List Node)) (ρ := (SyntaxTree × Fault) ⊕ (Int × Bool × (List Node))) (m := fun s => changeforgeref2_Parsed.l1 s_ s.1 s.2.1 s.2.2.1 s.2.2.2.1 s.2.2.2.2.1 s.2.2.2.2.2) (I := fun s a w => match s with | (x4, x5, x6, x7, x8, x9) => ∃ (v2 v3 v4 : Value) (c2 c3 c4 : Hl) (g5 : Gh), Fr 241 a [(9, .i6 x4), (8, .bool x5), (7, .bool x6), (6, v2), (5, v3), (4, bp b3 0), (3, bp b2 0), (2, bp b1 0), (0, .string s_)] ∧ Le g g5 ∧ St g5 [c2, c3, [bx b3 #[v4] 24], [bx b2 #[.i6 0, .i6 0] 26], [bx b1 #[nilS] 24], c4] fr w ∧ OwnN g5 x7 v2 c2 ∧ OwnS g5 x8 v3 c3 ∧ OwnS g5 x9 v4 c4) hr1 ?_ ?_
   ·dsimp only
    replace S : St g [[], [bx b3 #[nilS] 24], [bx b2 #[.i6 0, .i6 0] 26], [bx b1 #[nilS] 24]] fr w := S
    replace S : St g [[], [], [bx b3 #[nilS] 24], [bx b2 #[.i6 0, .i6 0] 26], [bx b1 #[nilS] 24]] fr w := S
    replace S : St g [[], [], [], [bx b3 #[nilS] 24], [bx b2 #[.i6 0, .i6 0] 26], [bx b1 #[nilS] 24]] fr w := S
    replace S : St g [[], [], [bx b3 #[nilS] 24], [bx b2 #[.i6 0, .i6 0] 26], [bx b1 #[nilS] 24], []] fr w := St.tail [[], [], [bx b3 #[nilS] 24], [bx b2 #[.i6 0, .i6 0] 26], [bx b1 #[nilS] 24], []] _ ((((((S.frontC 0 rfl).frontC 6 rfl).frontC 6 rfl).frontC 6 rfl).frontC 5 rfl).frontC 7 rfl)
    exact ⟨(nilS), (nilS), (nilS), [], [], [], g, F.sub ⟨rfl, rfl, rfl, rfl, rfl, rfl, rfl, rfl, rfl, trivial⟩, (Le.refl _), S, (OwnN.nil _), (OwnS.nil _), (OwnS.nil _)⟩
   ·clear F S; rintro ⟨x4, x5, x6, x7, x8, x9⟩ a w x10 ⟨v2, v3, v4, c2, c3, c4, g5, F, l5, S, h2, h3, h4⟩ hx1 hfin1
    have hm : changeforgeref2_Parsed.l1 s_ x4 x5 x6 x7 x8 x9 = some x10 := hx1; clear hx1
    unfold changeforgeref2_Parsed.l1 at hm
    refine wp_cut1 (fun a w => ∃ (x11 : Bool) (x12 : List (List Int)) (x13 : List ByteArray) (x14 : Int) (x15 : Bool) (x16 : List Node) (v5 v6 v7 : Value) (c5 c6 c7 : Hl) (g6 : Gh), Fr 241 a [(7, .bool x11), (6, v5), (5, v6), (9, .i6 x14), (8, .bool x15), (4, bp b3 0), (3, bp b2 0), (2, bp b1 0), (0, .string s_)] ∧ Le g5 g6 ∧ St g6 [c5, c6, [bx b3 #[v7] 24], [bx b2 #[.i6 0, .i6 0] 26], [bx b1 #[nilS] 24], c7] fr w ∧ OwnN g6 x12 v5 c5 ∧ OwnS g6 x13 v6 c6 ∧ OwnS g6 x16 v7 c7 ∧ changeforgeref2_Parsed.j2 x11 x12 x13 x14 x15 x16 = some x10) ?_ ?_
    ·refine wp_block ?_
     refine wp_cut (fun a w => ∃ (x17 : Int) (g7 : Gh), Fr 241 a [(9, .i6 x17), (8, .bool x5), (7, .bool x6), (6, v2), (5, v3), (4, bp b3 0), (3, bp b2 0), (2, bp b1 0), (0, .string s_)] ∧ Le g5 g7 ∧ St g7 [c2, c3, [bx b3 #[v4] 24], [bx b2 #[.i6 0, .i6 0] 26], [bx b1 #[nilS] 24], c4] fr w ∧ changeforgeref2_Parsed.j3 s_ x5 x6 x7 x8 x9 x17 = some x10) ?_ ?_
     ·refine wp_block ?_
      obtain ⟨r3, hr9, hm⟩ := bind_some hm
      have hmo3 := hm; clear hm
      refine wp_iter (σ := Int) (ρ := Int) (m := fun s => changeforgeref2_Parsed.l3 s_ s) (I := fun x31 a w => ∃ (g19 : Gh), Fr 241 a [(9, .i6 x31), (8, .bool x5), (7, .bool x6), (6, v2), (5, v3), (4, bp b3 0), (3, bp b2 0), (2, bp b1 0), (0, .string s_)] ∧ Le g5 g19 ∧ St g19 [c2, c3, [bx b3 #[v4] 24], [bx b2 #[.i6 0, .i6 0] 26], [bx b1 #[nilS] 24], c4] fr w) hr9 ?_ ?_
      ·exact ⟨g5, F.sub ⟨rfl, rfl, rfl, rfl, rfl, rfl, rfl, rfl, rfl, trivial⟩, (Le.refl _), S⟩
      ·clear F S; rintro x31 a w x32 ⟨g19, F, l19, S⟩ hx11 hfin3
       have hm : changeforgeref2_Parsed.l3 s_ x31 = some x32 := hx11; clear hx11
       unfold changeforgeref2_Parsed.l3 at hm
       refine wp_seq ?_
       refine wp_seq ?_
       refine wp_region_lit ?_
       refine wE (ev_move rfl) F S rfl fun a F=>?_
       refine wE (ev_move rfl) F S rfl fun a F=>?_
       refine wE (ev_lenS rfl tu9) F S rfl fun a F=>?_
       refine wE (ev_int rfl rfl (bo_lss _ _ _ _)) F S rfl fun a F=>?_
       refine wE (ev_move rfl) F S rfl fun a F=>?_
       obtain ⟨x33, hx12, hm⟩ := bind_some hm
       refine wl_cut 17 (fun a w' => w = w' ∧ Fr 241 a [(39, .bool x33), (9, .i6 x31), (8, .bool x5), (7, .bool x6), (6, v2), (5, v3), (4, bp b3 0), (3, bp b2 0), (2, bp b1 0), (0, .string s_)]) ?_ ?_
       ·clear hm; obtain ⟨hc26, hm⟩ | ⟨hc26, hm⟩ := ite_or hx12
        ·refine wl_ev (wg F rfl rfl rfl rfl hc26) (ev_move rfl) F S rfl rfl ?_; clear F a; intro a F
         refine wl_ev (wg F rfl rfl rfl rfl hc26) (ev_move rfl) F S rfl rfl ?_; clear F a; intro a F
         obtain ⟨y36, hy36, hm⟩ := bind_some hm
         refine wl_ev (wg F rfl rfl rfl rfl hc26) (ev_sAt hy36 tu9 rfl rfl) F S rfl rfl ?_; clear F a; intro a F
         refine wl_ev (wg F rfl rfl rfl rfl hc26) (ev_int rfl rfl (bo_eql _ _ _ _)) F S rfl rfl ?_; clear F a; intro a F
         refine wl_ev (wg F rfl rfl rfl rfl hc26) (ev_move rfl) F S rfl rfl ?_; clear F a; intro a F
         obtain ⟨x34, hx13, hm⟩ := bind_some hm
         refine wl_cut 5 (fun a w' => w = w' ∧ Fr 241 a [(32, .bool x34), (27, .bool (decide (y36 = 32))), (26, .bool (decide (y36 = 32))), (25, .int .u8 y36), (24, .i6 x31), (23, .string s_), (22, .bool (decide (x31 < (s_.size : Int)))), (9, .i6 x31), (8, .bool x5), (7, .bool x6), (6, v2), (5, v3), (4, bp b3 0), (3, bp b2 0), (2, bp b1 0), (0, .string s_)]) ?_ ?_
         ·clear hm; obtain ⟨hc27, hm⟩ | ⟨hc27, hm⟩ := ite_or hx13
          ·refine wl_skip rfl rfl rfl rfl (ne_ft hc27) F rfl rfl ?_; clear F a; intro a F
           refine wl_skip rfl rfl rfl rfl (ne_ft hc27) F rfl rfl ?_; clear F a; intro a F
           refine wl_skip rfl rfl rfl rfl (ne_ft hc27) F rfl rfl ?_; clear F a; intro a F
           refine wl_skip rfl rfl rfl rfl (ne_ft hc27) F rfl rfl ?_; clear F a; intro a F
           refine wl_ev (wg F rfl rfl rfl rfl hc26) (ev_pickT rfl hc27 rfl) F S rfl rfl ?_; clear F a; intro a F
           obtain rfl := sinj hm
           refine wpList_nil (then_n ?_); exact ⟨rfl, F.sub ⟨rfl, rfl, rfl, rfl, rfl, rfl, rfl, rfl, rfl, rfl, rfl, rfl, rfl, rfl, rfl, rfl, trivial⟩⟩
          ·refine wl_ev (wg F rfl rfl rfl rfl hc27) (ev_move rfl) F S rfl rfl ?_; clear F a; intro a F
           refine wl_ev (wg F rfl rfl rfl rfl hc27) (ev_move rfl) F S rfl rfl ?_; clear F a; intro a F
           obtain ⟨y37, hy37, hm⟩ := bind_some hm
           refine wl_ev (wg F rfl rfl rfl rfl hc27) (ev_sAt hy37 tu9 rfl rfl) F S rfl rfl ?_; clear F a; intro a F
           refine wl_ev (wg F rfl rfl rfl rfl hc27) (ev_int rfl rfl (bo_eql _ _ _ _)) F S rfl rfl ?_; clear F a; intro a F
           refine wl_ev (wg F rfl rfl rfl rfl hc26) (ev_pickF rfl hc27 rfl) F S rfl rfl ?_; clear F a; intro a F
           obtain rfl := sinj hm
           refine wpList_nil (then_n ?_); exact ⟨rfl, F.sub ⟨rfl, rfl, rfl, rfl, rfl, rfl, rfl, rfl, rfl, rfl, rfl, rfl, rfl, rfl, rfl, rfl, trivial⟩⟩
         clear F; rintro a w' ⟨rfl, F⟩
         refine wl_ev (wg F rfl rfl rfl rfl hc26) (ev_move rfl) F S rfl rfl ?_; clear F a; intro a F
         obtain ⟨x35, hx14, hm⟩ := bind_some hm
         refine wl_cut 5 (fun a w' => w = w' ∧ Fr 241 a [(38, .bool x35), (33, .bool x34), (32, .bool x34), (27, .bool (decide (y36 = 32))), (26, .bool (decide (y36 = 32))), (25, .int .u8 y36), (24, .i6 x31), (23, .string s_), (22, .bool (decide (x31 < (s_.size : Int)))), (9, .i6 x31), (8, .bool x5), (7, .bool x6), (6, v2), (5, v3), (4, bp b3 0), (3, bp b2 0), (2, bp b1 0), (0, .string s_)]) ?_ ?_
         ·clear hm; obtain ⟨hc28, hm⟩ | ⟨hc28, hm⟩ := ite_or hx14
          ·refine wl_skip rfl rfl rfl rfl (ne_ft hc28) F rfl rfl ?_; clear F a; intro a F
           refine wl_skip rfl rfl rfl rfl (ne_ft hc28) F rfl rfl ?_; clear F a; intro a F
           refine wl_skip rfl rfl rfl rfl (ne_ft hc28) F rfl rfl ?_; clear F a; intro a F
           refine wl_skip rfl rfl rfl rfl (ne_ft hc28) F rfl rfl ?_; clear F a; intro a F
           refine wl_ev (wg F rfl rfl rfl rfl hc26) (ev_pickT rfl hc28 rfl) F S rfl rfl ?_; clear F a; intro a F
           obtain rfl := sinj hm
           refine wpList_nil (then_n ?_); exact ⟨rfl, F.sub ⟨rfl, rfl, rfl, rfl, rfl, rfl, rfl, rfl, rfl, rfl, rfl, rfl, rfl, rfl, rfl, rfl, rfl, rfl, trivial⟩⟩
          ·refine wl_ev (wg F rfl rfl rfl rfl hc28) (ev_move rfl) F S rfl rfl ?_; clear F a; intro a F
           refine wl_ev (wg F rfl rfl rfl rfl hc28) (ev_move rfl) F S rfl rfl ?_; clear F a; intro a F
           obtain ⟨y38, hy38, hm⟩ := bind_some hm
           refine wl_ev (wg F rfl rfl rfl rfl hc28) (ev_sAt hy38 tu9 rfl rfl) F S rfl rfl ?_; clear F a; intro a F
           refine wl_ev (wg F rfl rfl rfl rfl hc28) (ev_int rfl rfl (bo_eql _ _ _ _)) F S rfl rfl ?_; clear F a; intro a F
           refine wl_ev (wg F rfl rfl rfl rfl hc26) (ev_pickF rfl hc28 rfl) F S rfl rfl ?_; clear F a; intro a F
           obtain rfl := sinj hm
           refine wpList_nil (then_n ?_); exact ⟨rfl, F.sub ⟨rfl, rfl, rfl, rfl, rfl, rfl, rfl, rfl, rfl, rfl, rfl, rfl, rfl, rfl, rfl, rfl, rfl, rfl, trivial⟩⟩
         clear F; rintro a w' ⟨rfl, F⟩
         refine wE (ev_pickT rfl hc26 rfl) F S rfl fun a F=>?_
         obtain rfl := sinj hm
         refine wpList_nil (then_n ?_); exact ⟨rfl, F.sub ⟨rfl, rfl, rfl, rfl, rfl, rfl, rfl, rfl, rfl, rfl, trivial⟩⟩
        ·refine wl_skip rfl rfl rfl rfl (ne_tf hc26) F rfl rfl ?_; clear F a; intro a F
         refine wl_skip rfl rfl rfl rfl (ne_tf hc26) F rfl rfl ?_; clear F a; intro a F
         refine wl_skip rfl rfl rfl rfl (ne_tf hc26) F rfl rfl ?_; clear F a; intro a F
         refine wl_skip rfl rfl rfl rfl (ne_tf hc26) F rfl rfl ?_; clear F a; intro a F
         refine wl_skip rfl rfl rfl rfl (ne_tf hc26) F rfl rfl ?_; clear F a; intro a F
         refine wl_skipu rfl rfl rfl rfl F rfl rfl ?_; clear F a; intro a F
         refine wl_skipu rfl rfl rfl rfl F rfl rfl ?_; clear F a; intro a F
         refine wl_skipu rfl rfl rfl rfl F rfl rfl ?_; clear F a; intro a F
         refine wl_skipu rfl rfl rfl rfl F rfl rfl ?_; clear F a; intro a F
         refine wl_skip rfl rfl rfl rfl (ne_tf hc26) F rfl rfl ?_; clear F a; intro a F
         refine wl_skip rfl rfl rfl rfl (ne_tf hc26) F rfl rfl ?_; clear F a; intro a F
         refine wl_skipu rfl rfl rfl rfl F rfl rfl ?_; clear F a; intro a F
         refine wl_skipu rfl rfl rfl rfl F rfl rfl ?_; clear F a; intro a F
         refine wl_skipu rfl rfl rfl rfl F rfl rfl ?_; clear F a; intro a F
         refine wl_skipu rfl rfl rfl rfl F rfl rfl ?_; clear F a; intro a F
         refine wl_skip rfl rfl rfl rfl (ne_tf hc26) F rfl rfl ?_; clear F a; intro a F
         refine wE (ev_pickF rfl hc26 rfl) F S rfl fun a F=>?_
         obtain rfl := sinj hm
         refine wpList_nil (then_n ?_); exact ⟨rfl, F.sub ⟨rfl, rfl, rfl, rfl, rfl, rfl, rfl, rfl, rfl, rfl, trivial⟩⟩
       clear F; rintro a w' ⟨rfl, F⟩
       refine wpList_nil ?_
       refine then_n ?_
       obtain ⟨hc29, hm⟩ | ⟨hc29, hm⟩ := ite_or hm
       ·refine wp_condT F rfl hc29 ?_
        refine wp_skip ?_
        refine then_n ?_
        refine wp_block ?_
        refine wp_region_lit ?_
        refine wE (ev_move rfl) F S rfl fun a F=>?_
        obtain ⟨z12, hz12, hm⟩ := bind_some hm
        refine wE (ev_int rfl rfl (bo_add hz12)) F S rfl fun a F=>?_
        refine wE (ev_assign rfl) F S rfl fun a F=>?_
        refine wpList_nil ?_
        refine inb_n ?_
        refine then_n ?_
        obtain rfl := sinj hm
        refine ⟨_, rfl, ?_⟩
        exact ⟨g19, F.sub ⟨rfl, rfl, rfl, rfl, rfl, rfl, rfl, rfl, rfl, trivial⟩, l19, S⟩
       ·refine wp_condF F rfl hc29 ?_
        refine wp_exit ?_
        refine then_e ?_
        refine then_e ?_
        refine inb_x ?_
        refine then_n ?_
        obtain rfl := sinj hm
        obtain rfl := hfin3 _ rfl
        clear hm
        have hm : (changeforgeref2_Parsed.j3 s_ x5 x6 x7 x8 x9 x31 : Option (Step (Int × Bool × Bool × (List (List Int)) × (List ByteArray) × (List Node)) ((SyntaxTree × Fault) ⊕ (Int × Bool × (List Node))))) = some _ := hmo3
        exact ⟨x31, g19, F.sub ⟨rfl, rfl, rfl, rfl, rfl, rfl, rfl, rfl, rfl, trivial⟩, l19, S, hm⟩
     ·clear F S hm; rintro a w ⟨x17, g7, F, l7, S, hm⟩
      refine wp_seq ?_
      refine wp_seq ?_
      refine wp_region_lit ?_
      refine wE (ev_move rfl) F S rfl fun a F=>?_
      refine wE (ev_move rfl) F S rfl fun a F=>?_
      refine wE (ev_lenS rfl tu9) F S rfl fun a F=>?_
      refine wE (ev_int rfl rfl (bo_eql _ _ _ _)) F S rfl fun a F=>?_
      refine wpList_nil ?_
      refine then_n ?_
      obtain ⟨hc4, hm⟩ | ⟨hc4, hm⟩ := ite_or hm
      ·refine wp_condT F rfl hc4 ?_
       refine wp_exit ?_
       refine then_e ?_
       refine inb_e rfl ?_
       refine then_e ?_
       refine then_e ?_
       refine inb_x ?_
       refine then_n ?_
       obtain rfl := sinj hm
       obtain rfl := hfin1 _ rfl
       clear hm
       have hm : (changeforgeref2_Parsed.j1 x17 x6 x9 : Option (SyntaxTree × Fault)) = some _ := hmo1
       replace S : St g7 [[bx b3 #[v4] 24], [bx b2 #[.i6 0, .i6 0] 26], [bx b1 #[nilS] 24], c4] fr w := St.tail [[bx b3 #[v4] 24], [bx b2 #[.i6 0, .i6 0] 26], [bx b1 #[nilS] 24], c4] _ ((((S.frontC 5 rfl).frontC 5 rfl).frontC 5 rfl).frontC 5 rfl)
       exact ⟨x17, x6, x9, v4, c4, g7, F.sub ⟨rfl, rfl, rfl, rfl, rfl, trivial⟩, (l5.trans l7), S, (h4.mono l7), hm⟩
      ·refine wp_condF F rfl hc4 ?_
       refine wp_skip ?_
       refine then_n ?_
       refine wp_seq ?_
       refine wp_seq ?_
       refine wp_region_lit ?_
       refine wE (ev_move rfl) F S rfl fun a F=>?_
       refine wpList_nil ?_
       refine then_n ?_
       obtain ⟨hc5, hm⟩ | ⟨hc5, hm⟩ := ite_or hm
       ·refine wp_condT F rfl hc5 ?_
        refine wp_seq ?_
        refine wp_region_lit ?_
        refine wE (ev_build (parts := []) (vs := []) rfl (fun w => tb24_  w)) F S rfl fun a F=>?_
        refine wE (ev_move rfl) F S rfl fun a F=>?_
        obtain ⟨y4, hy4, hm⟩ := bind_some hm
        refine wl_call0 (wn rfl) rfl F rfl (changeforgeref1_At_ok (fr := (fl [c2, c3, [bx b3 #[v4] 24], [bx b2 #[.i6 0, .i6 0] 26], [bx b1 #[nilS] 24], c4] fr)) 1 x17 S hy4) rfl tc23 rfl rfl ?_; clear F a S
        rintro _ a w ⟨g8, l8, S, rfl⟩ F; replace S : St g8 [c2, c3, [bx b3 #[v4] 24], [bx b2 #[.i6 0, .i6 0] 26], [bx b1 #[nilS] 24], c4] fr w := S
        refine wl_storeC (wn rfl) rfl F S rfl rfl (vs := [nilS]) rfl ts24 (one_cons rfl one_nil) (k := 4) rfl (lb rfl) (c' := #[nilS]) rfl rfl ?_; clear S; intro w S
        refine wl_storeC (wn rfl) rfl F S rfl rfl (vs := [.i6 y4.Code, .i6 y4.Index]) rfl ts26 (one_cons rfl (one_cons rfl one_nil)) (k := 3) rfl (lb rfl) (c' := #[.i6 y4.Code, .i6 y4.Index]) rfl rfl ?_; clear S; intro w S
        refine wpList_nil ?_
        refine then_n ?_
        refine wp_ret ?_
        refine then_r ?_
        refine inb_r ?_
        refine then_r ?_
        refine then_r ?_
        refine inb_r ?_
        refine then_r ?_
        obtain rfl := sinj hm
        obtain rfl := hfin1 _ rfl
        clear hm
        have hm : (some (({ Nodes := [] } : SyntaxTree), y4) : Option (SyntaxTree × Fault)) = some _ := hmo1
        obtain rfl := sinj hm
        replace S : St g8 [[], c2, c3, [bx b3 #[v4] 24], [bx b2 #[.i6 y4.Code, .i6 y4.Index] 26], [bx b1 #[nilS] 24], c4] fr w := S
        refine post_r _ F rfl (ar_cons (resA rfl tu24 rfl (box_ptr (cells := [nilS]) 5 rfl 0 rfl (lb rfl) w S) ts24) (ar_cons (resA rfl tu26 rfl (box_ptr (cells := [.i6 y4.Code, .i6 y4.Index]) 4 rfl 0 rfl (lb rfl) w S) ts26) ar_nil)) ?_
        replace S : St g8 [[]] fr w := St.tail [[]] _ (S.frontC 0 rfl)
        exact ⟨_, rfl, g8, (nilS), [], ((l5.trans l7).trans l8), S, (OwnS.nil _), rfl⟩
       ·refine wp_condF F rfl hc5 ?_
        refine wp_skip ?_
        refine then_n ?_
        refine wp_seq ?_
        refine wp_seq ?_
        refine wp_region_lit ?_
        refine wE (ev_move rfl) F S rfl fun a F=>?_
        refine wE (ev_move rfl) F S rfl fun a F=>?_
        obtain ⟨y5, hy5, hm⟩ := bind_some hm
        refine wE (ev_sAt hy5 tu9 rfl rfl) F S rfl fun a F=>?_
        refine wE (ev_int rfl rfl (bo_eql _ _ _ _)) F S rfl fun a F=>?_
        refine wpList_nil ?_
        refine then_n ?_
        obtain ⟨hc6, hm⟩ | ⟨hc6, hm⟩ := ite_or hm
        ·refine wp_condT F rfl hc6 ?_
         refine wp_seq ?_
         refine wp_seq ?_
         refine wp_region_lit ?_
         refine wE (ev_move rfl) F S rfl fun a F=>?_
         refine wE (ev_move rfl) F S rfl fun a F=>?_
         obtain ⟨x18, hx2, hm⟩ := bind_some hm
         refine wl_cut 4 (fun a w' => w = w' ∧ Fr 241 a [(59, .bool x18), (9, .i6 x17), (8, .bool x5), (7, .bool x6), (6, v2), (5, v3), (4, bp b3 0), (3, bp b2 0), (2, bp b1 0), (0, .string s_)]) ?_ ?_
         ·clear hm; obtain ⟨hc7, hm⟩ | ⟨hc7, hm⟩ := ite_or hx2
          ·refine wl_skip rfl rfl rfl rfl (ne_ft hc7) F rfl rfl ?_; clear F a; intro a F
           refine wl_skip rfl rfl rfl rfl (ne_ft hc7) F rfl rfl ?_; clear F a; intro a F
           refine wl_skip rfl rfl rfl rfl (ne_ft hc7) F rfl rfl ?_; clear F a; intro a F
           refine wE (ev_pickT rfl hc7 rfl) F S rfl fun a F=>?_
           obtain rfl := sinj hm
           refine wpList_nil (then_n ?_); exact ⟨rfl, F.sub ⟨rfl, rfl, rfl, rfl, rfl, rfl, rfl, rfl, rfl, rfl, trivial⟩⟩
          ·refine wl_ev (wg F rfl rfl rfl rfl hc7) (ev_move rfl) F S rfl rfl ?_; clear F a; intro a F
           refine wl_ev (wg F rfl rfl rfl rfl hc7) (ev_lenOw h3 rfl tu47) F S rfl rfl ?_; clear F a; intro a F
           refine wl_ev (wg F rfl rfl rfl rfl hc7) (ev_int rfl rfl (bo_eql _ _ _ _)) F S rfl rfl ?_; clear F a; intro a F
           refine wE (ev_pickF rfl hc7 rfl) F S rfl fun a F=>?_
           obtain rfl := sinj hm
           refine wpList_nil (then_n ?_); exact ⟨rfl, F.sub ⟨rfl, rfl, rfl, rfl, rfl, rfl, rfl, rfl, rfl, rfl, trivial⟩⟩
         clear F; rintro a w' ⟨rfl, F⟩
         refine wpList_nil ?_
         refine then_n ?_
         obtain ⟨hc8, hm⟩ | ⟨hc8, hm⟩ := ite_or hm
         ·refine wp_condT F rfl hc8 ?_
          refine wp_seq ?_
          refine wp_region_lit ?_
          refine wE (ev_build (parts := []) (vs := []) rfl (fun w => tb24_  w)) F S rfl fun a F=>?_
          refine wE (ev_move rfl) F S rfl fun a F=>?_
          obtain ⟨y6, hy6, hm⟩ := bind_some hm
          refine wl_call0 (wn rfl) rfl F rfl (changeforgeref1_At_ok (fr := (fl [c2, c3, [bx b3 #[v4] 24], [bx b2 #[.i6 0, .i6 0] 26], [bx b1 #[nilS] 24], c4] fr)) 1 x17 S hy6) rfl tc23 rfl rfl ?_; clear F a S
          rintro _ a w ⟨g9, l9, S, rfl⟩ F; replace S : St g9 [c2, c3, [bx b3 #[v4] 24], [bx b2 #[.i6 0, .i6 0] 26], [bx b1 #[nilS] 24], c4] fr w := S
          refine wl_storeC (wn rfl) rfl F S rfl rfl (vs := [nilS]) rfl ts24 (one_cons rfl one_nil) (k := 4) rfl (lb rfl) (c' := #[nilS]) rfl rfl ?_; clear S; intro w S
          refine wl_storeC (wn rfl) rfl F S rfl rfl (vs := [.i6 y6.Code, .i6 y6.Index]) rfl ts26 (one_cons rfl (one_cons rfl one_nil)) (k := 3) rfl (lb rfl) (c' := #[.i6 y6.Code, .i6 y6.Index]) rfl rfl ?_; clear S; intro w S
          refine wpList_nil ?_
          refine then_n ?_
          refine wp_ret ?_
          refine then_r ?_
          refine then_r ?_
          refine inb_r ?_
          refine then_r ?_
          refine then_r ?_
          refine inb_r ?_
          refine then_r ?_
          obtain rfl := sinj hm
          obtain rfl := hfin1 _ rfl
          clear hm
          have hm : (some (({ Nodes := [] } : SyntaxTree), y6) : Option (SyntaxTree × Fault)) = some _ := hmo1
          obtain rfl := sinj hm
          replace S : St g9 [[], c2, c3, [bx b3 #[v4] 24], [bx b2 #[.i6 y6.Code, .i6 y6.Index] 26], [bx b1 #[nilS] 24], c4] fr w := S
          refine post_r _ F rfl (ar_cons (resA rfl tu24 rfl (box_ptr (cells := [nilS]) 5 rfl 0 rfl (lb rfl) w S) ts24) (ar_cons (resA rfl tu26 rfl (box_ptr (cells := [.i6 y6.Code, .i6 y6.Index]) 4 rfl 0 rfl (lb rfl) w S) ts26) ar_nil)) ?_
          replace S : St g9 [[]] fr w := St.tail [[]] _ (S.frontC 0 rfl)
          exact ⟨_, rfl, g9, (nilS), [], ((l5.trans l7).trans l9), S, (OwnS.nil _), rfl⟩
         ·refine wp_condF F rfl hc8 ?_
          refine wp_skip ?_
          refine then_n ?_
          refine wp_seq ?_
          refine wp_region_lit ?_
          refine wE (ev_move rfl) F S rfl fun a F=>?_
          obtain ⟨z1, hz1, hm⟩ := bind_some hm
          refine wE (ev_int rfl rfl (bo_add hz1)) F S rfl fun a F=>?_
          refine wE (ev_assign rfl) F S rfl fun a F=>?_
          refine wpList_nil ?_
          refine then_n ?_
          refine wp_seq ?_
          refine wp_region_lit ?_
          refine wE (ev_move rfl) F S rfl fun a F=>?_
          refine wE (ev_lenOw h3 rfl tu47) F S rfl fun a F=>?_
          obtain ⟨z2, hz2, hm⟩ := bind_some hm
          refine wE (ev_int rfl rfl (bo_sub hz2)) F S rfl fun a F=>?_
          refine wE (ev_assign rfl) F S rfl fun a F=>?_
          refine wpList_nil ?_
          refine then_n ?_
          refine wp_seq ?_
          refine wp_dv [] mo S ?_; clear S; intro ok1 w S
          refine dv_et ok1 0 rfl (ev_fieldAddr' tu24 tf24_0 (z := 0) ts22 rfl ⟨_, rfl⟩ rfl) F rfl fun a F=>?_
          refine dv_ev ok1 1 rfl (ev_load1 tu22 rfl rfl (box_ptr (cells := [v4]) 2 rfl 0 rfl (lb rfl))) F S rfl fun a F=>?_
          refine dv_et ok1 2 rfl (ev_move rfl) F rfl fun a F=>?_
          refine dv_et ok1 3 rfl (ev_move rfl) F rfl fun a F=>?_
          obtain ⟨y7, hy7, hm⟩ := bind_some hm
          refine dv_et ok1 4 rfl (ev_idxO (h3.mono l7) hy7 tu47 ts9 rfl rfl) F rfl fun a F=>?_
          obtain ⟨cs1, hr2, hq1⟩ := elemO (h3.mono l7) hy7
          obtain rfl := rep_str hr2
          refine dv_ev ok1 5 rfl (ev_load1 tu9 rfl rfl (hq1 _ _ 1 rfl)) F S rfl fun a F=>?_
          refine dv_et ok1 6 rfl (ev_move rfl) F rfl fun a F=>?_
          refine dv_et ok1 7 rfl (ev_move rfl) F rfl fun a F=>?_
          obtain ⟨y8, hy8, hm⟩ := bind_some hm
          refine dv_et ok1 8 rfl (ev_idxN (h2.mono l7) hy8 tu48 ts38 rfl rfl) F rfl fun a F=>?_
          obtain ⟨cs2, ca1, cr1, ci1, hH1, hR1, hP1⟩ := OwnN.hole (h2.mono l7) hy8
          replace S : St g7 [ca1, cr1, ci1, c3, [bx b3 #[v4] 24], [bx b2 #[.i6 0, .i6 0] 26], [bx b1 #[nilS] 24], c4] fr w := St.split3 hP1 S
          obtain ⟨v8, rfl, h8⟩ := orep_list hR1
          refine dv_ev ok1 9 rfl (ev_load1 tu38 rfl rfl (HoleN.ptr hH1 _ _ 0 rfl)) F S rfl fun a F=>?_
          refine dv_et ok1 10 rfl (ev_build (parts := [(0, .tmp 73), (1, .tmp 77)]) (vs := [(0, .string y7), (1, v8)]) rfl (fun w => tb50_0_1 y7 v8 (OwnS.isSl h8) w)) F rfl fun a F=>?_
          refine dv_op ok1 11 rfl [(1, v4)] ?_
          obtain ⟨g10, l10, S, h9⟩ : ∃ gz, Le g7 gz ∧ St gz [ca1, cr1, c3, [bx b3 #[v4] 24], [bx b2 #[.i6 0, .i6 0] 26], [bx b1 #[nilS] 24], c4] fr w ∧ RepSl gz y8 v8 := ⟨_, Le.add _ _, S.freeze 2 rfl, OwnS.freeze (S.front 2 rfl) h8⟩
          refine wl_lit (l := ([({ Label := y7, Children := y8 } : Node)] : List Node)) (vs := [.agg #[.string y7, v8]]) (parts := [(0, .tmp 78)]) (wn rfl) rfl rfl rfl tu22 te50 (sz_cons rfl sz_nil) rfl (Cat.cons (rep_Node_mk (x := ({ Label := y7, Children := y8 } : Node)) h9) (Cat.nil _)) (coa_cons rfl coa_nil) rfl F S rfl rfl ?_; clear F a S
          rintro v9 c8 a w h10 F S
          refine dv_nx ⟨yl_ev rfl rfl (ev_load1 tu22 rfl rfl (box_ptr (cells := [v4]) 4 rfl 0 rfl (lb rfl))) F S, trivial⟩ ?_
          refine dv_op ok1 12 rfl [] ?_
          obtain ⟨cs3, hk1, hr3⟩ := OwnS.reads h10
          obtain ⟨y9, hy9, hm⟩ := bind_some hm
          refine wl_append (wn rfl) rfl tu22 tu22 te50 (by decide) (by decide) F S rfl rfl (k := 7) rfl (h4.mono (l7.trans l10)) hk1 rfl (hr3 _ _ _ 0 rfl S) hy9 rfl rfl ?_; clear F a S
          rintro v10 c9 a w h11 S F; replace S : St g10 [c8, ca1, cr1, c3, [bx b3 #[v4] 24], [bx b2 #[.i6 0, .i6 0] 26], [bx b1 #[nilS] 24], c9] fr w := S
          refine dv_nx trivial ?_
          refine dv_et ok1 13 rfl (ev_fieldAddr' tu24 tf24_0 (z := 0) ts22 rfl ⟨_, rfl⟩ rfl) F rfl fun a F=>?_
          refine dv_op ok1 14 rfl [] ?_
          refine wl_storeC (wn rfl) rfl F S rfl rfl (vs := [v10]) (OwnS.cl h11) ts22 (one_cons (OwnS.one h11) one_nil) (k := 4) rfl (lb rfl) (c' := #[v10]) rfl rfl ?_; clear S; intro w S
          refine dv_nx trivial ?_
          refine dv_fin ok1 ?_
          refine then_n ?_
          refine wp_seq ?_
          refine wp_region_lit ?_
          refine wE (ev_move rfl) F S rfl fun a F=>?_
          refine wE (ev_move rfl) F S rfl fun a F=>?_
          obtain ⟨y10, hy10, hm⟩ := bind_some hm
          refine wl_cutO (wn rfl) rfl (h3.mono (l7.trans l10)) hy10 tu47 ts9 rfl (bnd0 _) (bndV rfl) F rfl rfl ?_; clear F a; rintro v11 h12 a F
          refine wE (ev_assign rfl) F S rfl fun a F=>?_
          refine wpList_nil ?_
          refine then_n ?_
          refine wp_seq ?_
          refine wp_region_lit ?_
          refine wE (ev_move rfl) F S rfl fun a F=>?_
          refine wE (ev_move rfl) F S rfl fun a F=>?_
          obtain ⟨y11, hy11, hm⟩ := bind_some hm
          replace S : St g10 [ca1, cr1, c8, c3, [bx b3 #[v10] 24], [bx b2 #[.i6 0, .i6 0] 26], [bx b1 #[nilS] 24], c9] fr w := ((((((((S.frontC 7 rfl).frontC 7 rfl).frontC 7 rfl).frontC 7 rfl).frontC 7 rfl).frontC 5 rfl).frontC 8 rfl).frontC 8 rfl)
          replace S : St g10 [(ca1 ++ cr1), c8, c3, [bx b3 #[v10] 24], [bx b2 #[.i6 0, .i6 0] 26], [bx b1 #[nilS] 24], c9] fr w := S.of_eq (by simp only [fl, List.append_assoc, List.append_nil, List.nil_append])
          refine wl_cutH (wn rfl) rfl (hH1.mono l10) (Int.le_refl _) S hy11 tu48 ts38 rfl (bnd0 _) (bndV rfl) F rfl rfl ?_; clear F a S; rintro v12 c10 h13 S a F
          refine wE (ev_assign rfl) F S rfl fun a F=>?_
          refine wpList_nil ?_
          refine then_n ?_
          refine wp_cut (fun a w => ∃ (x19 : Bool) (x20 : List (List Int)) (v13 : Value) (c11 : Hl) (g11 : Gh), Fr 241 a [(7, .bool x19), (6, v13), (5, v11), (9, .i6 z1), (8, .bool x5), (4, bp b3 0), (3, bp b2 0), (2, bp b1 0), (0, .string s_)] ∧ Le g10 g11 ∧ St g11 [c11, c3, [bx b3 #[v10] 24], [bx b2 #[.i6 0, .i6 0] 26], [bx b1 #[nilS] 24], c9] fr w ∧ OwnN g11 x20 v13 c11 ∧ changeforgeref2_Parsed.j4 x5 z1 y9 y10 x19 x20 = some x10) ?_ ?_
          ·refine wp_seq ?_
           refine wp_region_lit ?_
           refine wE (ev_move rfl) F S rfl fun a F=>?_
           refine wE (ev_int rfl rfl (bo_eql _ _ _ _)) F S rfl fun a F=>?_
           refine wpList_nil ?_
           refine then_n ?_
           obtain ⟨hc9, hm⟩ | ⟨hc9, hm⟩ := ite_or hm
           ·refine wp_condT F rfl hc9 ?_
            refine wp_region_lit ?_
            refine wE (ev_assign rfl) F S rfl fun a F=>?_
            refine wpList_nil ?_
            refine then_n ?_
            replace S : St g10 [c10, c3, [bx b3 #[v10] 24], [bx b2 #[.i6 0, .i6 0] 26], [bx b1 #[nilS] 24], c9] fr w := St.tail [c10, c3, [bx b3 #[v10] 24], [bx b2 #[.i6 0, .i6 0] 26], [bx b1 #[nilS] 24], c9] _ ((((((S.frontC 6 rfl).frontC 6 rfl).frontC 6 rfl).frontC 6 rfl).frontC 6 rfl).frontC 5 rfl)
            exact ⟨true, y11, v12, c10, g10, F.sub ⟨rfl, rfl, rfl, rfl, rfl, rfl, rfl, rfl, rfl, trivial⟩, (Le.refl _), S, h13, hm⟩
           ·refine wp_condF F rfl hc9 ?_
            refine wp_dv [] mo S ?_; clear S; intro ok2 w S
            refine dv_et ok2 0 rfl (ev_move rfl) F rfl fun a F=>?_
            refine dv_et ok2 1 rfl (ev_move rfl) F rfl fun a F=>?_
            obtain ⟨z3, hz3, hm⟩ := bind_some hm
            refine dv_et ok2 2 rfl (ev_int rfl rfl (bo_sub hz3)) F rfl fun a F=>?_
            refine dv_et ok2 3 rfl (ev_move rfl) F rfl fun a F=>?_
            refine dv_et ok2 4 rfl (ev_move rfl) F rfl fun a F=>?_
            refine dv_et ok2 5 rfl (ev_int rfl rfl (bo_sub hz3)) F rfl fun a F=>?_
            obtain ⟨y12, hy12, hm⟩ := bind_some hm
            refine dv_et ok2 6 rfl (ev_idxN h13 hy12 tu48 ts38 rfl rfl) F rfl fun a F=>?_
            obtain ⟨cs4, ca2, cr2, ci2, hH2, hR2, hP2⟩ := OwnN.hole h13 hy12
            replace S : St g10 [ca2, cr2, ci2, c8, c3, [bx b3 #[v10] 24], [bx b2 #[.i6 0, .i6 0] 26], [bx b1 #[nilS] 24], c9] fr w := St.split3 hP2 S
            obtain ⟨v14, rfl, h15⟩ := orep_list hR2
            refine dv_ev ok2 7 rfl (ev_load1 tu38 rfl rfl (HoleN.ptr hH2 _ _ 0 rfl)) F S rfl fun a F=>?_
            refine dv_et ok2 8 rfl (ev_fieldAddr' tu24 tf24_0 (z := 0) ts22 rfl ⟨_, rfl⟩ rfl) F rfl fun a F=>?_
            refine dv_ev ok2 9 rfl (ev_load1 tu22 rfl rfl (box_ptr (cells := [v10]) 5 rfl 0 rfl (lb rfl))) F S rfl fun a F=>?_
            refine dv_et ok2 10 rfl (ev_lenOw h11 rfl tu22) F rfl fun a F=>?_
            obtain ⟨z5, hz5, hm⟩ := bind_some hm
            refine dv_et ok2 11 rfl (ev_int rfl rfl (bo_sub hz5)) F rfl fun a F=>?_
            refine dv_op ok2 12 rfl [(7, v14)] ?_
            refine wl_lit (l := ([z5] : List Int)) (vs := [.i6 z5]) (parts := [(0, .tmp 101)]) (wn rfl) rfl rfl rfl tu38 te3 (sz_cons rfl sz_nil) rfl (Cat.cons (show Rep.rep _ z5 _ from rfl) (Cat.nil _)) (coa_cons rfl coa_nil) rfl F S rfl rfl ?_; clear F a S
            rintro v15 c12 a w h16 F S
            refine dv_nx ⟨yl_ev rfl rfl (ev_load1 tu38 rfl rfl (HoleN.ptr hH2 _ _ 1 rfl)) F S, trivial⟩ ?_
            refine dv_op ok2 13 rfl [] ?_
            obtain ⟨cs5, hk2, hr4⟩ := OwnS.reads h16
            obtain ⟨y13, hy13, hm⟩ := bind_some hm
            refine wl_append (wn rfl) rfl tu38 tu38 te3 (by decide) (by decide) F S rfl rfl (k := 3) rfl h15 hk2 rfl (hr4 _ _ _ 0 rfl S) hy13 rfl rfl ?_; clear F a S
            rintro v16 c13 a w h17 S F; replace S : St g10 [c12, ca2, cr2, c13, c8, c3, [bx b3 #[v10] 24], [bx b2 #[.i6 0, .i6 0] 26], [bx b1 #[nilS] 24], c9] fr w := S
            refine dv_nx trivial ?_
            refine dv_et ok2 14 rfl (ev_idxH hH2 hy12 tu48 ts38 rfl rfl) F rfl fun a F=>?_
            refine dv_op ok2 15 rfl [] ?_
            refine wl_storeH 0 (wn rfl) rfl F S hH2 addP_zero rfl rfl (us := [v16]) (OwnS.cl h17) ts38 (one_cons (OwnS.one h17) one_nil) (k := 1) rfl (lb rfl) (cs' := [v16]) rfl rfl ?_; clear S
            rintro ca3 w hH3 S; replace S : St g10 [c12, ca3, cr2, c13, c8, c3, [bx b3 #[v10] 24], [bx b2 #[.i6 0, .i6 0] 26], [bx b1 #[nilS] 24], c9] fr w := S
            refine dv_nx trivial ?_
            refine dv_fin ok2 ?_
            replace F := F.sub (e' := [(6, v12), (5, v11), (9, .i6 z1), (8, .bool x5), (7, .bool x6), (4, bp b3 0), (3, bp b2 0), (2, bp b1 0), (0, .string s_)]) ⟨rfl, rfl, rfl, rfl, rfl, rfl, rfl, rfl, rfl, trivial⟩
            refine then_n ?_
            replace S : St g10 [ca3, cr2, c13, c12, c8, c3, [bx b3 #[v10] 24], [bx b2 #[.i6 0, .i6 0] 26], [bx b1 #[nilS] 24], c9] fr w := ((((((((((S.frontC 9 rfl).frontC 9 rfl).frontC 9 rfl).frontC 9 rfl).frontC 9 rfl).frontC 9 rfl).frontC 6 rfl).frontC 10 rfl).frontC 10 rfl).frontC 10 rfl)
            obtain ⟨y14, hy14, hm⟩ := bind_some hm
            have h18 := HoleN.shut hH3 (orep_list_mk h17); replace h18 : OwnN g10 y14 v12 (ca3 ++ (cr2 ++ c13)) := sinj hy14 ▸ h18
            replace S : St g10 [(ca3 ++ (cr2 ++ c13)), c12, c8, c3, [bx b3 #[v10] 24], [bx b2 #[.i6 0, .i6 0] 26], [bx b1 #[nilS] 24], c9] fr w := S.of_eq (by simp only [fl, List.append_assoc, List.append_nil, List.nil_append])
            generalize (ca3 ++ (cr2 ++ c13)) = c14 at S h18
            replace S : St g10 [c14, c3, [bx b3 #[v10] 24], [bx b2 #[.i6 0, .i6 0] 26], [bx b1 #[nilS] 24], c9] fr w := St.tail [c14, c3, [bx b3 #[v10] 24], [bx b2 #[.i6 0, .i6 0] 26], [bx b1 #[nilS] 24], c9] _ ((((((S.frontC 7 rfl).frontC 7 rfl).frontC 7 rfl).frontC 7 rfl).frontC 7 rfl).frontC 5 rfl)
            exact ⟨x6, y14, v12, c14, g10, F.sub ⟨rfl, rfl, rfl, rfl, rfl, rfl, rfl, rfl, rfl, trivial⟩, (Le.refl _), S, h18, hm⟩
          ·clear F S hm; rintro a w ⟨x19, x20, v13, c11, g11, F, l11, S, h14, hm⟩
           refine wp_exit ?_
           refine then_e ?_
           refine inb_x ?_
           refine then_n ?_
           exact ⟨x19, x20, y10, z1, x5, y9, v13, v11, v10, c11, c3, c9, g11, F.sub ⟨rfl, rfl, rfl, rfl, rfl, rfl, rfl, rfl, rfl, trivial⟩, ((l7.trans l10).trans l11), S, h14, (h12.mono l11), (h11.mono l11), hm⟩
        ·refine wp_condF F rfl hc6 ?_
         refine wp_skip ?_
         refine then_n ?_
         refine wp_seq ?_
         refine wp_seq ?_
         refine wp_region_lit ?_
         refine wE (ev_move rfl) F S rfl fun a F=>?_
         refine wE (ev_move rfl) F S rfl fun a F=>?_
         obtain ⟨y15, hy15, hm⟩ := bind_some hm
         refine wE (ev_sAt hy15 tu9 rfl rfl) F S rfl fun a F=>?_
         refine wE (ev_int rfl rfl (bo_neq _ _ _ _)) F S rfl fun a F=>?_
         refine wE (ev_move rfl) F S rfl fun a F=>?_
         obtain ⟨x21, hx3, hm⟩ := bind_some hm
         refine wl_cut 11 (fun a w' => w = w' ∧ Fr 241 a [(120, .bool x21), (9, .i6 x17), (8, .bool x5), (7, .bool x6), (6, v2), (5, v3), (4, bp b3 0), (3, bp b2 0), (2, bp b1 0), (0, .string s_)]) ?_ ?_
         ·clear hm; obtain ⟨hc10, hm⟩ | ⟨hc10, hm⟩ := ite_or hx3
          ·refine wl_ev (wg F rfl rfl rfl rfl hc10) (ev_move rfl) F S rfl rfl ?_; clear F a; intro a F
           refine wl_ev (wg F rfl rfl rfl rfl hc10) (ev_move rfl) F S rfl rfl ?_; clear F a; intro a F
           obtain ⟨y16, hy16, hm⟩ := bind_some hm
           refine wl_ev (wg F rfl rfl rfl rfl hc10) (ev_sAt hy16 tu9 rfl rfl) F S rfl rfl ?_; clear F a; intro a F
           refine wl_ev (wg F rfl rfl rfl rfl hc10) (ev_int rfl rfl (bo_lss _ _ _ _)) F S rfl rfl ?_; clear F a; intro a F
           refine wl_ev (wg F rfl rfl rfl rfl hc10) (ev_move rfl) F S rfl rfl ?_; clear F a; intro a F
           obtain ⟨x22, hx4, hm⟩ := bind_some hm
           refine wl_cut 5 (fun a w' => w = w' ∧ Fr 241 a [(119, .bool x22), (114, .bool (decide (y16 < 33))), (113, .bool (decide (y16 < 33))), (112, .int .u8 y16), (111, .i6 x17), (110, .string s_), (109, .bool (!decide (y15 = 40))), (9, .i6 x17), (8, .bool x5), (7, .bool x6), (6, v2), (5, v3), (4, bp b3 0), (3, bp b2 0), (2, bp b1 0), (0, .string s_)]) ?_ ?_
           ·clear hm; obtain ⟨hc11, hm⟩ | ⟨hc11, hm⟩ := ite_or hx4
            ·refine wl_skip rfl rfl rfl rfl (ne_ft hc11) F rfl rfl ?_; clear F a; intro a F
             refine wl_skip rfl rfl rfl rfl (ne_ft hc11) F rfl rfl ?_; clear F a; intro a F
             refine wl_skip rfl rfl rfl rfl (ne_ft hc11) F rfl rfl ?_; clear F a; intro a F
             refine wl_skip rfl rfl rfl rfl (ne_ft hc11) F rfl rfl ?_; clear F a; intro a F
             refine wl_ev (wg F rfl rfl rfl rfl hc10) (ev_pickT rfl hc11 rfl) F S rfl rfl ?_; clear F a; intro a F
             obtain rfl := sinj hm
             refine wpList_nil (then_n ?_); exact ⟨rfl, F.sub ⟨rfl, rfl, rfl, rfl, rfl, rfl, rfl, rfl, rfl, rfl, rfl, rfl, rfl, rfl, rfl, rfl, trivial⟩⟩
            ·refine wl_ev (wg F rfl rfl rfl rfl hc11) (ev_move rfl) F S rfl rfl ?_; clear F a; intro a F
             refine wl_ev (wg F rfl rfl rfl rfl hc11) (ev_move rfl) F S rfl rfl ?_; clear F a; intro a F
             obtain ⟨y17, hy17, hm⟩ := bind_some hm
             refine wl_ev (wg F rfl rfl rfl rfl hc11) (ev_sAt hy17 tu9 rfl rfl) F S rfl rfl ?_; clear F a; intro a F
             refine wl_ev (wg F rfl rfl rfl rfl hc11) (ev_int rfl rfl (bo_gtr _ _ _ _)) F S rfl rfl ?_; clear F a; intro a F
             refine wl_ev (wg F rfl rfl rfl rfl hc10) (ev_pickF rfl hc11 rfl) F S rfl rfl ?_; clear F a; intro a F
             obtain rfl := sinj hm
             refine wpList_nil (then_n ?_); exact ⟨rfl, F.sub ⟨rfl, rfl, rfl, rfl, rfl, rfl, rfl, rfl, rfl, rfl, rfl, rfl, rfl, rfl, rfl, rfl, trivial⟩⟩
           clear F; rintro a w' ⟨rfl, F⟩
           refine wE (ev_pickT rfl hc10 rfl) F S rfl fun a F=>?_
           obtain rfl := sinj hm
           refine wpList_nil (then_n ?_); exact ⟨rfl, F.sub ⟨rfl, rfl, rfl, rfl, rfl, rfl, rfl, rfl, rfl, rfl, trivial⟩⟩
          ·refine wl_skip rfl rfl rfl rfl (ne_tf hc10) F rfl rfl ?_; clear F a; intro a F
           refine wl_skip rfl rfl rfl rfl (ne_tf hc10) F rfl rfl ?_; clear F a; intro a F
           refine wl_skip rfl rfl rfl rfl (ne_tf hc10) F rfl rfl ?_; clear F a; intro a F
           refine wl_skip rfl rfl rfl rfl (ne_tf hc10) F rfl rfl ?_; clear F a; intro a F
           refine wl_skip rfl rfl rfl rfl (ne_tf hc10) F rfl rfl ?_; clear F a; intro a F
           refine wl_skipu rfl rfl rfl rfl F rfl rfl ?_; clear F a; intro a F
           refine wl_skipu rfl rfl rfl rfl F rfl rfl ?_; clear F a; intro a F
           refine wl_skipu rfl rfl rfl rfl F rfl rfl ?_; clear F a; intro a F
           refine wl_skipu rfl rfl rfl rfl F rfl rfl ?_; clear F a; intro a F
           refine wl_skip rfl rfl rfl rfl (ne_tf hc10) F rfl rfl ?_; clear F a; intro a F
           refine wE (ev_pickF rfl hc10 rfl) F S rfl fun a F=>?_
           obtain rfl := sinj hm
           refine wpList_nil (then_n ?_); exact ⟨rfl, F.sub ⟨rfl, rfl, rfl, rfl, rfl, rfl, rfl, rfl, rfl, rfl, trivial⟩⟩
         clear F; rintro a w' ⟨rfl, F⟩
         refine wpList_nil ?_
         refine then_n ?_
         obtain ⟨hc12, hm⟩ | ⟨hc12, hm⟩ := ite_or hm
         ·refine wp_condT F rfl hc12 ?_
          refine wp_seq ?_
          refine wp_region_lit ?_
          refine wE (ev_build (parts := []) (vs := []) rfl (fun w => tb24_  w)) F S rfl fun a F=>?_
          refine wE (ev_move rfl) F S rfl fun a F=>?_
          obtain ⟨y18, hy18, hm⟩ := bind_some hm
          refine wl_call0 (wn rfl) rfl F rfl (changeforgeref1_At_ok (fr := (fl [c2, c3, [bx b3 #[v4] 24], [bx b2 #[.i6 0, .i6 0] 26], [bx b1 #[nilS] 24], c4] fr)) 1 x17 S hy18) rfl tc23 rfl rfl ?_; clear F a S
          rintro _ a w ⟨g12, l12, S, rfl⟩ F; replace S : St g12 [c2, c3, [bx b3 #[v4] 24], [bx b2 #[.i6 0, .i6 0] 26], [bx b1 #[nilS] 24], c4] fr w := S
          refine wl_storeC (wn rfl) rfl F S rfl rfl (vs := [nilS]) rfl ts24 (one_cons rfl one_nil) (k := 4) rfl (lb rfl) (c' := #[nilS]) rfl rfl ?_; clear S; intro w S
          refine wl_storeC (wn rfl) rfl F S rfl rfl (vs := [.i6 y18.Code, .i6 y18.Index]) rfl ts26 (one_cons rfl (one_cons rfl one_nil)) (k := 3) rfl (lb rfl) (c' := #[.i6 y18.Code, .i6 y18.Index]) rfl rfl ?_; clear S; intro w S
          refine wpList_nil ?_
          refine then_n ?_
          refine wp_ret ?_
          refine then_r ?_
          refine inb_r ?_
          refine then_r ?_
          refine then_r ?_
          refine inb_r ?_
          refine then_r ?_
          obtain rfl := sinj hm
          obtain rfl := hfin1 _ rfl
          clear hm
          have hm : (some (({ Nodes := [] } : SyntaxTree), y18) : Option (SyntaxTree × Fault)) = some _ := hmo1
          obtain rfl := sinj hm
          replace S : St g12 [[], c2, c3, [bx b3 #[v4] 24], [bx b2 #[.i6 y18.Code, .i6 y18.Index] 26], [bx b1 #[nilS] 24], c4] fr w := S
          refine post_r _ F rfl (ar_cons (resA rfl tu24 rfl (box_ptr (cells := [nilS]) 5 rfl 0 rfl (lb rfl) w S) ts24) (ar_cons (resA rfl tu26 rfl (box_ptr (cells := [.i6 y18.Code, .i6 y18.Index]) 4 rfl 0 rfl (lb rfl) w S) ts26) ar_nil)) ?_
          replace S : St g12 [[]] fr w := St.tail [[]] _ (S.frontC 0 rfl)
          exact ⟨_, rfl, g12, (nilS), [], ((l5.trans l7).trans l12), S, (OwnS.nil _), rfl⟩
         ·refine wp_condF F rfl hc12 ?_
          refine wp_skip ?_
          refine then_n ?_
          refine wp_seq ?_
          refine wp_seq ?_
          refine wp_region_lit ?_
          refine wE (ev_move rfl) F S rfl fun a F=>?_
          refine wE (ev_move rfl) F S rfl fun a F=>?_
          obtain ⟨y19, hy19, hm⟩ := bind_some hm
          refine wE (ev_sAt hy19 tu9 rfl rfl) F S rfl fun a F=>?_
          refine wE (ev_int rfl rfl (bo_eql _ _ _ _)) F S rfl fun a F=>?_
          refine wpList_nil ?_
          refine then_n ?_
          obtain ⟨hc13, hm⟩ | ⟨hc13, hm⟩ := ite_or hm
          ·refine wp_condT F rfl hc13 ?_
           refine wp_seq ?_
           refine wp_seq ?_
           refine wp_region_lit ?_
           refine wE (ev_move rfl) F S rfl fun a F=>?_
           refine wpList_nil ?_
           refine then_n ?_
           obtain ⟨hc14, hm⟩ | ⟨hc14, hm⟩ := ite_or hm
           ·refine wp_condT F rfl hc14 ?_
            refine wp_seq ?_
            refine wp_region_lit ?_
            refine wE (ev_build (parts := []) (vs := []) rfl (fun w => tb24_  w)) F S rfl fun a F=>?_
            refine wE (ev_move rfl) F S rfl fun a F=>?_
            obtain ⟨y20, hy20, hm⟩ := bind_some hm
            refine wl_call0 (wn rfl) rfl F rfl (changeforgeref1_At_ok (fr := (fl [c2, c3, [bx b3 #[v4] 24], [bx b2 #[.i6 0, .i6 0] 26], [bx b1 #[nilS] 24], c4] fr)) 1 x17 S hy20) rfl tc23 rfl rfl ?_; clear F a S
            rintro _ a w ⟨g13, l13, S, rfl⟩ F; replace S : St g13 [c2, c3, [bx b3 #[v4] 24], [bx b2 #[.i6 0, .i6 0] 26], [bx b1 #[nilS] 24], c4] fr w := S
            refine wl_storeC (wn rfl) rfl F S rfl rfl (vs := [nilS]) rfl ts24 (one_cons rfl one_nil) (k := 4) rfl (lb rfl) (c' := #[nilS]) rfl rfl ?_; clear S; intro w S
            refine wl_storeC (wn rfl) rfl F S rfl rfl (vs := [.i6 y20.Code, .i6 y20.Index]) rfl ts26 (one_cons rfl (one_cons rfl one_nil)) (k := 3) rfl (lb rfl) (c' := #[.i6 y20.Code, .i6 y20.Index]) rfl rfl ?_; clear S; intro w S
            refine wpList_nil ?_
            refine then_n ?_
            refine wp_ret ?_
            refine then_r ?_
            refine then_r ?_
            refine inb_r ?_
            refine then_r ?_
            refine then_r ?_
            refine inb_r ?_
            refine then_r ?_
            obtain rfl := sinj hm
            obtain rfl := hfin1 _ rfl
            clear hm
            have hm : (some (({ Nodes := [] } : SyntaxTree), y20) : Option (SyntaxTree × Fault)) = some _ := hmo1
            obtain rfl := sinj hm
            replace S : St g13 [[], c2, c3, [bx b3 #[v4] 24], [bx b2 #[.i6 y20.Code, .i6 y20.Index] 26], [bx b1 #[nilS] 24], c4] fr w := S
            refine post_r _ F rfl (ar_cons (resA rfl tu24 rfl (box_ptr (cells := [nilS]) 5 rfl 0 rfl (lb rfl) w S) ts24) (ar_cons (resA rfl tu26 rfl (box_ptr (cells := [.i6 y20.Code, .i6 y20.Index]) 4 rfl 0 rfl (lb rfl) w S) ts26) ar_nil)) ?_
            replace S : St g13 [[]] fr w := St.tail [[]] _ (S.frontC 0 rfl)
            exact ⟨_, rfl, g13, (nilS), [], ((l5.trans l7).trans l13), S, (OwnS.nil _), rfl⟩
           ·refine wp_condF F rfl hc14 ?_
            refine wp_skip ?_
            refine then_n ?_
            refine wp_seq ?_
            refine wp_seq ?_
            refine wp_region_lit ?_
            refine wE (ev_move rfl) F S rfl fun a F=>?_
            refine wE (ev_lenOw h3 rfl tu47) F S rfl fun a F=>?_
            refine wE (ev_int rfl rfl (bo_geq _ _ _ _)) F S rfl fun a F=>?_
            refine wpList_nil ?_
            refine then_n ?_
            obtain ⟨hc15, hm⟩ | ⟨hc15, hm⟩ := ite_or hm
            ·refine wp_condT F rfl hc15 ?_
             refine wp_seq ?_
             refine wp_region_lit ?_
             refine wE (ev_build (parts := []) (vs := []) rfl (fun w => tb24_  w)) F S rfl fun a F=>?_
             refine wE (ev_move rfl) F S rfl fun a F=>?_
             obtain ⟨y21, hy21, hm⟩ := bind_some hm
             refine wl_call0 (wn rfl) rfl F rfl (changeforgeref1_At_ok (fr := (fl [c2, c3, [bx b3 #[v4] 24], [bx b2 #[.i6 0, .i6 0] 26], [bx b1 #[nilS] 24], c4] fr)) 10 x17 S hy21) rfl tc23 rfl rfl ?_; clear F a S
             rintro _ a w ⟨g14, l14, S, rfl⟩ F; replace S : St g14 [c2, c3, [bx b3 #[v4] 24], [bx b2 #[.i6 0, .i6 0] 26], [bx b1 #[nilS] 24], c4] fr w := S
             refine wl_storeC (wn rfl) rfl F S rfl rfl (vs := [nilS]) rfl ts24 (one_cons rfl one_nil) (k := 4) rfl (lb rfl) (c' := #[nilS]) rfl rfl ?_; clear S; intro w S
             refine wl_storeC (wn rfl) rfl F S rfl rfl (vs := [.i6 y21.Code, .i6 y21.Index]) rfl ts26 (one_cons rfl (one_cons rfl one_nil)) (k := 3) rfl (lb rfl) (c' := #[.i6 y21.Code, .i6 y21.Index]) rfl rfl ?_; clear S; intro w S
             refine wpList_nil ?_
             refine then_n ?_
             refine wp_ret ?_
             refine then_r ?_
             refine then_r ?_
             refine inb_r ?_
             refine then_r ?_
             refine then_r ?_
             refine inb_r ?_
             refine then_r ?_
             obtain rfl := sinj hm
             obtain rfl := hfin1 _ rfl
             clear hm
             have hm : (some (({ Nodes := [] } : SyntaxTree), y21) : Option (SyntaxTree × Fault)) = some _ := hmo1
             obtain rfl := sinj hm
             replace S : St g14 [[], c2, c3, [bx b3 #[v4] 24], [bx b2 #[.i6 y21.Code, .i6 y21.Index] 26], [bx b1 #[nilS] 24], c4] fr w := S
             refine post_r _ F rfl (ar_cons (resA rfl tu24 rfl (box_ptr (cells := [nilS]) 5 rfl 0 rfl (lb rfl) w S) ts24) (ar_cons (resA rfl tu26 rfl (box_ptr (cells := [.i6 y21.Code, .i6 y21.Index]) 4 rfl 0 rfl (lb rfl) w S) ts26) ar_nil)) ?_
             replace S : St g14 [[]] fr w := St.tail [[]] _ (S.frontC 0 rfl)
             exact ⟨_, rfl, g14, (nilS), [], ((l5.trans l7).trans l14), S, (OwnS.nil _), rfl⟩
            ·refine wp_condF F rfl hc15 ?_
             refine wp_skip ?_
             refine then_n ?_
             refine wp_seq ?_
             refine wp_region_lit ?_
             refine wE (ev_assign rfl) F S rfl fun a F=>?_
             refine wpList_nil ?_
             refine then_n ?_
             refine wp_seq ?_
             refine wp_region_lit ?_
             refine wE (ev_move rfl) F S rfl fun a F=>?_
             obtain ⟨z6, hz6, hm⟩ := bind_some hm
             refine wE (ev_int rfl rfl (bo_add hz6)) F S rfl fun a F=>?_
             refine wE (ev_assign rfl) F S rfl fun a F=>?_
             refine wpList_nil ?_
             refine then_n ?_
             refine wp_exit ?_
             refine then_e ?_
             refine inb_x ?_
             refine then_n ?_
             exact ⟨x6, x7, x8, z6, true, x9, v2, v3, v4, c2, c3, c4, g7, F.sub ⟨rfl, rfl, rfl, rfl, rfl, rfl, rfl, rfl, rfl, trivial⟩, l7, S, (h2.mono l7), (h3.mono l7), (h4.mono l7), hm⟩
          ·refine wp_condF F rfl hc13 ?_
           refine wp_skip ?_
           refine then_n ?_
           refine wp_seq ?_
           refine wp_seq ?_
           refine wp_region_lit ?_
           refine wE (ev_move rfl) F S rfl fun a F=>?_
           refine wE (ev_not rfl) F S rfl fun a F=>?_
           refine wE (ev_move rfl) F S rfl fun a F=>?_
           obtain ⟨x23, hx5, hm⟩ := bind_some hm
           refine wl_cut 4 (fun a w' => w = w' ∧ Fr 241 a [(146, .bool x23), (9, .i6 x17), (8, .bool x5), (7, .bool x6), (6, v2), (5, v3), (4, bp b3 0), (3, bp b2 0), (2, bp b1 0), (0, .string s_)]) ?_ ?_
           ·clear hm; obtain ⟨hc16, hm⟩ | ⟨hc16, hm⟩ := ite_or hx5
            ·refine wl_ev (wg F rfl rfl rfl rfl hc16) (ev_move rfl) F S rfl rfl ?_; clear F a; intro a F
             refine wl_ev (wg F rfl rfl rfl rfl hc16) (ev_lenOw h3 rfl tu47) F S rfl rfl ?_; clear F a; intro a F
             refine wl_ev (wg F rfl rfl rfl rfl hc16) (ev_int rfl rfl (bo_geq _ _ _ _)) F S rfl rfl ?_; clear F a; intro a F
             refine wE (ev_pickT rfl hc16 rfl) F S rfl fun a F=>?_
             obtain rfl := sinj hm
             refine wpList_nil (then_n ?_); exact ⟨rfl, F.sub ⟨rfl, rfl, rfl, rfl, rfl, rfl, rfl, rfl, rfl, rfl, trivial⟩⟩
            ·refine wl_skip rfl rfl rfl rfl (ne_tf hc16) F rfl rfl ?_; clear F a; intro a F
             refine wl_skip rfl rfl rfl rfl (ne_tf hc16) F rfl rfl ?_; clear F a; intro a F
             refine wl_skip rfl rfl rfl rfl (ne_tf hc16) F rfl rfl ?_; clear F a; intro a F
             refine wE (ev_pickF rfl hc16 rfl) F S rfl fun a F=>?_
             obtain rfl := sinj hm
             refine wpList_nil (then_n ?_); exact ⟨rfl, F.sub ⟨rfl, rfl, rfl, rfl, rfl, rfl, rfl, rfl, rfl, rfl, trivial⟩⟩
           clear F; rintro a w' ⟨rfl, F⟩
           refine wpList_nil ?_
           refine then_n ?_
           obtain ⟨hc17, hm⟩ | ⟨hc17, hm⟩ := ite_or hm
           ·refine wp_condT F rfl hc17 ?_
            refine wp_seq ?_
            refine wp_region_lit ?_
            refine wE (ev_build (parts := []) (vs := []) rfl (fun w => tb24_  w)) F S rfl fun a F=>?_
            refine wE (ev_move rfl) F S rfl fun a F=>?_
            obtain ⟨y22, hy22, hm⟩ := bind_some hm
            refine wl_call0 (wn rfl) rfl F rfl (changeforgeref1_At_ok (fr := (fl [c2, c3, [bx b3 #[v4] 24], [bx b2 #[.i6 0, .i6 0] 26], [bx b1 #[nilS] 24], c4] fr)) 10 x17 S hy22) rfl tc23 rfl rfl ?_; clear F a S
            rintro _ a w ⟨g15, l15, S, rfl⟩ F; replace S : St g15 [c2, c3, [bx b3 #[v4] 24], [bx b2 #[.i6 0, .i6 0] 26], [bx b1 #[nilS] 24], c4] fr w := S
            refine wl_storeC (wn rfl) rfl F S rfl rfl (vs := [nilS]) rfl ts24 (one_cons rfl one_nil) (k := 4) rfl (lb rfl) (c' := #[nilS]) rfl rfl ?_; clear S; intro w S
            refine wl_storeC (wn rfl) rfl F S rfl rfl (vs := [.i6 y22.Code, .i6 y22.Index]) rfl ts26 (one_cons rfl (one_cons rfl one_nil)) (k := 3) rfl (lb rfl) (c' := #[.i6 y22.Code, .i6 y22.Index]) rfl rfl ?_; clear S; intro w S
            refine wpList_nil ?_
            refine then_n ?_
            refine wp_ret ?_
            refine then_r ?_
            refine inb_r ?_
            refine then_r ?_
            refine then_r ?_
            refine inb_r ?_
            refine then_r ?_
            obtain rfl := sinj hm
            obtain rfl := hfin1 _ rfl
            clear hm
            have hm : (some (({ Nodes := [] } : SyntaxTree), y22) : Option (SyntaxTree × Fault)) = some _ := hmo1
            obtain rfl := sinj hm
            replace S : St g15 [[], c2, c3, [bx b3 #[v4] 24], [bx b2 #[.i6 y22.Code, .i6 y22.Index] 26], [bx b1 #[nilS] 24], c4] fr w := S
            refine post_r _ F rfl (ar_cons (resA rfl tu24 rfl (box_ptr (cells := [nilS]) 5 rfl 0 rfl (lb rfl) w S) ts24) (ar_cons (resA rfl tu26 rfl (box_ptr (cells := [.i6 y22.Code, .i6 y22.Index]) 4 rfl 0 rfl (lb rfl) w S) ts26) ar_nil)) ?_
            replace S : St g15 [[]] fr w := St.tail [[]] _ (S.frontC 0 rfl)
            exact ⟨_, rfl, g15, (nilS), [], ((l5.trans l7).trans l15), S, (OwnS.nil _), rfl⟩
           ·refine wp_condF F rfl hc17 ?_
            refine wp_skip ?_
            refine then_n ?_
            refine wp_seq ?_
            refine wp_region_lit ?_
            refine wE (ev_move rfl) F S rfl fun a F=>?_
            refine wE (ev_assign rfl) F S rfl fun a F=>?_
            refine wpList_nil ?_
            refine then_n ?_
            refine wp_cut (fun a w => ∃ (x24 : Int) (g16 : Gh), Fr 241 a [(11, .i6 x17), (9, .i6 x24), (8, .bool x5), (7, .bool x6), (6, v2), (5, v3), (4, bp b3 0), (3, bp b2 0), (2, bp b1 0), (0, .string s_)] ∧ Le g7 g16 ∧ St g16 [c2, c3, [bx b3 #[v4] 24], [bx b2 #[.i6 0, .i6 0] 26], [bx b1 #[nilS] 24], c4] fr w ∧ changeforgeref2_Parsed.j5 s_ x5 x6 x7 x8 x9 x17 x24 = some x10) ?_ ?_
            ·refine wp_block ?_
             obtain ⟨r2, hr8, hm⟩ := bind_some hm
             have hmo2 := hm; clear hm
             refine wp_iter (σ := Int) (ρ := Int) (m := fun s => changeforgeref2_Parsed.l2 s_ s) (I := fun x25 a w => ∃ (g18 : Gh), Fr 241 a [(11, .i6 x17), (9, .i6 x25), (8, .bool x5), (7, .bool x6), (6, v2), (5, v3), (4, bp b3 0), (3, bp b2 0), (2, bp b1 0), (0, .string s_)] ∧ Le g7 g18 ∧ St g18 [c2, c3, [bx b3 #[v4] 24], [bx b2 #[.i6 0, .i6 0] 26], [bx b1 #[nilS] 24], c4] fr w) hr8 ?_ ?_
             ·exact ⟨g7, F.sub ⟨rfl, rfl, rfl, rfl, rfl, rfl, rfl, rfl, rfl, rfl, trivial⟩, (Le.refl _), S⟩
             ·clear F S; rintro x25 a w x26 ⟨g18, F, l18, S⟩ hx6 hfin2
              have hm : changeforgeref2_Parsed.l2 s_ x25 = some x26 := hx6; clear hx6
              unfold changeforgeref2_Parsed.l2 at hm
              refine wp_seq ?_
              refine wp_seq ?_
              refine wp_region_lit ?_
              refine wE (ev_move rfl) F S rfl fun a F=>?_
              refine wE (ev_move rfl) F S rfl fun a F=>?_
              refine wE (ev_lenS rfl tu9) F S rfl fun a F=>?_
              refine wE (ev_int rfl rfl (bo_lss _ _ _ _)) F S rfl fun a F=>?_
              refine wE (ev_move rfl) F S rfl fun a F=>?_
              obtain ⟨x27, hx7, hm⟩ := bind_some hm
              refine wl_cut 5 (fun a w' => w = w' ∧ Fr 241 a [(160, .bool x27), (11, .i6 x17), (9, .i6 x25), (8, .bool x5), (7, .bool x6), (6, v2), (5, v3), (4, bp b3 0), (3, bp b2 0), (2, bp b1 0), (0, .string s_)]) ?_ ?_
              ·clear hm; obtain ⟨hc21, hm⟩ | ⟨hc21, hm⟩ := ite_or hx7
               ·refine wl_ev (wg F rfl rfl rfl rfl hc21) (ev_move rfl) F S rfl rfl ?_; clear F a; intro a F
                refine wl_ev (wg F rfl rfl rfl rfl hc21) (ev_move rfl) F S rfl rfl ?_; clear F a; intro a F
                obtain ⟨y32, hy32, hm⟩ := bind_some hm
                refine wl_ev (wg F rfl rfl rfl rfl hc21) (ev_sAt hy32 tu9 rfl rfl) F S rfl rfl ?_; clear F a; intro a F
                refine wl_ev (wg F rfl rfl rfl rfl hc21) (ev_int rfl rfl (bo_gtr _ _ _ _)) F S rfl rfl ?_; clear F a; intro a F
                refine wE (ev_pickT rfl hc21 rfl) F S rfl fun a F=>?_
                obtain rfl := sinj hm
                refine wpList_nil (then_n ?_); exact ⟨rfl, F.sub ⟨rfl, rfl, rfl, rfl, rfl, rfl, rfl, rfl, rfl, rfl, rfl, trivial⟩⟩
               ·refine wl_skip rfl rfl rfl rfl (ne_tf hc21) F rfl rfl ?_; clear F a; intro a F
                refine wl_skip rfl rfl rfl rfl (ne_tf hc21) F rfl rfl ?_; clear F a; intro a F
                refine wl_skip rfl rfl rfl rfl (ne_tf hc21) F rfl rfl ?_; clear F a; intro a F
                refine wl_skip rfl rfl rfl rfl (ne_tf hc21) F rfl rfl ?_; clear F a; intro a F
                refine wE (ev_pickF rfl hc21 rfl) F S rfl fun a F=>?_
                obtain rfl := sinj hm
                refine wpList_nil (then_n ?_); exact ⟨rfl, F.sub ⟨rfl, rfl, rfl, rfl, rfl, rfl, rfl, rfl, rfl, rfl, rfl, trivial⟩⟩
              clear F; rintro a w' ⟨rfl, F⟩
              refine wE (ev_move rfl) F S rfl fun a F=>?_
              obtain ⟨x28, hx8, hm⟩ := bind_some hm
              refine wl_cut 5 (fun a w' => w = w' ∧ Fr 241 a [(166, .bool x28), (11, .i6 x17), (9, .i6 x25), (8, .bool x5), (7, .bool x6), (6, v2), (5, v3), (4, bp b3 0), (3, bp b2 0), (2, bp b1 0), (0, .string s_)]) ?_ ?_
              ·clear hm; obtain ⟨hc22, hm⟩ | ⟨hc22, hm⟩ := ite_or hx8
               ·refine wl_ev (wg F rfl rfl rfl rfl hc22) (ev_move rfl) F S rfl rfl ?_; clear F a; intro a F
                refine wl_ev (wg F rfl rfl rfl rfl hc22) (ev_move rfl) F S rfl rfl ?_; clear F a; intro a F
                obtain ⟨y33, hy33, hm⟩ := bind_some hm
                refine wl_ev (wg F rfl rfl rfl rfl hc22) (ev_sAt hy33 tu9 rfl rfl) F S rfl rfl ?_; clear F a; intro a F
                refine wl_ev (wg F rfl rfl rfl rfl hc22) (ev_int rfl rfl (bo_lss _ _ _ _)) F S rfl rfl ?_; clear F a; intro a F
                refine wE (ev_pickT rfl hc22 rfl) F S rfl fun a F=>?_
                obtain rfl := sinj hm
                refine wpList_nil (then_n ?_); exact ⟨rfl, F.sub ⟨rfl, rfl, rfl, rfl, rfl, rfl, rfl, rfl, rfl, rfl, rfl, trivial⟩⟩
               ·refine wl_skip rfl rfl rfl rfl (ne_tf hc22) F rfl rfl ?_; clear F a; intro a F
                refine wl_skip rfl rfl rfl rfl (ne_tf hc22) F rfl rfl ?_; clear F a; intro a F
                refine wl_skip rfl rfl rfl rfl (ne_tf hc22) F rfl rfl ?_; clear F a; intro a F
                refine wl_skip rfl rfl rfl rfl (ne_tf hc22) F rfl rfl ?_; clear F a; intro a F
                refine wE (ev_pickF rfl hc22 rfl) F S rfl fun a F=>?_
                obtain rfl := sinj hm
                refine wpList_nil (then_n ?_); exact ⟨rfl, F.sub ⟨rfl, rfl, rfl, rfl, rfl, rfl, rfl, rfl, rfl, rfl, rfl, trivial⟩⟩
              clear F; rintro a w' ⟨rfl, F⟩
              refine wE (ev_move rfl) F S rfl fun a F=>?_
              obtain ⟨x29, hx9, hm⟩ := bind_some hm
              refine wl_cut 5 (fun a w' => w = w' ∧ Fr 241 a [(172, .bool x29), (11, .i6 x17), (9, .i6 x25), (8, .bool x5), (7, .bool x6), (6, v2), (5, v3), (4, bp b3 0), (3, bp b2 0), (2, bp b1 0), (0, .string s_)]) ?_ ?_
              ·clear hm; obtain ⟨hc23, hm⟩ | ⟨hc23, hm⟩ := ite_or hx9
               ·refine wl_ev (wg F rfl rfl rfl rfl hc23) (ev_move rfl) F S rfl rfl ?_; clear F a; intro a F
                refine wl_ev (wg F rfl rfl rfl rfl hc23) (ev_move rfl) F S rfl rfl ?_; clear F a; intro a F
                obtain ⟨y34, hy34, hm⟩ := bind_some hm
                refine wl_ev (wg F rfl rfl rfl rfl hc23) (ev_sAt hy34 tu9 rfl rfl) F S rfl rfl ?_; clear F a; intro a F
                refine wl_ev (wg F rfl rfl rfl rfl hc23) (ev_int rfl rfl (bo_neq _ _ _ _)) F S rfl rfl ?_; clear F a; intro a F
                refine wE (ev_pickT rfl hc23 rfl) F S rfl fun a F=>?_
                obtain rfl := sinj hm
                refine wpList_nil (then_n ?_); exact ⟨rfl, F.sub ⟨rfl, rfl, rfl, rfl, rfl, rfl, rfl, rfl, rfl, rfl, rfl, trivial⟩⟩
               ·refine wl_skip rfl rfl rfl rfl (ne_tf hc23) F rfl rfl ?_; clear F a; intro a F
                refine wl_skip rfl rfl rfl rfl (ne_tf hc23) F rfl rfl ?_; clear F a; intro a F
                refine wl_skip rfl rfl rfl rfl (ne_tf hc23) F rfl rfl ?_; clear F a; intro a F
                refine wl_skip rfl rfl rfl rfl (ne_tf hc23) F rfl rfl ?_; clear F a; intro a F
                refine wE (ev_pickF rfl hc23 rfl) F S rfl fun a F=>?_
                obtain rfl := sinj hm
                refine wpList_nil (then_n ?_); exact ⟨rfl, F.sub ⟨rfl, rfl, rfl, rfl, rfl, rfl, rfl, rfl, rfl, rfl, rfl, trivial⟩⟩
              clear F; rintro a w' ⟨rfl, F⟩
              refine wE (ev_move rfl) F S rfl fun a F=>?_
              obtain ⟨x30, hx10, hm⟩ := bind_some hm
              refine wl_cut 5 (fun a w' => w = w' ∧ Fr 241 a [(178, .bool x30), (11, .i6 x17), (9, .i6 x25), (8, .bool x5), (7, .bool x6), (6, v2), (5, v3), (4, bp b3 0), (3, bp b2 0), (2, bp b1 0), (0, .string s_)]) ?_ ?_
              ·clear hm; obtain ⟨hc24, hm⟩ | ⟨hc24, hm⟩ := ite_or hx10
               ·refine wl_ev (wg F rfl rfl rfl rfl hc24) (ev_move rfl) F S rfl rfl ?_; clear F a; intro a F
                refine wl_ev (wg F rfl rfl rfl rfl hc24) (ev_move rfl) F S rfl rfl ?_; clear F a; intro a F
                obtain ⟨y35, hy35, hm⟩ := bind_some hm
                refine wl_ev (wg F rfl rfl rfl rfl hc24) (ev_sAt hy35 tu9 rfl rfl) F S rfl rfl ?_; clear F a; intro a F
                refine wl_ev (wg F rfl rfl rfl rfl hc24) (ev_int rfl rfl (bo_neq _ _ _ _)) F S rfl rfl ?_; clear F a; intro a F
                refine wE (ev_pickT rfl hc24 rfl) F S rfl fun a F=>?_
                obtain rfl := sinj hm
                refine wpList_nil (then_n ?_); exact ⟨rfl, F.sub ⟨rfl, rfl, rfl, rfl, rfl, rfl, rfl, rfl, rfl, rfl, rfl, trivial⟩⟩
               ·refine wl_skip rfl rfl rfl rfl (ne_tf hc24) F rfl rfl ?_; clear F a; intro a F
                refine wl_skip rfl rfl rfl rfl (ne_tf hc24) F rfl rfl ?_; clear F a; intro a F
                refine wl_skip rfl rfl rfl rfl (ne_tf hc24) F rfl rfl ?_; clear F a; intro a F
                refine wl_skip rfl rfl rfl rfl (ne_tf hc24) F rfl rfl ?_; clear F a; intro a F
                refine wE (ev_pickF rfl hc24 rfl) F S rfl fun a F=>?_
                obtain rfl := sinj hm
                refine wpList_nil (then_n ?_); exact ⟨rfl, F.sub ⟨rfl, rfl, rfl, rfl, rfl, rfl, rfl, rfl, rfl, rfl, rfl, trivial⟩⟩
              clear F; rintro a w' ⟨rfl, F⟩
              refine wpList_nil ?_
              refine then_n ?_
              obtain ⟨hc25, hm⟩ | ⟨hc25, hm⟩ := ite_or hm
              ·refine wp_condT F rfl hc25 ?_
               refine wp_skip ?_
               refine then_n ?_
               refine wp_block ?_
               refine wp_region_lit ?_
               refine wE (ev_move rfl) F S rfl fun a F=>?_
               obtain ⟨z11, hz11, hm⟩ := bind_some hm
               refine wE (ev_int rfl rfl (bo_add hz11)) F S rfl fun a F=>?_
               refine wE (ev_assign rfl) F S rfl fun a F=>?_
               refine wpList_nil ?_
               refine inb_n ?_
               refine then_n ?_
               obtain rfl := sinj hm
               refine ⟨_, rfl, ?_⟩
               exact ⟨g18, F.sub ⟨rfl, rfl, rfl, rfl, rfl, rfl, rfl, rfl, rfl, rfl, trivial⟩, l18, S⟩
              ·refine wp_condF F rfl hc25 ?_
               refine wp_exit ?_
               refine then_e ?_
               refine then_e ?_
               refine inb_x ?_
               refine then_n ?_
               obtain rfl := sinj hm
               obtain rfl := hfin2 _ rfl
               clear hm
               have hm : (changeforgeref2_Parsed.j5 s_ x5 x6 x7 x8 x9 x17 x25 : Option (Step (Int × Bool × Bool × (List (List Int)) × (List ByteArray) × (List Node)) ((SyntaxTree × Fault) ⊕ (Int × Bool × (List Node))))) = some _ := hmo2
               exact ⟨x25, g18, F.sub ⟨rfl, rfl, rfl, rfl, rfl, rfl, rfl, rfl, rfl, rfl, trivial⟩, l18, S, hm⟩
            ·clear F S hm; rintro a w ⟨x24, g16, F, l16, S, hm⟩
             refine wp_seq ?_
             refine wp_seq ?_
             refine wp_region_lit ?_
             refine wE (ev_move rfl) F S rfl fun a F=>?_
             refine wE (ev_move rfl) F S rfl fun a F=>?_
             obtain ⟨z7, hz7, hm⟩ := bind_some hm
             refine wE (ev_int rfl rfl (bo_sub hz7)) F S rfl fun a F=>?_
             refine wE (ev_int rfl rfl (bo_gtr _ _ _ _)) F S rfl fun a F=>?_
             refine wpList_nil ?_
             refine then_n ?_
             obtain ⟨hc18, hm⟩ | ⟨hc18, hm⟩ := ite_or hm
             ·refine wp_condT F rfl hc18 ?_
              refine wp_seq ?_
              refine wp_region_lit ?_
              refine wE (ev_build (parts := []) (vs := []) rfl (fun w => tb24_  w)) F S rfl fun a F=>?_
              refine wE (ev_move rfl) F S rfl fun a F=>?_
              obtain ⟨y23, hy23, hm⟩ := bind_some hm
              refine wl_call0 (wn rfl) rfl F rfl (changeforgeref1_At_ok (fr := (fl [c2, c3, [bx b3 #[v4] 24], [bx b2 #[.i6 0, .i6 0] 26], [bx b1 #[nilS] 24], c4] fr)) 1 x17 S hy23) rfl tc23 rfl rfl ?_; clear F a S
              rintro _ a w ⟨g17, l17, S, rfl⟩ F; replace S : St g17 [c2, c3, [bx b3 #[v4] 24], [bx b2 #[.i6 0, .i6 0] 26], [bx b1 #[nilS] 24], c4] fr w := S
              refine wl_storeC (wn rfl) rfl F S rfl rfl (vs := [nilS]) rfl ts24 (one_cons rfl one_nil) (k := 4) rfl (lb rfl) (c' := #[nilS]) rfl rfl ?_; clear S; intro w S
              refine wl_storeC (wn rfl) rfl F S rfl rfl (vs := [.i6 y23.Code, .i6 y23.Index]) rfl ts26 (one_cons rfl (one_cons rfl one_nil)) (k := 3) rfl (lb rfl) (c' := #[.i6 y23.Code, .i6 y23.Index]) rfl rfl ?_; clear S; intro w S
              refine wpList_nil ?_
              refine then_n ?_
              refine wp_ret ?_
              refine then_r ?_
              refine inb_r ?_
              refine then_r ?_
              refine then_r ?_
              refine inb_r ?_
              refine then_r ?_
              obtain rfl := sinj hm
              obtain rfl := hfin1 _ rfl
              clear hm
              have hm : (some (({ Nodes := [] } : SyntaxTree), y23) : Option (SyntaxTree × Fault)) = some _ := hmo1
              obtain rfl := sinj hm
              replace S : St g17 [[], c2, c3, [bx b3 #[v4] 24], [bx b2 #[.i6 y23.Code, .i6 y23.Index] 26], [bx b1 #[nilS] 24], c4] fr w := S
              refine post_r _ F rfl (ar_cons (resA rfl tu24 rfl (box_ptr (cells := [nilS]) 5 rfl 0 rfl (lb rfl) w S) ts24) (ar_cons (resA rfl tu26 rfl (box_ptr (cells := [.i6 y23.Code, .i6 y23.Index]) 4 rfl 0 rfl (lb rfl) w S) ts26) ar_nil)) ?_
              replace S : St g17 [[]] fr w := St.tail [[]] _ (S.frontC 0 rfl)
              exact ⟨_, rfl, g17, (nilS), [], (((l5.trans l7).trans l16).trans l17), S, (OwnS.nil _), rfl⟩
             ·refine wp_condF F rfl hc18 ?_
              refine wp_skip ?_
              refine then_n ?_
              refine wp_seq ?_
              refine wp_seq ?_
              refine wp_region_lit ?_
              refine wE (ev_move rfl) F S rfl fun a F=>?_
              refine wpList_nil ?_
              refine then_n ?_
              obtain ⟨hc19, hm⟩ | ⟨hc19, hm⟩ := ite_or hm
              ·refine wp_condT F rfl hc19 ?_
               refine wp_seq ?_
               refine wp_region_lit ?_
               refine wE (ev_move rfl) F S rfl fun a F=>?_
               refine wE (ev_move rfl) F S rfl fun a F=>?_
               refine wE (ev_move rfl) F S rfl fun a F=>?_
               refine wE (ev_move rfl) F S rfl fun a F=>?_
               obtain ⟨y24, hy24, hm⟩ := bind_some hm
               refine wE (ev_scut hy24 tu9 rfl (bndV rfl) (bndV rfl)) F S rfl fun a F=>?_
               refine wl_lit (l := ([y24] : List ByteArray)) (vs := [.string y24]) (parts := [(0, .tmp 193)]) (wn rfl) rfl rfl rfl tu47 te9 (sz_cons rfl sz_nil) rfl (Cat.cons (show Rep.rep _ y24 _ from rfl) (Cat.nil _)) (coa_cons rfl coa_nil) rfl F S rfl rfl ?_; clear F a S
               rintro v17 c15 a w h19 F S
               obtain ⟨cs6, hk3, hr5⟩ := OwnS.reads h19
               obtain ⟨y25, hy25, hm⟩ := bind_some hm
               refine wl_append (wn rfl) rfl tu47 tu47 te9 (by decide) (by decide) F S rfl rfl (k := 2) rfl (h3.mono (l7.trans l16)) hk3 rfl (hr5 _ _ _ 0 rfl S) hy25 rfl rfl ?_; clear F a S
               rintro v18 c16 a w h20 S F; replace S : St g16 [c15, c2, c16, [bx b3 #[v4] 24], [bx b2 #[.i6 0, .i6 0] 26], [bx b1 #[nilS] 24], c4] fr w := S
               refine wE (ev_assign rfl) F S rfl fun a F=>?_
               refine wpList_nil ?_
               refine then_n ?_
               refine wp_seq ?_
               refine wp_region_lit ?_
               refine wE (ev_move rfl) F S rfl fun a F=>?_
               replace S : St g16 [[], c15, c2, c16, [bx b3 #[v4] 24], [bx b2 #[.i6 0, .i6 0] 26], [bx b1 #[nilS] 24], c4] fr w := S
               replace S : St g16 [[], c15, c2, c16, [bx b3 #[v4] 24], [bx b2 #[.i6 0, .i6 0] 26], [bx b1 #[nilS] 24], c4] fr w := S.of_eq (by simp only [fl, List.append_assoc, List.append_nil, List.nil_append])
               refine wl_lit1N (p := ([] : List Int)) (wn rfl) rfl rfl tu48 te38 rfl rfl rfl (orep_list_mk (OwnS.nil (α := Int) _)) F S rfl rfl ?_; clear F a S
               rintro v19 c17 a w h21 F S
               replace S : St g16 [c2, c17, c15, c16, [bx b3 #[v4] 24], [bx b2 #[.i6 0, .i6 0] 26], [bx b1 #[nilS] 24], c4] fr w := ((((((((S.frontC 7 rfl).frontC 7 rfl).frontC 7 rfl).frontC 7 rfl).frontC 7 rfl).frontC 6 rfl).frontC 6 rfl).frontC 9 rfl)
               obtain ⟨y26, hy26, hm⟩ := bind_some hm
               refine wl_appendN (wn rfl) rfl tu48 tu48 te38 (by decide) (by decide) F S rfl rfl (h2.mono (l7.trans l16)) h21 hy26 rfl rfl ?_; clear F a S
               rintro v20 c18 a w h22 S F; replace S : St g16 [c18, c15, c16, [bx b3 #[v4] 24], [bx b2 #[.i6 0, .i6 0] 26], [bx b1 #[nilS] 24], c4] fr w := S
               refine wE (ev_assign rfl) F S rfl fun a F=>?_
               refine wpList_nil ?_
               refine then_n ?_
               refine wp_seq ?_
               refine wp_region_lit ?_
               refine wE (ev_assign rfl) F S rfl fun a F=>?_
               refine wpList_nil ?_
               refine then_n ?_
               refine wp_exit ?_
               refine then_e ?_
               refine inb_x ?_
               refine then_n ?_
               replace S : St g16 [c18, c16, [bx b3 #[v4] 24], [bx b2 #[.i6 0, .i6 0] 26], [bx b1 #[nilS] 24], c4] fr w := St.tail [c18, c16, [bx b3 #[v4] 24], [bx b2 #[.i6 0, .i6 0] 26], [bx b1 #[nilS] 24], c4] _ ((((((S.frontC 6 rfl).frontC 6 rfl).frontC 6 rfl).frontC 6 rfl).frontC 6 rfl).frontC 5 rfl)
               exact ⟨x6, y26, y25, x24, false, x9, v20, v18, v4, c18, c16, c4, g16, F.sub ⟨rfl, rfl, rfl, rfl, rfl, rfl, rfl, rfl, rfl, trivial⟩, (l7.trans l16), S, h22, h20, (h4.mono (l7.trans l16)), hm⟩
              ·refine wp_condF F rfl hc19 ?_
               refine wp_skip ?_
               refine then_n ?_
               refine wp_seq ?_
               refine wp_dv [] mo S ?_; clear S; intro ok3 w S
               refine dv_et ok3 0 rfl (ev_fieldAddr' tu24 tf24_0 (z := 0) ts22 rfl ⟨_, rfl⟩ rfl) F rfl fun a F=>?_
               refine dv_ev ok3 1 rfl (ev_load1 tu22 rfl rfl (box_ptr (cells := [v4]) 2 rfl 0 rfl (lb rfl))) F S rfl fun a F=>?_
               refine dv_et ok3 2 rfl (ev_move rfl) F rfl fun a F=>?_
               refine dv_et ok3 3 rfl (ev_move rfl) F rfl fun a F=>?_
               refine dv_et ok3 4 rfl (ev_move rfl) F rfl fun a F=>?_
               obtain ⟨y27, hy27, hm⟩ := bind_some hm
               refine dv_et ok3 5 rfl (ev_scut hy27 tu9 rfl (bndV rfl) (bndV rfl)) F rfl fun a F=>?_
               refine dv_et ok3 6 rfl (ev_build (parts := [(0, .tmp 204)]) (vs := [(0, .string y27)]) rfl (fun w => tb50_0 y27 w)) F rfl fun a F=>?_
               refine dv_op ok3 7 rfl [(1, v4)] ?_
               refine wl_lit (l := ([({ Label := y27, Children := [] } : Node)] : List Node)) (vs := [.agg #[.string y27, nilS]]) (parts := [(0, .tmp 205)]) (wn rfl) rfl rfl rfl tu22 te50 (sz_cons rfl sz_nil) rfl (Cat.cons (rep_Node_mk (x := ({ Label := y27, Children := [] } : Node)) (RepSl.nil _)) (Cat.nil _)) (coa_cons rfl coa_nil) rfl F S rfl rfl ?_; clear F a S
               rintro v21 c19 a w h23 F S
               refine dv_nx ⟨yl_ev rfl rfl (ev_load1 tu22 rfl rfl (box_ptr (cells := [v4]) 3 rfl 0 rfl (lb rfl))) F S, trivial⟩ ?_
               refine dv_op ok3 8 rfl [] ?_
               obtain ⟨cs7, hk4, hr6⟩ := OwnS.reads h23
               obtain ⟨y28, hy28, hm⟩ := bind_some hm
               refine wl_append (wn rfl) rfl tu22 tu22 te50 (by decide) (by decide) F S rfl rfl (k := 6) rfl (h4.mono (l7.trans l16)) hk4 rfl (hr6 _ _ _ 0 rfl S) hy28 rfl rfl ?_; clear F a S
               rintro v22 c20 a w h24 S F; replace S : St g16 [c19, c2, c3, [bx b3 #[v4] 24], [bx b2 #[.i6 0, .i6 0] 26], [bx b1 #[nilS] 24], c20] fr w := S
               refine dv_nx trivial ?_
               refine dv_et ok3 9 rfl (ev_fieldAddr' tu24 tf24_0 (z := 0) ts22 rfl ⟨_, rfl⟩ rfl) F rfl fun a F=>?_
               refine dv_op ok3 10 rfl [] ?_
               refine wl_storeC (wn rfl) rfl F S rfl rfl (vs := [v22]) (OwnS.cl h24) ts22 (one_cons (OwnS.one h24) one_nil) (k := 3) rfl (lb rfl) (c' := #[v22]) rfl rfl ?_; clear S; intro w S
               refine dv_nx trivial ?_
               refine dv_fin ok3 ?_
               refine then_n ?_
               refine wp_seq ?_
               refine wp_region_lit ?_
               refine wE (ev_move rfl) F S rfl fun a F=>?_
               refine wE (ev_lenOw h3 rfl tu47) F S rfl fun a F=>?_
               refine wE (ev_assign rfl) F S rfl fun a F=>?_
               refine wpList_nil ?_
               refine then_n ?_
               refine wp_seq ?_
               refine wp_region_lit ?_
               refine wE (ev_move rfl) F S rfl fun a F=>?_
               refine wE (ev_int rfl rfl (bo_eql _ _ _ _)) F S rfl fun a F=>?_
               refine wpList_nil ?_
               refine then_n ?_
               obtain ⟨hc20, hm⟩ | ⟨hc20, hm⟩ := ite_or hm
               ·refine wp_condT F rfl hc20 ?_
                refine wp_region_lit ?_
                refine wE (ev_assign rfl) F S rfl fun a F=>?_
                refine wpList_nil ?_
                refine inb_n ?_
                refine then_n ?_
                replace S : St g16 [c2, c3, [bx b3 #[v22] 24], [bx b2 #[.i6 0, .i6 0] 26], [bx b1 #[nilS] 24], c20] fr w := St.tail [c2, c3, [bx b3 #[v22] 24], [bx b2 #[.i6 0, .i6 0] 26], [bx b1 #[nilS] 24], c20] _ ((((((S.frontC 6 rfl).frontC 6 rfl).frontC 6 rfl).frontC 6 rfl).frontC 6 rfl).frontC 6 rfl)
                exact ⟨true, x7, x8, x24, x5, y28, v2, v3, v22, c2, c3, c20, g16, F.sub ⟨rfl, rfl, rfl, rfl, rfl, rfl, rfl, rfl, rfl, trivial⟩, (l7.trans l16), S, (h2.mono (l7.trans l16)), (h3.mono (l7.trans l16)), h24, hm⟩
               ·refine wp_condF F rfl hc20 ?_
                refine wp_dv [] mo S ?_; clear S; intro ok4 w S
                refine dv_et ok4 0 rfl (ev_move rfl) F rfl fun a F=>?_
                refine dv_et ok4 1 rfl (ev_move rfl) F rfl fun a F=>?_
                obtain ⟨z8, hz8, hm⟩ := bind_some hm
                refine dv_et ok4 2 rfl (ev_int rfl rfl (bo_sub hz8)) F rfl fun a F=>?_
                refine dv_et ok4 3 rfl (ev_move rfl) F rfl fun a F=>?_
                refine dv_et ok4 4 rfl (ev_move rfl) F rfl fun a F=>?_
                refine dv_et ok4 5 rfl (ev_int rfl rfl (bo_sub hz8)) F rfl fun a F=>?_
                obtain ⟨y29, hy29, hm⟩ := bind_some hm
                refine dv_et ok4 6 rfl (ev_idxN (h2.mono (l7.trans l16)) hy29 tu48 ts38 rfl rfl) F rfl fun a F=>?_
                replace S : St g16 [c2, c19, c3, [bx b3 #[v22] 24], [bx b2 #[.i6 0, .i6 0] 26], [bx b1 #[nilS] 24], c20] fr w := (((((((S.frontC 6 rfl).frontC 6 rfl).frontC 6 rfl).frontC 6 rfl).frontC 6 rfl).frontC 5 rfl).frontC 7 rfl)
                obtain ⟨cs8, ca4, cr3, ci3, hH4, hR3, hP3⟩ := OwnN.hole (h2.mono (l7.trans l16)) hy29
                replace S : St g16 [ca4, cr3, ci3, c19, c3, [bx b3 #[v22] 24], [bx b2 #[.i6 0, .i6 0] 26], [bx b1 #[nilS] 24], c20] fr w := St.split3 hP3 S
                obtain ⟨v23, rfl, h25⟩ := orep_list hR3
                refine dv_ev ok4 7 rfl (ev_load1 tu38 rfl rfl (HoleN.ptr hH4 _ _ 0 rfl)) F S rfl fun a F=>?_
                refine dv_et ok4 8 rfl (ev_fieldAddr' tu24 tf24_0 (z := 0) ts22 rfl ⟨_, rfl⟩ rfl) F rfl fun a F=>?_
                refine dv_ev ok4 9 rfl (ev_load1 tu22 rfl rfl (box_ptr (cells := [v22]) 5 rfl 0 rfl (lb rfl))) F S rfl fun a F=>?_
                refine dv_et ok4 10 rfl (ev_lenOw h24 rfl tu22) F rfl fun a F=>?_
                obtain ⟨z10, hz10, hm⟩ := bind_some hm
                refine dv_et ok4 11 rfl (ev_int rfl rfl (bo_sub hz10)) F rfl fun a F=>?_
                refine dv_op ok4 12 rfl [(7, v23)] ?_
                refine wl_lit (l := ([z10] : List Int)) (vs := [.i6 z10]) (parts := [(0, .tmp 224)]) (wn rfl) rfl rfl rfl tu38 te3 (sz_cons rfl sz_nil) rfl (Cat.cons (show Rep.rep _ z10 _ from rfl) (Cat.nil _)) (coa_cons rfl coa_nil) rfl F S rfl rfl ?_; clear F a S
                rintro v24 c21 a w h26 F S
                refine dv_nx ⟨yl_ev rfl rfl (ev_load1 tu38 rfl rfl (HoleN.ptr hH4 _ _ 1 rfl)) F S, trivial⟩ ?_
                refine dv_op ok4 13 rfl [] ?_
                obtain ⟨cs9, hk5, hr7⟩ := OwnS.reads h26
                obtain ⟨y30, hy30, hm⟩ := bind_some hm
                refine wl_append (wn rfl) rfl tu38 tu38 te3 (by decide) (by decide) F S rfl rfl (k := 3) rfl h25 hk5 rfl (hr7 _ _ _ 0 rfl S) hy30 rfl rfl ?_; clear F a S
                rintro v25 c22 a w h27 S F; replace S : St g16 [c21, ca4, cr3, c22, c19, c3, [bx b3 #[v22] 24], [bx b2 #[.i6 0, .i6 0] 26], [bx b1 #[nilS] 24], c20] fr w := S
                refine dv_nx trivial ?_
                refine dv_et ok4 14 rfl (ev_idxH hH4 hy29 tu48 ts38 rfl rfl) F rfl fun a F=>?_
                refine dv_op ok4 15 rfl [] ?_
                refine wl_storeH 0 (wn rfl) rfl F S hH4 addP_zero rfl rfl (us := [v25]) (OwnS.cl h27) ts38 (one_cons (OwnS.one h27) one_nil) (k := 1) rfl (lb rfl) (cs' := [v25]) rfl rfl ?_; clear S
                rintro ca5 w hH5 S; replace S : St g16 [c21, ca5, cr3, c22, c19, c3, [bx b3 #[v22] 24], [bx b2 #[.i6 0, .i6 0] 26], [bx b1 #[nilS] 24], c20] fr w := S
                refine dv_nx trivial ?_
                refine dv_fin ok4 ?_
                replace F := F.sub (e' := [(9, .i6 x24), (8, .bool x5), (7, .bool x6), (6, v2), (5, v3), (4, bp b3 0), (3, bp b2 0), (2, bp b1 0), (0, .string s_)]) ⟨rfl, rfl, rfl, rfl, rfl, rfl, rfl, rfl, rfl, trivial⟩
                refine inb_n ?_
                refine then_n ?_
                replace S : St g16 [ca5, cr3, c22, c21, c19, c3, [bx b3 #[v22] 24], [bx b2 #[.i6 0, .i6 0] 26], [bx b1 #[nilS] 24], c20] fr w := ((((((((((S.frontC 9 rfl).frontC 9 rfl).frontC 9 rfl).frontC 9 rfl).frontC 9 rfl).frontC 9 rfl).frontC 6 rfl).frontC 10 rfl).frontC 10 rfl).frontC 10 rfl)
                obtain ⟨y31, hy31, hm⟩ := bind_some hm
                have h28 := HoleN.shut hH5 (orep_list_mk h27); replace h28 : OwnN g16 y31 v2 (ca5 ++ (cr3 ++ c22)) := sinj hy31 ▸ h28
                replace S : St g16 [(ca5 ++ (cr3 ++ c22)), c21, c19, c3, [bx b3 #[v22] 24], [bx b2 #[.i6 0, .i6 0] 26], [bx b1 #[nilS] 24], c20] fr w := S.of_eq (by simp only [fl, List.append_assoc, List.append_nil, List.nil_append])
                generalize (ca5 ++ (cr3 ++ c22)) = c23 at S h28
                replace S : St g16 [c23, c3, [bx b3 #[v22] 24], [bx b2 #[.i6 0, .i6 0] 26], [bx b1 #[nilS] 24], c20] fr w := St.tail [c23, c3, [bx b3 #[v22] 24], [bx b2 #[.i6 0, .i6 0] 26], [bx b1 #[nilS] 24], c20] _ ((((((S.frontC 7 rfl).frontC 7 rfl).frontC 7 rfl).frontC 7 rfl).frontC 7 rfl).frontC 5 rfl)
                exact ⟨x6, y31, x8, x24, x5, y28, v2, v3, v22, c23, c3, c20, g16, F.sub ⟨rfl, rfl, rfl, rfl, rfl, rfl, rfl, rfl, rfl, trivial⟩, (l7.trans l16), S, h28, (h3.mono (l7.trans l16)), h24, hm⟩
    ·clear F S hm; rintro a w ⟨x11, x12, x13, x14, x15, x16, v5, v6, v7, c5, c6, c7, g6, F, l6, S, h5, h6, h7, hm⟩
     refine then_n ?_
     obtain rfl := sinj hm
     refine ⟨_, rfl, ?_⟩
     dsimp only
     exact ⟨v5, v6, v7, c5, c6, c7, g6, F.sub ⟨rfl, rfl, rfl, rfl, rfl, rfl, rfl, rfl, rfl, trivial⟩, (l5.trans l6), S, h5, h6, h7⟩
  ·clear F S hm; rintro a w ⟨x1, x2, x3, v1, c1, g2, F, l2, S, h1, hm⟩
   refine wp_seq ?_
   refine wp_seq ?_
   refine wp_region_lit ?_
   refine wE (ev_move rfl) F S rfl fun a F=>?_
   refine wE (ev_not rfl) F S rfl fun a F=>?_
   refine wpList_nil ?_
   refine then_n ?_
   obtain ⟨hc2, hm⟩ | ⟨hc2, hm⟩ := ite_or hm
   ·refine wp_condT F rfl hc2 ?_
    refine wp_seq ?_
    refine wp_region_lit ?_
    refine wE (ev_build (parts := []) (vs := []) rfl (fun w => tb24_  w)) F S rfl fun a F=>?_
    refine wE (ev_move rfl) F S rfl fun a F=>?_
    obtain ⟨y2, hy2, hm⟩ := bind_some hm
    refine wl_call0 (wn rfl) rfl F rfl (changeforgeref1_At_ok (fr := (fl [[bx b3 #[v1] 24], [bx b2 #[.i6 0, .i6 0] 26], [bx b1 #[nilS] 24], c1] fr)) 1 x1 S hy2) rfl tc23 rfl rfl ?_; clear F a S
    rintro _ a w ⟨g3, l3, S, rfl⟩ F; replace S : St g3 [[bx b3 #[v1] 24], [bx b2 #[.i6 0, .i6 0] 26], [bx b1 #[nilS] 24], c1] fr w := S
    refine wl_storeC (wn rfl) rfl F S rfl rfl (vs := [nilS]) rfl ts24 (one_cons rfl one_nil) (k := 2) rfl (lb rfl) (c' := #[nilS]) rfl rfl ?_; clear S; intro w S
    refine wl_storeC (wn rfl) rfl F S rfl rfl (vs := [.i6 y2.Code, .i6 y2.Index]) rfl ts26 (one_cons rfl (one_cons rfl one_nil)) (k := 1) rfl (lb rfl) (c' := #[.i6 y2.Code, .i6 y2.Index]) rfl rfl ?_; clear S; intro w S
    refine wpList_nil ?_
    refine then_n ?_
    refine wp_ret ?_
    refine then_r ?_
    obtain rfl := sinj hm
    replace S : St g3 [[], [bx b3 #[v1] 24], [bx b2 #[.i6 y2.Code, .i6 y2.Index] 26], [bx b1 #[nilS] 24], c1] fr w := S
    refine post_r _ F rfl (ar_cons (resA rfl tu24 rfl (box_ptr (cells := [nilS]) 3 rfl 0 rfl (lb rfl) w S) ts24) (ar_cons (resA rfl tu26 rfl (box_ptr (cells := [.i6 y2.Code, .i6 y2.Index]) 2 rfl 0 rfl (lb rfl) w S) ts26) ar_nil)) ?_
    replace S : St g3 [[]] fr w := St.tail [[]] _ (S.frontC 0 rfl)
    exact ⟨_, rfl, g3, (nilS), [], (l2.trans l3), S, (OwnS.nil _), rfl⟩
   ·refine wp_condF F rfl hc2 ?_
    refine wp_skip ?_
    refine then_n ?_
    refine wp_seq ?_
    refine wp_seq ?_
    refine wp_region_lit ?_
    refine wE (ev_fieldAddr' tu24 tf24_0 (z := 0) ts22 rfl ⟨_, rfl⟩ rfl) F S rfl fun a F=>?_
    refine wE (ev_load1 tu22 rfl rfl (box_ptr (cells := [v1]) 0 rfl 0 rfl (lb rfl))) F S rfl fun a F=>?_
    refine wE (ev_lenOw h1 rfl tu22) F S rfl fun a F=>?_
    refine wE (ev_int rfl rfl (bo_gtr _ _ _ _)) F S rfl fun a F=>?_
    refine wpList_nil ?_
    refine then_n ?_
    obtain ⟨hc3, hm⟩ | ⟨hc3, hm⟩ := ite_or hm
    ·refine wp_condT F rfl hc3 ?_
     refine wp_seq ?_
     refine wp_region_lit ?_
     refine wE (ev_build (parts := []) (vs := []) rfl (fun w => tb24_  w)) F S rfl fun a F=>?_
     obtain ⟨y3, hy3, hm⟩ := bind_some hm
     refine wl_call0 (wn rfl) rfl F rfl (changeforgeref1_At_ok (fr := (fl [[bx b3 #[v1] 24], [bx b2 #[.i6 0, .i6 0] 26], [bx b1 #[nilS] 24], c1] fr)) 10 (-1) S hy3) rfl tc23 rfl rfl ?_; clear F a S
     rintro _ a w ⟨g4, l4, S, rfl⟩ F; replace S : St g4 [[bx b3 #[v1] 24], [bx b2 #[.i6 0, .i6 0] 26], [bx b1 #[nilS] 24], c1] fr w := S
     refine wl_storeC (wn rfl) rfl F S rfl rfl (vs := [nilS]) rfl ts24 (one_cons rfl one_nil) (k := 2) rfl (lb rfl) (c' := #[nilS]) rfl rfl ?_; clear S; intro w S
     refine wl_storeC (wn rfl) rfl F S rfl rfl (vs := [.i6 y3.Code, .i6 y3.Index]) rfl ts26 (one_cons rfl (one_cons rfl one_nil)) (k := 1) rfl (lb rfl) (c' := #[.i6 y3.Code, .i6 y3.Index]) rfl rfl ?_; clear S; intro w S
     refine wpList_nil ?_
     refine then_n ?_
     refine wp_ret ?_
     refine then_r ?_
     obtain rfl := sinj hm
     replace S : St g4 [[], [bx b3 #[v1] 24], [bx b2 #[.i6 y3.Code, .i6 y3.Index] 26], [bx b1 #[nilS] 24], c1] fr w := S
     refine post_r _ F rfl (ar_cons (resA rfl tu24 rfl (box_ptr (cells := [nilS]) 3 rfl 0 rfl (lb rfl) w S) ts24) (ar_cons (resA rfl tu26 rfl (box_ptr (cells := [.i6 y3.Code, .i6 y3.Index]) 2 rfl 0 rfl (lb rfl) w S) ts26) ar_nil)) ?_
     replace S : St g4 [[]] fr w := St.tail [[]] _ (S.frontC 0 rfl)
     exact ⟨_, rfl, g4, (nilS), [], (l2.trans l4), S, (OwnS.nil _), rfl⟩
    ·refine wp_condF F rfl hc3 ?_
     refine wp_skip ?_
     refine then_n ?_
     refine wp_seq ?_
     refine wp_region_lit ?_
     refine wE (ev_loadA tu24 rfl (cs := [v1]) ts24 rfl (box_ptr (cells := [v1]) 0 rfl 0 rfl (lb rfl))) F S rfl fun a F=>?_
     refine wE (ev_build (parts := []) (vs := []) rfl (fun w => tb26_  w)) F S rfl fun a F=>?_
     refine wl_storeC (wn rfl) rfl F S rfl rfl (vs := [v1]) rfl ts24 (one_cons (OwnS.one h1) one_nil) (k := 2) rfl (lb rfl) (c' := #[v1]) rfl rfl ?_; clear S; intro w S
     refine wl_storeC (wn rfl) rfl F S rfl rfl (vs := [.i6 0, .i6 0]) rfl ts26 (one_cons rfl (one_cons rfl one_nil)) (k := 1) rfl (lb rfl) (c' := #[.i6 0, .i6 0]) rfl rfl ?_; clear S; intro w S
     refine wpList_nil ?_
     refine then_n ?_
     refine wp_ret ?_
     obtain rfl := sinj hm
     refine post_r _ F rfl (ar_cons (resA rfl tu24 rfl (box_ptr (cells := [v1]) 2 rfl 0 rfl (lb rfl) w S) ts24) (ar_cons (resA rfl tu26 rfl (box_ptr (cells := [.i6 0, .i6 0]) 1 rfl 0 rfl (lb rfl) w S) ts26) ar_nil)) ?_
     replace S : St g2 [c1] fr w := St.tail [c1] _ (S.frontC 3 rfl)
     exact ⟨_, rfl, g2, v1, c1, l2, S, h1, rfl⟩

theorem changeforgelaw2_SyntaxMatchesSpec_ok {g : Gh} {fr : Hl} {w : World} {r : Bool} (t_ : SyntaxTree) (vt_1 : Value) (ht_1 : RepSl g t_.Nodes vt_1) (text : ByteArray) (S : St g [] fr w) (hm : changeforgelaw2_SyntaxMatchesSpec t_ text = some r) :
  Calls Try.prog 3 [.agg #[vt_1], .string text].toArray w (fun en w' => ∃ v, en = .returned v ∧ ∃ (g' : Gh), Le g g' ∧ St g' [] fr w' ∧ .bool r = v) := by
 unfold changeforgelaw2_SyntaxMatchesSpec at hm
 refine calls_enter (fn := Try.f3) Try.func3 rfl Try.ntmps3 (lb rfl) ?_
 intro a F
 replace F : Fr 68 a [(0, .agg #[vt_1]), (1, .string text)] := F
 refine wp_seq ?_
 refine wp_region_lit ?_
 refine wl_boxC (wn rfl) rfl rfl rfl F S rfl rfl ?_; clear F a S; rintro b1 a w F S
 refine wE (ev_assign rfl) F S rfl fun a F=>?_
 refine wpList_nil ?_
 refine then_n ?_
 refine wp_seq ?_
 refine wp_region_lit ?_
 refine wE (ev_move rfl) F S rfl fun a F=>?_
 obtain ⟨y1, hy1, hm⟩ := bind_some hm
 refine wl_call0 (wn rfl) rfl F rfl (syntax_Parse_ok (fr := (fl [[bx b1 #[vt_1] 24]] fr)) text S hy1) rfl tc10 rfl rfl ?_; clear F a S
 rintro _ a w ⟨g1, v1, c1, l1, S, h1, rfl⟩ F; replace S : St g1 [c1, [bx b1 #[vt_1] 24]] fr w := S
 refine wE (ev_move rfl) F S rfl fun a F=>?_
 refine wE (ev_extract rfl rfl) F S rfl fun a F=>?_
 refine wE (ev_extract rfl rfl) F S rfl fun a F=>?_
 refine wl_alloc (wn rfl) rfl tz24 (cs := [nilS]) rfl F S rfl rfl ?_; clear F a S; rintro b2 a w F S
 refine wl_alloc (wn rfl) rfl tz26 (cs := [.i6 0, .i6 0]) rfl F S rfl rfl ?_; clear F a S; rintro b3 a w F S
 refine wl_storeC (wn rfl) rfl F S rfl rfl (vs := [v1]) rfl ts24 (one_cons (OwnS.one h1) one_nil) (k := 1) rfl (lb rfl) (c' := #[v1]) rfl rfl ?_; clear S; intro w S
 refine wl_storeC (wn rfl) rfl F S rfl rfl (vs := [.i6 y1.2.Code, .i6 y1.2.Index]) rfl ts26 (one_cons rfl (one_cons rfl one_nil)) (k := 0) rfl (lb rfl) (c' := #[.i6 y1.2.Code, .i6 y1.2.Index]) rfl rfl ?_; clear S; intro w S
 refine wpList_nil ?_
 refine then_n ?_
 refine wp_seq ?_
 refine wp_region_lit ?_
 refine wE (ev_move rfl) F S rfl fun a F=>?_
 obtain ⟨y2, hy2, hm⟩ := bind_some hm
 refine wl_call0 (wn rfl) rfl F rfl (changeforgeref2_Parsed_ok (fr := (fl [[bx b3 #[.i6 y1.2.Code, .i6 y1.2.Index] 26], [bx b2 #[v1] 24], c1, [bx b1 #[vt_1] 24]] fr)) text S hy2) rfl tc11 rfl rfl ?_; clear F a S
 rintro _ a w ⟨g2, v2, c2, l2, S, h2, rfl⟩ F; replace S : St g2 [c2, [bx b3 #[.i6 y1.2.Code, .i6 y1.2.Index] 26], [bx b2 #[v1] 24], c1, [bx b1 #[vt_1] 24]] fr w := S
 refine wE (ev_move rfl) F S rfl fun a F=>?_
 refine wE (ev_extract rfl rfl) F S rfl fun a F=>?_
 refine wE (ev_extract rfl rfl) F S rfl fun a F=>?_
 refine wl_alloc (wn rfl) rfl tz24 (cs := [nilS]) rfl F S rfl rfl ?_; clear F a S; rintro b4 a w F S
 refine wl_alloc (wn rfl) rfl tz26 (cs := [.i6 0, .i6 0]) rfl F S rfl rfl ?_; clear F a S; rintro b5 a w F S
 refine wl_storeC (wn rfl) rfl F S rfl rfl (vs := [v2]) rfl ts24 (one_cons (OwnS.one h2) one_nil) (k := 1) rfl (lb rfl) (c' := #[v2]) rfl rfl ?_; clear S; intro w S
 refine wl_storeC (wn rfl) rfl F S rfl rfl (vs := [.i6 y2.2.Code, .i6 y2.2.Index]) rfl ts26 (one_cons rfl (one_cons rfl one_nil)) (k := 0) rfl (lb rfl) (c' := #[.i6 y2.2.Code, .i6 y2.2.Index]) rfl rfl ?_; clear S; intro w S
 refine wpList_nil ?_
 refine then_n ?_
 refine wp_seq ?_
 refine wp_region_lit ?_
 refine wE (ev_loadA tu24 rfl (cs := [vt_1]) ts24 rfl (box_ptr (cells := [vt_1]) 6 rfl 0 rfl (lb rfl))) F S rfl fun a F=>?_
 obtain ⟨y3, hy3, hm⟩ := bind_some hm
 refine wl_call0 (wn rfl) rfl F rfl (syntax_Print_ok (fr := (fl [[bx b5 #[.i6 y2.2.Code, .i6 y2.2.Index] 26], [bx b4 #[v2] 24], c2, [bx b3 #[.i6 y1.2.Code, .i6 y1.2.Index] 26], [bx b2 #[v1] 24], c1, [bx b1 #[vt_1] 24]] fr)) t_ vt_1 (ht_1.mono (l1.trans l2)) S hy3) rfl tc12 rfl rfl ?_; clear F a S
 rintro _ a w ⟨g3, l3, S, rfl⟩ F; replace S : St g3 [[bx b5 #[.i6 y2.2.Code, .i6 y2.2.Index] 26], [bx b4 #[v2] 24], c2, [bx b3 #[.i6 y1.2.Code, .i6 y1.2.Index] 26], [bx b2 #[v1] 24], c1, [bx b1 #[vt_1] 24]] fr w := S
 refine wE (ev_move rfl) F S rfl fun a F=>?_
 refine wE (ev_extract rfl rfl) F S rfl fun a F=>?_
 refine wE (ev_extract rfl rfl) F S rfl fun a F=>?_
 refine wl_alloc (wn rfl) rfl tz26 (cs := [.i6 0, .i6 0]) rfl F S rfl rfl ?_; clear F a S; rintro b6 a w F S
 refine wE (ev_assign rfl) F S rfl fun a F=>?_
 refine wl_storeC (wn rfl) rfl F S rfl rfl (vs := [.i6 y3.2.Code, .i6 y3.2.Index]) rfl ts26 (one_cons rfl (one_cons rfl one_nil)) (k := 0) rfl (lb rfl) (c' := #[.i6 y3.2.Code, .i6 y3.2.Index]) rfl rfl ?_; clear S; intro w S
 refine wpList_nil ?_
 refine then_n ?_
 refine wp_seq ?_
 refine wp_region_lit ?_
 refine wE (ev_loadA tu24 rfl (cs := [vt_1]) ts24 rfl (box_ptr (cells := [vt_1]) 7 rfl 0 rfl (lb rfl))) F S rfl fun a F=>?_
 obtain ⟨y4, hy4, hm⟩ := bind_some hm
 refine wl_call0 (wn rfl) rfl F rfl (changeforgeref2_SyntaxFault_ok (fr := (fl [[bx b6 #[.i6 y3.2.Code, .i6 y3.2.Index] 26], [bx b5 #[.i6 y2.2.Code, .i6 y2.2.Index] 26], [bx b4 #[v2] 24], c2, [bx b3 #[.i6 y1.2.Code, .i6 y1.2.Index] 26], [bx b2 #[v1] 24], c1, [bx b1 #[vt_1] 24]] fr)) t_ vt_1 (ht_1.mono ((l1.trans l2).trans l3)) S hy4) rfl tc13 rfl rfl ?_; clear F a S
 rintro _ a w ⟨g4, l4, S, rfl⟩ F; replace S : St g4 [[bx b6 #[.i6 y3.2.Code, .i6 y3.2.Index] 26], [bx b5 #[.i6 y2.2.Code, .i6 y2.2.Index] 26], [bx b4 #[v2] 24], c2, [bx b3 #[.i6 y1.2.Code, .i6 y1.2.Index] 26], [bx b2 #[v1] 24], c1, [bx b1 #[vt_1] 24]] fr w := S
 refine wl_alloc (wn rfl) rfl tz26 (cs := [.i6 0, .i6 0]) rfl F S rfl rfl ?_; clear F a S; rintro b7 a w F S
 refine wl_storeC (wn rfl) rfl F S rfl rfl (vs := [.i6 y4.Code, .i6 y4.Index]) rfl ts26 (one_cons rfl (one_cons rfl one_nil)) (k := 0) rfl (lb rfl) (c' := #[.i6 y4.Code, .i6 y4.Index]) rfl rfl ?_; clear S; intro w S
 refine wpList_nil ?_
 refine then_n ?_
 refine wp_seq ?_
 refine wp_seq ?_
 obtain ⟨g5, l5, S, h3⟩ : ∃ gz, Le g4 gz ∧ St gz [[bx b7 #[.i6 y4.Code, .i6 y4.Index] 26], [bx b6 #[.i6 y3.2.Code, .i6 y3.2.Index] 26], [bx b5 #[.i6 y2.2.Code, .i6 y2.2.Index] 26], [bx b4 #[v2] 24], c2, [bx b3 #[.i6 y1.2.Code, .i6 y1.2.Index] 26], [bx b2 #[v1] 24], [bx b1 #[vt_1] 24]] fr w ∧ RepSl gz y1.1.Nodes v1 := ⟨_, Le.add _ _, S.freeze 7 rfl, OwnS.freeze (S.front 7 rfl) (h1.mono ((l2.trans l3).trans l4))⟩
 obtain ⟨g6, l6, S, h4⟩ : ∃ gz, Le g5 gz ∧ St gz [[bx b7 #[.i6 y4.Code, .i6 y4.Index] 26], [bx b6 #[.i6 y3.2.Code, .i6 y3.2.Index] 26], [bx b5 #[.i6 y2.2.Code, .i6 y2.2.Index] 26], [bx b4 #[v2] 24], [bx b3 #[.i6 y1.2.Code, .i6 y1.2.Index] 26], [bx b2 #[v1] 24], [bx b1 #[vt_1] 24]] fr w ∧ RepSl gz y2.1.Nodes v2 := ⟨_, Le.add _ _, S.freeze 4 rfl, OwnS.freeze (S.front 4 rfl) (h2.mono ((l3.trans l4).trans l5))⟩
 refine wp_quiet mo (by kernel_rfl) S ?_
 refine wq_ev (wn rfl) (ev_loadA tu24 rfl (cs := [vt_1]) ts24 rfl (box_ptr (cells := [vt_1]) 6 rfl 0 rfl (lb rfl))) F rfl rfl ?_; clear F a; intro a F
 obtain ⟨y5, hy5, hm⟩ := bind_some hm
 refine wq_call (wn rfl) rfl (xs := [.tmp 29]) (vs := [.agg #[vt_1]]) (cap := []) F rfl rfl tc14 (v := .agg #[.i6 y5.Code, .i6 y5.Index]) (fun w S => (syntax_Validate_ok (g := g6) (fr := (fl [[bx b7 #[.i6 y4.Code, .i6 y4.Index] 26], [bx b6 #[.i6 y3.2.Code, .i6 y3.2.Index] 26], [bx b5 #[.i6 y2.2.Code, .i6 y2.2.Index] 26], [bx b4 #[v2] 24], [bx b3 #[.i6 y1.2.Code, .i6 y1.2.Index] 26], [bx b2 #[v1] 24], [bx b1 #[vt_1] 24]] fr)) (w := w) t_ vt_1 (ht_1.mono (((((l1.trans l2).trans l3).trans l4).trans l5).trans l6)) S hy5).mono (by rintro en w' ⟨_, rfl, g2, l2, S2, rfl⟩; exact ⟨rfl, S2.weak l2⟩)) rfl rfl ?_; clear F a; intro a F
 refine wq_ev (wn rfl) (ev_loadA tu26 rfl (cs := [.i6 y4.Code, .i6 y4.Index]) ts26 rfl (box_ptr (cells := [.i6 y4.Code, .i6 y4.Index]) 0 rfl 0 rfl (lb rfl))) F rfl rfl ?_; clear F a; intro a F
 refine wq_ev (wn rfl) (ev_neS tu26 tqa26 tqb26 tqc26 (xs := [.i6 y5.Code, .i6 y5.Index]) (ys := [.i6 y4.Code, .i6 y4.Index]) rfl rfl ⟨_, _, rfl, by decide, ⟨_, _, rfl, rfl, leaf_int tu3⟩, ⟨_, _, rfl, by decide, ⟨_, _, rfl, rfl, leaf_int tu3⟩, rfl⟩⟩) F rfl rfl ?_; clear F a; intro a F
 refine wq_ev (wn rfl) (ev_move rfl) F rfl rfl ?_; clear F a; intro a F
 obtain ⟨x1, hx1, hm⟩ := bind_some hm
 refine wq_cut 4 (fun a => Fr 68 a [(37, .bool x1), (11, bp b7 0), (9, .string y3.1), (8, bp b5 0), (7, bp b4 0), (6, bp b3 0), (5, bp b2 0), (2, bp b1 0)]) ?_ ?_
 ·clear hm; obtain ⟨hc1, hm⟩ | ⟨hc1, hm⟩ := ite_or hx1
  ·refine wq_skip rfl rfl rfl rfl (ne_ft hc1) F rfl rfl ?_; clear F a; intro a F
   refine wq_skip rfl rfl rfl rfl (ne_ft hc1) F rfl rfl ?_; clear F a; intro a F
   refine wq_skip rfl rfl rfl rfl (ne_ft hc1) F rfl rfl ?_; clear F a; intro a F
   refine wq_ev (wn rfl) (ev_pickT rfl hc1 rfl) F rfl rfl ?_; clear F a; intro a F
   obtain rfl := sinj hm
   refine wq_nil ?_; exact F.sub ⟨rfl, rfl, rfl, rfl, rfl, rfl, rfl, rfl, trivial⟩
  ·refine wq_ev (wg F rfl rfl rfl rfl hc1) (ev_loadA tu26 rfl (cs := [.i6 y3.2.Code, .i6 y3.2.Index]) ts26 rfl (box_ptr (cells := [.i6 y3.2.Code, .i6 y3.2.Index]) 1 rfl 0 rfl (lb rfl))) F rfl rfl ?_; clear F a; intro a F
   refine wq_ev (wg F rfl rfl rfl rfl hc1) (ev_loadA tu26 rfl (cs := [.i6 y4.Code, .i6 y4.Index]) ts26 rfl (box_ptr (cells := [.i6 y4.Code, .i6 y4.Index]) 0 rfl 0 rfl (lb rfl))) F rfl rfl ?_; clear F a; intro a F
   refine wq_ev (wg F rfl rfl rfl rfl hc1) (ev_neS tu26 tqa26 tqb26 tqc26 (xs := [.i6 y3.2.Code, .i6 y3.2.Index]) (ys := [.i6 y4.Code, .i6 y4.Index]) rfl rfl ⟨_, _, rfl, by decide, ⟨_, _, rfl, rfl, leaf_int tu3⟩, ⟨_, _, rfl, by decide, ⟨_, _, rfl, rfl, leaf_int tu3⟩, rfl⟩⟩) F rfl rfl ?_; clear F a; intro a F
   refine wq_ev (wn rfl) (ev_pickF rfl hc1 rfl) F rfl rfl ?_; clear F a; intro a F
   obtain rfl := sinj hm
   refine wq_nil ?_; exact F.sub ⟨rfl, rfl, rfl, rfl, rfl, rfl, rfl, rfl, trivial⟩
 clear F; intro a F
 refine wq_ev (wn rfl) (ev_move rfl) F rfl rfl ?_; clear F a; intro a F
 obtain ⟨x2, hx2, hm⟩ := bind_some hm
 refine wq_cut 5 (fun a => Fr 68 a [(43, .bool x2), (11, bp b7 0), (9, .string y3.1), (8, bp b5 0), (6, bp b3 0), (2, bp b1 0)]) ?_ ?_
 ·clear hm; obtain ⟨hc2, hm⟩ | ⟨hc2, hm⟩ := ite_or hx2
  ·refine wq_skip rfl rfl rfl rfl (ne_ft hc2) F rfl rfl ?_; clear F a; intro a F
   refine wq_skip rfl rfl rfl rfl (ne_ft hc2) F rfl rfl ?_; clear F a; intro a F
   refine wq_skip rfl rfl rfl rfl (ne_ft hc2) F rfl rfl ?_; clear F a; intro a F
   refine wq_skip rfl rfl rfl rfl (ne_ft hc2) F rfl rfl ?_; clear F a; intro a F
   refine wq_ev (wn rfl) (ev_pickT rfl hc2 rfl) F rfl rfl ?_; clear F a; intro a F
   obtain rfl := sinj hm
   refine wq_nil ?_; exact F.sub ⟨rfl, rfl, rfl, rfl, rfl, rfl, trivial⟩
  ·refine wq_ev (wg F rfl rfl rfl rfl hc2) (ev_loadA tu24 rfl (cs := [v1]) ts24 rfl (box_ptr (cells := [v1]) 5 rfl 0 rfl (lb rfl))) F rfl rfl ?_; clear F a; intro a F
   refine wq_ev (wg F rfl rfl rfl rfl hc2) (ev_loadA tu24 rfl (cs := [v2]) ts24 rfl (box_ptr (cells := [v2]) 3 rfl 0 rfl (lb rfl))) F rfl rfl ?_; clear F a; intro a F
   obtain ⟨y6, hy6, hm⟩ := bind_some hm
   refine wq_call (wg F rfl rfl rfl rfl hc2) rfl (xs := [.tmp 39, .tmp 40]) (vs := [.agg #[v1], .agg #[v2]]) (cap := []) F rfl rfl tc15 (v := .bool y6) (fun w S => (changeforgeequal_Syntax_ok (g := g6) (fr := (fl [[bx b7 #[.i6 y4.Code, .i6 y4.Index] 26], [bx b6 #[.i6 y3.2.Code, .i6 y3.2.Index] 26], [bx b5 #[.i6 y2.2.Code, .i6 y2.2.Index] 26], [bx b4 #[v2] 24], [bx b3 #[.i6 y1.2.Code, .i6 y1.2.Index] 26], [bx b2 #[v1] 24], [bx b1 #[vt_1] 24]] fr)) (w := w) y1.1 v1 (h3.mono l6) y2.1 v2 h4 S hy6).mono (by rintro en w' ⟨_, rfl, g2, l2, S2, rfl⟩; exact ⟨rfl, S2.weak l2⟩)) rfl rfl ?_; clear F a; intro a F
   refine wq_ev (wg F rfl rfl rfl rfl hc2) (ev_not rfl) F rfl rfl ?_; clear F a; intro a F
   refine wq_ev (wn rfl) (ev_pickF rfl hc2 rfl) F rfl rfl ?_; clear F a; intro a F
   obtain rfl := sinj hm
   refine wq_nil ?_; exact F.sub ⟨rfl, rfl, rfl, rfl, rfl, rfl, trivial⟩
 clear F; intro a F
 refine wq_ev (wn rfl) (ev_move rfl) F rfl rfl ?_; clear F a; intro a F
 obtain ⟨x3, hx3, hm⟩ := bind_some hm
 refine wq_cut 4 (fun a => Fr 68 a [(48, .bool x3), (11, bp b7 0), (9, .string y3.1), (2, bp b1 0)]) ?_ ?_
 ·clear hm; obtain ⟨hc3, hm⟩ | ⟨hc3, hm⟩ := ite_or hx3
  ·refine wq_skip rfl rfl rfl rfl (ne_ft hc3) F rfl rfl ?_; clear F a; intro a F
   refine wq_skip rfl rfl rfl rfl (ne_ft hc3) F rfl rfl ?_; clear F a; intro a F
   refine wq_skip rfl rfl rfl rfl (ne_ft hc3) F rfl rfl ?_; clear F a; intro a F
   refine wq_ev (wn rfl) (ev_pickT rfl hc3 rfl) F rfl rfl ?_; clear F a; intro a F
   obtain rfl := sinj hm
   refine wq_nil ?_; exact F.sub ⟨rfl, rfl, rfl, rfl, trivial⟩
  ·refine wq_ev (wg F rfl rfl rfl rfl hc3) (ev_loadA tu26 rfl (cs := [.i6 y1.2.Code, .i6 y1.2.Index]) ts26 rfl (box_ptr (cells := [.i6 y1.2.Code, .i6 y1.2.Index]) 4 rfl 0 rfl (lb rfl))) F rfl rfl ?_; clear F a; intro a F
   refine wq_ev (wg F rfl rfl rfl rfl hc3) (ev_loadA tu26 rfl (cs := [.i6 y2.2.Code, .i6 y2.2.Index]) ts26 rfl (box_ptr (cells := [.i6 y2.2.Code, .i6 y2.2.Index]) 2 rfl 0 rfl (lb rfl))) F rfl rfl ?_; clear F a; intro a F
   refine wq_ev (wg F rfl rfl rfl rfl hc3) (ev_neS tu26 tqa26 tqb26 tqc26 (xs := [.i6 y1.2.Code, .i6 y1.2.Index]) (ys := [.i6 y2.2.Code, .i6 y2.2.Index]) rfl rfl ⟨_, _, rfl, by decide, ⟨_, _, rfl, rfl, leaf_int tu3⟩, ⟨_, _, rfl, by decide, ⟨_, _, rfl, rfl, leaf_int tu3⟩, rfl⟩⟩) F rfl rfl ?_; clear F a; intro a F
   refine wq_ev (wn rfl) (ev_pickF rfl hc3 rfl) F rfl rfl ?_; clear F a; intro a F
   obtain rfl := sinj hm
   refine wq_nil ?_; exact F.sub ⟨rfl, rfl, rfl, rfl, trivial⟩
 clear F; intro a F
 refine wq_nil ?_; clear S; intro w S
 refine then_n ?_
 obtain ⟨hc4, hm⟩ | ⟨hc4, hm⟩ := ite_or hm
 ·refine wp_condT F rfl hc4 ?_
  refine wp_seq ?_
  refine wp_region_lit ?_
  refine wE (ev_assign rfl) F S rfl fun a F=>?_
  refine wpList_nil ?_
  refine then_n ?_
  refine wp_ret ?_
  refine then_r ?_
  obtain rfl := sinj hm
  refine post_r _ F rfl (ar_cons (resT rfl) ar_nil) ?_
  replace S : St g6 [] fr w := St.tail [] _ S
  exact ⟨_, rfl, g6, (((((l1.trans l2).trans l3).trans l4).trans l5).trans l6), S, rfl⟩
 ·refine wp_condF F rfl hc4 ?_
  refine wp_skip ?_
  refine then_n ?_
  refine wp_seq ?_
  refine wp_seq ?_
  refine wp_region_lit ?_
  refine wE (ev_fieldAddr' tu26 tf26_0 (z := 0) ts3 rfl ⟨_, rfl⟩ rfl) F S rfl fun a F=>?_
  refine wE (ev_load1 tu3 rfl rfl (box_ptr (cells := [.i6 y4.Code]) 0 rfl 0 rfl (lb rfl))) F S rfl fun a F=>?_
  refine wE (ev_int rfl rfl (bo_neq _ _ _ _)) F S rfl fun a F=>?_
  refine wpList_nil ?_
  refine then_n ?_
  obtain ⟨hc5, hm⟩ | ⟨hc5, hm⟩ := ite_or hm
  ·refine wp_condT F rfl hc5 ?_
   refine wp_seq ?_
   refine wp_region_lit ?_
   refine wE (ev_move rfl) F S rfl fun a F=>?_
   refine wE (ev_str rfl rfl (bs_eql _ _ _)) F S rfl fun a F=>?_
   refine wE (ev_move rfl) F S rfl fun a F=>?_
   obtain ⟨x4, hx4, hm⟩ := bind_some hm
   refine wl_cut 2 (fun a w => ∃ g9, Fr 68 a [(56, .bool x4)] ∧ Le g6 g9 ∧ St g9 [[bx b7 #[.i6 y4.Code, .i6 y4.Index] 26], [bx b6 #[.i6 y3.2.Code, .i6 y3.2.Index] 26], [bx b5 #[.i6 y2.2.Code, .i6 y2.2.Index] 26], [bx b4 #[v2] 24], [bx b3 #[.i6 y1.2.Code, .i6 y1.2.Index] 26], [bx b2 #[v1] 24], [bx b1 #[vt_1] 24]] fr w) ?_ ?_
   ·clear hm; obtain ⟨hc6, hm⟩ | ⟨hc6, hm⟩ := ite_or hx4
    ·obtain ⟨y7, hy7, hm⟩ := bind_some hm
     refine wl_call0 (wg F rfl rfl rfl rfl hc6) rfl F rfl (changeforgelaw2_parsed_ok (fr := (fl [[bx b7 #[.i6 y4.Code, .i6 y4.Index] 26], [bx b6 #[.i6 y3.2.Code, .i6 y3.2.Index] 26], [bx b5 #[.i6 y2.2.Code, .i6 y2.2.Index] 26], [bx b4 #[v2] 24], [bx b3 #[.i6 y1.2.Code, .i6 y1.2.Index] 26], [bx b2 #[v1] 24], [bx b1 #[vt_1] 24]] fr))  S hy7) rfl tc16 rfl rfl ?_; clear F a S
     rintro _ a w ⟨g10, l10, S, rfl⟩ F; replace S : St g10 [[bx b7 #[.i6 y4.Code, .i6 y4.Index] 26], [bx b6 #[.i6 y3.2.Code, .i6 y3.2.Index] 26], [bx b5 #[.i6 y2.2.Code, .i6 y2.2.Index] 26], [bx b4 #[v2] 24], [bx b3 #[.i6 y1.2.Code, .i6 y1.2.Index] 26], [bx b2 #[v1] 24], [bx b1 #[vt_1] 24]] fr w := S
     refine wE (ev_pickT rfl hc6 rfl) F S rfl fun a F=>?_
     obtain rfl := sinj hm
     refine wpList_nil (then_n ?_); exact ⟨g10, F.sub ⟨rfl, trivial⟩, l10, S⟩
    ·refine wl_skip rfl rfl rfl rfl (ne_tf hc6) F rfl rfl ?_; clear F a; intro a F
     refine wE (ev_pickF rfl hc6 rfl) F S rfl fun a F=>?_
     obtain rfl := sinj hm
     refine wpList_nil (then_n ?_); exact ⟨g6, F.sub ⟨rfl, trivial⟩, (Le.refl _), S⟩
   clear F S; rintro a w ⟨g9, F, l9, S⟩
   refine wE (ev_assign rfl) F S rfl fun a F=>?_
   refine wpList_nil ?_
   refine then_n ?_
   refine wp_ret ?_
   refine then_r ?_
   obtain rfl := sinj hm
   refine post_r _ F rfl (ar_cons (resT rfl) ar_nil) ?_
   replace S : St g9 [] fr w := St.tail [] _ S
   exact ⟨_, rfl, g9, ((((((l1.trans l2).trans l3).trans l4).trans l5).trans l6).trans l9), S, rfl⟩
  ·refine wp_condF F rfl hc5 ?_
   refine wp_skip ?_
   refine then_n ?_
   refine wp_seq ?_
   refine wp_region_lit ?_
   refine wE (ev_move rfl) F S rfl fun a F=>?_
   refine wE (ev_loadA tu24 rfl (cs := [vt_1]) ts24 rfl (box_ptr (cells := [vt_1]) 6 rfl 0 rfl (lb rfl))) F S rfl fun a F=>?_
   refine wE (ev_fieldAddr' tu24 tf24_0 (z := 0) ts22 rfl ⟨_, rfl⟩ rfl) F S rfl fun a F=>?_
   refine wE (ev_load1 tu22 rfl rfl (box_ptr (cells := [vt_1]) 6 rfl 0 rfl (lb rfl))) F S rfl fun a F=>?_
   refine wE (ev_lenSh ht_1 rfl tu22) F S rfl fun a F=>?_
   obtain ⟨z1, hz1, hm⟩ := bind_some hm
   refine wE (ev_int rfl rfl (bo_sub hz1)) F S rfl fun a F=>?_
   obtain ⟨y8, hy8, hm⟩ := bind_some hm
   refine wl_call0 (wn rfl) rfl F rfl (changeforgeref2_Printed_ok (fr := (fl [[bx b7 #[.i6 y4.Code, .i6 y4.Index] 26], [bx b6 #[.i6 y3.2.Code, .i6 y3.2.Index] 26], [bx b5 #[.i6 y2.2.Code, .i6 y2.2.Index] 26], [bx b4 #[v2] 24], [bx b3 #[.i6 y1.2.Code, .i6 y1.2.Index] 26], [bx b2 #[v1] 24], [bx b1 #[vt_1] 24]] fr)) t_ vt_1 (ht_1.mono (((((l1.trans l2).trans l3).trans l4).trans l5).trans l6)) z1 S hy8) rfl tc17 rfl rfl ?_; clear F a S
   rintro _ a w ⟨g11, l11, S, rfl⟩ F; replace S : St g11 [[bx b7 #[.i6 y4.Code, .i6 y4.Index] 26], [bx b6 #[.i6 y3.2.Code, .i6 y3.2.Index] 26], [bx b5 #[.i6 y2.2.Code, .i6 y2.2.Index] 26], [bx b4 #[v2] 24], [bx b3 #[.i6 y1.2.Code, .i6 y1.2.Index] 26], [bx b2 #[v1] 24], [bx b1 #[vt_1] 24]] fr w := S
   refine wE (ev_str rfl rfl (bs_eql _ _ _)) F S rfl fun a F=>?_
   refine wE (ev_move rfl) F S rfl fun a F=>?_
   obtain ⟨x5, hx5, hm⟩ := bind_some hm
   refine wl_cut 2 (fun a w => ∃ g12, Fr 68 a [(67, .bool x5)] ∧ Le g11 g12 ∧ St g12 [[bx b7 #[.i6 y4.Code, .i6 y4.Index] 26], [bx b6 #[.i6 y3.2.Code, .i6 y3.2.Index] 26], [bx b5 #[.i6 y2.2.Code, .i6 y2.2.Index] 26], [bx b4 #[v2] 24], [bx b3 #[.i6 y1.2.Code, .i6 y1.2.Index] 26], [bx b2 #[v1] 24], [bx b1 #[vt_1] 24]] fr w) ?_ ?_
   ·clear hm; obtain ⟨hc7, hm⟩ | ⟨hc7, hm⟩ := ite_or hx5
    ·obtain ⟨y9, hy9, hm⟩ := bind_some hm
     refine wl_call0 (wg F rfl rfl rfl rfl hc7) rfl F rfl (changeforgelaw2_parsed_ok (fr := (fl [[bx b7 #[.i6 y4.Code, .i6 y4.Index] 26], [bx b6 #[.i6 y3.2.Code, .i6 y3.2.Index] 26], [bx b5 #[.i6 y2.2.Code, .i6 y2.2.Index] 26], [bx b4 #[v2] 24], [bx b3 #[.i6 y1.2.Code, .i6 y1.2.Index] 26], [bx b2 #[v1] 24], [bx b1 #[vt_1] 24]] fr))  S hy9) rfl tc16 rfl rfl ?_; clear F a S
     rintro _ a w ⟨g13, l13, S, rfl⟩ F; replace S : St g13 [[bx b7 #[.i6 y4.Code, .i6 y4.Index] 26], [bx b6 #[.i6 y3.2.Code, .i6 y3.2.Index] 26], [bx b5 #[.i6 y2.2.Code, .i6 y2.2.Index] 26], [bx b4 #[v2] 24], [bx b3 #[.i6 y1.2.Code, .i6 y1.2.Index] 26], [bx b2 #[v1] 24], [bx b1 #[vt_1] 24]] fr w := S
     refine wE (ev_pickT rfl hc7 rfl) F S rfl fun a F=>?_
     obtain rfl := sinj hm
     refine wpList_nil (then_n ?_); exact ⟨g13, F.sub ⟨rfl, trivial⟩, l13, S⟩
    ·refine wl_skip rfl rfl rfl rfl (ne_tf hc7) F rfl rfl ?_; clear F a; intro a F
     refine wE (ev_pickF rfl hc7 rfl) F S rfl fun a F=>?_
     obtain rfl := sinj hm
     refine wpList_nil (then_n ?_); exact ⟨g11, F.sub ⟨rfl, trivial⟩, (Le.refl _), S⟩
   clear F S; rintro a w ⟨g12, F, l12, S⟩
   refine wE (ev_assign rfl) F S rfl fun a F=>?_
   refine wpList_nil ?_
   refine then_n ?_
   refine wp_ret ?_
   obtain rfl := sinj hm
   refine post_r _ F rfl (ar_cons (resT rfl) ar_nil) ?_
   replace S : St g12 [] fr w := St.tail [] _ S
   exact ⟨_, rfl, g12, (((((((l1.trans l2).trans l3).trans l4).trans l5).trans l6).trans l11).trans l12), S, rfl⟩
end Go.Dc
