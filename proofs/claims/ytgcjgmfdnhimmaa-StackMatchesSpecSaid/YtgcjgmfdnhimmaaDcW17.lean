/- Walks: each function comes to what its model says. -/
import Derived.Test.YtgcjgmfdnhimmaaDcTab
import Derived.Test.YtgcjgmfdnhimmaaDcM
import Derived.Test.YtgcjgmfdnhimmaaDcW13
import Derived.Test.YtgcjgmfdnhimmaaDcW5
namespace Go.Dc
open Go Go.Proofs
set_option maxRecDepth 100000
set_option maxHeartbeats 4000000
set_option linter.unusedVariables false
theorem changeforgeref1_Compose_ok {g : Gh} {fr : Hl} {w : World} {r : Patch × Fault} (p_ : Patch) (vp_1 : Value) (hp_1 : RepSl g p_.Hunks vp_1) (q_ : Patch) (vq_1 : Value) (hq_1 : RepSl g q_.Hunks vq_1) (S : St g [] fr w) (hm : changeforgeref1_Compose p_ q_ = some r) :
  Calls Try.prog 44 [.agg #[vp_1], .agg #[vq_1]].toArray w (fun en w' => ∃ v, en = .returned v ∧ ∃ (g' : Gh) (v1 : Value), Le g g' ∧ St g' [] fr w' ∧ RepSl g' r.1.Hunks v1 ∧ .tuple #[.agg #[v1], .agg #[.i6 r.2.Code, .i6 r.2.Index]] = v) := by
 unfold changeforgeref1_Compose at hm
 refine calls_enter (fn := Try.f44) Try.func44 rfl Try.ntmps44 (lb rfl) ?_
 intro a F
 replace F : Fr 246 a [(0, .agg #[vp_1]), (1, .agg #[vq_1])] := F
 refine wp_seq ?_
 refine wp_region_lit ?_
 refine wl_boxC (wn rfl) rfl rfl rfl F S rfl rfl ?_; clear F a S; rintro b1 a w F S
 refine wl_boxC (wn rfl) rfl rfl rfl F S rfl rfl ?_; clear F a S; rintro b2 a w F S
 refine wl_alloc (wn rfl) rfl tz38 (cs := [nilS]) rfl F S rfl rfl ?_; clear F a S; rintro b3 a w F S
 refine wl_alloc (wn rfl) rfl tz24 (cs := [.i6 0, .i6 0]) rfl F S rfl rfl ?_; clear F a S; rintro b4 a w F S
 refine wpList_nil ?_
 refine then_n ?_
 refine wp_seq ?_
 refine wp_seq ?_
 refine wp_region_lit ?_
 refine wE (ev_loadA tu38 rfl (cs := [vp_1]) ts38 rfl (box_ptr (cells := [vp_1]) 3 rfl 0 rfl (lb rfl))) F S rfl fun a F=>?_
 refine wE (ev_loadA tu38 rfl (cs := [vq_1]) ts38 rfl (box_ptr (cells := [vq_1]) 2 rfl 0 rfl (lb rfl))) F S rfl fun a F=>?_
 obtain ⟨y1, hy1, hm⟩ := bind_some hm
 refine wl_call0 (wn rfl) rfl F rfl (changeforgeref1_Pair_ok (fr := (fl [[bx b4 #[.i6 0, .i6 0] 24], [bx b3 #[nilS] 38], [bx b2 #[vq_1] 38], [bx b1 #[vp_1] 38]] fr)) p_ vp_1 hp_1 q_ vq_1 hq_1 S hy1) rfl tc60 rfl rfl ?_; clear F a S
 rintro _ a w ⟨g1, l1, S, rfl⟩ F; replace S : St g1 [[bx b4 #[.i6 0, .i6 0] 24], [bx b3 #[nilS] 38], [bx b2 #[vq_1] 38], [bx b1 #[vp_1] 38]] fr w := S
 refine wl_alloc (wn rfl) rfl tz24 (cs := [.i6 0, .i6 0]) rfl F S rfl rfl ?_; clear F a S; rintro b5 a w F S
 refine wl_storeC (wn rfl) rfl F S rfl rfl (vs := [.i6 y1.Code, .i6 y1.Index]) rfl ts24 (one_cons rfl (one_cons rfl one_nil)) (k := 0) rfl (lb rfl) (c' := #[.i6 y1.Code, .i6 y1.Index]) rfl rfl ?_; clear S; intro w S
 refine wpList_nil ?_
 refine then_n ?_
 refine wp_seq ?_
 refine wp_region_lit ?_
 refine wE (ev_fieldAddr' tu24 tf24_0 (z := 0) ts3 rfl ⟨_, rfl⟩ rfl) F S rfl fun a F=>?_
 refine wE (ev_load1 tu3 rfl rfl (box_ptr (cells := [.i6 y1.Code]) 0 rfl 0 rfl (lb rfl))) F S rfl fun a F=>?_
 refine wE (ev_int rfl rfl (bo_neq _ _ _ _)) F S rfl fun a F=>?_
 refine wpList_nil ?_
 refine then_n ?_
 obtain ⟨hc1, hm⟩ | ⟨hc1, hm⟩ := ite_or hm
 ·refine wp_condT F rfl hc1 ?_
  refine wp_seq ?_
  refine wp_dv [] mo S ?_; clear S; intro ok1 w S
  refine dv_et ok1 0 rfl (ev_build (parts := []) (vs := []) rfl (fun w => tb38_  w)) F rfl fun a F=>?_
  refine dv_ev ok1 1 rfl (ev_loadA tu24 rfl (cs := [.i6 y1.Code, .i6 y1.Index]) ts24 rfl (box_ptr (cells := [.i6 y1.Code, .i6 y1.Index]) 0 rfl 0 rfl (lb rfl))) F S rfl fun a F=>?_
  refine dv_op ok1 2 rfl [(1, .agg #[.i6 y1.Code, .i6 y1.Index])] ?_
  refine wl_storeC (wn rfl) rfl F S rfl rfl (vs := [nilS]) rfl ts38 (one_cons rfl one_nil) (k := 2) rfl (lb rfl) (c' := #[nilS]) rfl rfl ?_; clear S; intro w S
  refine dv_nx ⟨yl_ev rfl rfl (ev_loadA tu24 rfl (cs := [.i6 y1.Code, .i6 y1.Index]) ts24 rfl (box_ptr (cells := [.i6 y1.Code, .i6 y1.Index]) 0 rfl 0 rfl (lb rfl))) F S, trivial⟩ ?_
  refine dv_op ok1 3 rfl [] ?_
  refine wl_storeC (wn rfl) rfl F S rfl rfl (vs := [.i6 y1.Code, .i6 y1.Index]) rfl ts24 (one_cons rfl (one_cons rfl one_nil)) (k := 1) rfl (lb rfl) (c' := #[.i6 y1.Code, .i6 y1.Index]) rfl rfl ?_; clear S; intro w S
  refine dv_nx trivial ?_
  refine dv_fin ok1 ?_
  refine then_n ?_
  refine wp_ret ?_
  refine then_r ?_
  obtain rfl := sinj hm
  refine post_r _ F rfl (ar_cons (resA rfl tu38 rfl (box_ptr (cells := [nilS]) 2 rfl 0 rfl (lb rfl) w S) ts38) (ar_cons (resA rfl tu24 rfl (box_ptr (cells := [.i6 y1.Code, .i6 y1.Index]) 1 rfl 0 rfl (lb rfl) w S) ts24) ar_nil)) ?_
  replace S : St g1 [] fr w := St.tail [] _ S
  exact ⟨_, rfl, g1, (nilS), l1, S, (RepSl.nil _), rfl⟩
 ·refine wp_condF F rfl hc1 ?_
  refine wp_skip ?_
  refine then_n ?_
  refine wp_seq ?_
  refine wp_region_lit ?_
  obtain ⟨y2, hy2, hm⟩ := bind_some hm
  refine wl_make (wn rfl) rfl tu31 te9 (fun g => (show Rep.rep g ByteArray.empty _ from rfl)) rfl hy2 (by decide) F S rfl rfl ?_; clear F a S; rintro v1 c1 a w h1 F S
  refine wE (ev_assign rfl) F S rfl fun a F=>?_
  refine wpList_nil ?_
  refine then_n ?_
  refine wp_seq ?_
  refine wp_region_lit ?_
  refine wE (ev_assign rfl) F S rfl fun a F=>?_
  refine wpList_nil ?_
  refine then_n ?_
  refine wp_seq ?_
  refine wp_region_lit ?_
  refine wE (ev_assign rfl) F S rfl fun a F=>?_
  refine wpList_nil ?_
  refine then_n ?_
  refine wp_cut (fun a w => ∃ (x1 : List Item_changeforgeref1) (x2 : List ByteArray) (v2 v3 : Value) (c2 c3 : Hl) (g2 : Gh), Fr 246 a [(8, v2), (7, v3), (5, bp b4 0), (4, bp b3 0), (3, bp b2 0)] ∧ Le g1 g2 ∧ St g2 [c2, c3, [bx b4 #[.i6 0, .i6 0] 24], [bx b3 #[nilS] 38], [bx b2 #[vq_1] 38]] fr w ∧ OwnS g2 x1 v2 c2 ∧ OwnS g2 x2 v3 c3 ∧ changeforgeref1_Compose.j1 q_ x1 x2 = some r) ?_ ?_
  ·refine wp_seq ?_
   refine wp_region_lit ?_
   refine wE (ev_assign rfl) F S rfl fun a F=>?_
   refine wpList_nil ?_
   refine then_n ?_
   refine wp_block ?_
   obtain ⟨r5, hr20, hm⟩ := bind_some hm
   have hmo5 := hm; clear hm
   refine wp_iter (σ := Int × Int × (List Item_changeforgeref1) × (List ByteArray)) (ρ := (List Item_changeforgeref1) × (List ByteArray)) (m := fun s => changeforgeref1_Compose.l5 p_ s.1 s.2.1 s.2.2.1 s.2.2.2) (I := fun s a w => match s with | (x38, x39, x40, x41) => ∃ (v38 v39 : Value) (c30 c31 : Hl) (g22 : Gh), Fr 246 a [(10, .i6 x38), (9, .i6 x39), (8, v38), (7, v39), (5, bp b4 0), (4, bp b3 0), (3, bp b2 0), (2, bp b1 0)] ∧ Le g1 g22 ∧ St g22 [c30, c31, [bx b4 #[.i6 0, .i6 0] 24], [bx b3 #[nilS] 38], [bx b2 #[vq_1] 38], [bx b1 #[vp_1] 38]] fr w ∧ OwnS g22 x40 v38 c30 ∧ OwnS g22 x41 v39 c31) hr20 ?_ ?_
   ·dsimp only
    replace S : St g1 [[], c1, [bx b5 #[.i6 y1.Code, .i6 y1.Index] 24], [bx b4 #[.i6 0, .i6 0] 24], [bx b3 #[nilS] 38], [bx b2 #[vq_1] 38], [bx b1 #[vp_1] 38]] fr w := S
    replace S : St g1 [[], c1, [bx b4 #[.i6 0, .i6 0] 24], [bx b3 #[nilS] 38], [bx b2 #[vq_1] 38], [bx b1 #[vp_1] 38]] fr w := St.tail [[], c1, [bx b4 #[.i6 0, .i6 0] 24], [bx b3 #[nilS] 38], [bx b2 #[vq_1] 38], [bx b1 #[vp_1] 38]] _ ((((((S.frontC 6 rfl).frontC 6 rfl).frontC 6 rfl).frontC 6 rfl).frontC 5 rfl).frontC 5 rfl)
    exact ⟨(nilS), v1, [], c1, g1, F.sub ⟨rfl, rfl, rfl, rfl, rfl, rfl, rfl, rfl, trivial⟩, (Le.refl _), S, (OwnS.nil _), h1⟩
   ·clear F S; rintro ⟨x38, x39, x40, x41⟩ a w x42 ⟨v38, v39, c30, c31, g22, F, l22, S, h43, h44⟩ hx7 hfin5
    have hm : changeforgeref1_Compose.l5 p_ x38 x39 x40 x41 = some x42 := hx7; clear hx7
    unfold changeforgeref1_Compose.l5 at hm
    refine wp_seq ?_
    refine wp_seq ?_
    refine wp_region_lit ?_
    refine wE (ev_move rfl) F S rfl fun a F=>?_
    refine wE (ev_int rfl rfl (bo_lss _ _ _ _)) F S rfl fun a F=>?_
    refine wpList_nil ?_
    refine then_n ?_
    obtain ⟨hc12, hm⟩ | ⟨hc12, hm⟩ := ite_or hm
    ·refine wp_condT F rfl hc12 ?_
     refine wp_skip ?_
     refine then_n ?_
     refine wp_cut (fun a w => ∃ (x43 : List Item_changeforgeref1) (x44 : Int) (x45 : Int) (x46 : List ByteArray) (v40 v41 : Value) (c32 c33 : Hl) (g23 : Gh), Fr 246 a [(8, v40), (10, .i6 x44), (9, .i6 x45), (7, v41), (5, bp b4 0), (4, bp b3 0), (3, bp b2 0), (2, bp b1 0)] ∧ Le g22 g23 ∧ St g23 [c32, c33, [bx b4 #[.i6 0, .i6 0] 24], [bx b3 #[nilS] 38], [bx b2 #[vq_1] 38], [bx b1 #[vp_1] 38]] fr w ∧ OwnS g23 x43 v40 c32 ∧ OwnS g23 x46 v41 c33 ∧ changeforgeref1_Compose.j10 x43 x44 x45 x46 = some x42) ?_ ?_
     ·refine wp_block ?_
      refine wp_cut (fun a w => ∃ (x47 : Int) (x48 : Int) (x49 : List Item_changeforgeref1) (x50 : List ByteArray) (v42 v43 : Value) (c34 c35 : Hl) (g24 : Gh), Fr 246 a [(10, .i6 x47), (9, .i6 x48), (8, v42), (7, v43), (5, bp b4 0), (4, bp b3 0), (3, bp b2 0), (2, bp b1 0)] ∧ Le g22 g24 ∧ St g24 [c34, c35, [bx b4 #[.i6 0, .i6 0] 24], [bx b3 #[nilS] 38], [bx b2 #[vq_1] 38], [bx b1 #[vp_1] 38]] fr w ∧ OwnS g24 x49 v42 c34 ∧ OwnS g24 x50 v43 c35 ∧ changeforgeref1_Compose.j11 x47 x48 x49 x50 = some x42) ?_ ?_
      ·refine wp_seq ?_
       refine wp_region_lit ?_
       refine wE (ev_move rfl) F S rfl fun a F=>?_
       refine wE (ev_fieldAddr' tu38 tf38_0 (z := 0) ts36 rfl ⟨_, rfl⟩ rfl) F S rfl fun a F=>?_
       refine wE (ev_load1 tu36 rfl rfl (box_ptr (cells := [vp_1]) 5 rfl 0 rfl (lb rfl))) F S rfl fun a F=>?_
       refine wE (ev_lenSh hp_1 rfl tu36) F S rfl fun a F=>?_
       refine wE (ev_int rfl rfl (bo_lss _ _ _ _)) F S rfl fun a F=>?_
       refine wE (ev_move rfl) F S rfl fun a F=>?_
       obtain ⟨x51, hx8, hm⟩ := bind_some hm
       refine wl_cut 9 (fun a w' => w = w' ∧ Fr 246 a [(52, .bool x51), (10, .i6 x38), (9, .i6 x39), (8, v38), (7, v39), (5, bp b4 0), (4, bp b3 0), (3, bp b2 0), (2, bp b1 0)]) ?_ ?_
       ·clear hm; obtain ⟨hc13, hm⟩ | ⟨hc13, hm⟩ := ite_or hx8
        ·refine wl_ev (wg F rfl rfl rfl rfl hc13) (ev_fieldAddr' tu38 tf38_0 (z := 0) ts36 rfl ⟨_, rfl⟩ rfl) F S rfl rfl ?_; clear F a; intro a F
         refine wl_ev (wg F rfl rfl rfl rfl hc13) (ev_load1 tu36 rfl rfl (box_ptr (cells := [vp_1]) 5 rfl 0 rfl (lb rfl))) F S rfl rfl ?_; clear F a; intro a F
         refine wl_ev (wg F rfl rfl rfl rfl hc13) (ev_move rfl) F S rfl rfl ?_; clear F a; intro a F
         obtain ⟨y27, hy27, hm⟩ := bind_some hm
         obtain ⟨cs17, hr22, hp6⟩ := elemS (hp_1.mono (l1.trans l22)) hy27
         obtain ⟨v46, v47, rfl, h51, h52⟩ := rep_Hunk hr22
         refine wl_ev (wg F rfl rfl rfl rfl hc13) (ev_idxS (hp_1.mono (l1.trans l22)) hy27 tu36 ts60 rfl rfl) F S rfl rfl ?_; clear F a; intro a F
         have hp7 := PtrC.field hp6 0 1 (lb rfl)
         have hp7 : PtrC g22 (addP (elemP vp_1 x39 3) 0) [.i6 y27.At] := hp7
         refine wl_ev (wg F rfl rfl rfl rfl hc13) (ev_fieldAddr' tu60 tf60_0 (z := 0) ts3 rfl hp6.ptr rfl) F S rfl rfl ?_; clear F a; intro a F
         refine wl_ev (wg F rfl rfl rfl rfl hc13) (ev_load1 tu3 rfl rfl (ptr_mono (cks := [c30, c31, [bx b4 #[.i6 0, .i6 0] 24], [bx b3 #[nilS] 38], [bx b2 #[vq_1] 38], [bx b1 #[vp_1] 38]]) (fr := fr) hp7 (Le.refl _))) F S rfl rfl ?_; clear F a; intro a F
         refine wl_ev (wg F rfl rfl rfl rfl hc13) (ev_move rfl) F S rfl rfl ?_; clear F a; intro a F
         refine wl_ev (wg F rfl rfl rfl rfl hc13) (ev_int rfl rfl (bo_eql _ _ _ _)) F S rfl rfl ?_; clear F a; intro a F
         refine wE (ev_pickT rfl hc13 rfl) F S rfl fun a F=>?_
         obtain rfl := sinj hm
         refine wpList_nil (then_n ?_); exact ⟨rfl, F.sub ⟨rfl, rfl, rfl, rfl, rfl, rfl, rfl, rfl, rfl, trivial⟩⟩
        ·refine wl_skip rfl rfl rfl rfl (ne_tf hc13) F rfl rfl ?_; clear F a; intro a F
         refine wl_skip rfl rfl rfl rfl (ne_tf hc13) F rfl rfl ?_; clear F a; intro a F
         refine wl_skip rfl rfl rfl rfl (ne_tf hc13) F rfl rfl ?_; clear F a; intro a F
         refine wl_skip rfl rfl rfl rfl (ne_tf hc13) F rfl rfl ?_; clear F a; intro a F
         refine wl_skip rfl rfl rfl rfl (ne_tf hc13) F rfl rfl ?_; clear F a; intro a F
         refine wl_skip rfl rfl rfl rfl (ne_tf hc13) F rfl rfl ?_; clear F a; intro a F
         refine wl_skip rfl rfl rfl rfl (ne_tf hc13) F rfl rfl ?_; clear F a; intro a F
         refine wl_skip rfl rfl rfl rfl (ne_tf hc13) F rfl rfl ?_; clear F a; intro a F
         refine wE (ev_pickF rfl hc13 rfl) F S rfl fun a F=>?_
         obtain rfl := sinj hm
         refine wpList_nil (then_n ?_); exact ⟨rfl, F.sub ⟨rfl, rfl, rfl, rfl, rfl, rfl, rfl, rfl, rfl, trivial⟩⟩
       clear F; rintro a w' ⟨rfl, F⟩
       refine wpList_nil ?_
       refine then_n ?_
       obtain ⟨hc14, hm⟩ | ⟨hc14, hm⟩ := ite_or hm
       ·refine wp_condT F rfl hc14 ?_
        refine wp_seq ?_
        refine wp_region_lit ?_
        refine wE (ev_fieldAddr' tu38 tf38_0 (z := 0) ts36 rfl ⟨_, rfl⟩ rfl) F S rfl fun a F=>?_
        refine wE (ev_load1 tu36 rfl rfl (box_ptr (cells := [vp_1]) 5 rfl 0 rfl (lb rfl))) F S rfl fun a F=>?_
        refine wE (ev_move rfl) F S rfl fun a F=>?_
        obtain ⟨y28, hy28, hm⟩ := bind_some hm
        obtain ⟨cs18, hr23, hp8⟩ := elemS (hp_1.mono (l1.trans l22)) hy28
        obtain ⟨v48, v49, rfl, h53, h54⟩ := rep_Hunk hr23
        refine wE (ev_idxS (hp_1.mono (l1.trans l22)) hy28 tu36 ts60 rfl rfl) F S rfl fun a F=>?_
        refine wE (ev_loadA tu60 rfl (cs := [.i6 y28.At, v48, v49]) ts60 rfl (ptr_mono (cks := [c30, c31, [bx b4 #[.i6 0, .i6 0] 24], [bx b3 #[nilS] 38], [bx b2 #[vq_1] 38], [bx b1 #[vp_1] 38]]) (fr := fr) hp8 (Le.refl _))) F S rfl fun a F=>?_
        refine wl_alloc (wn rfl) rfl tz60 (cs := [.i6 0, nilS, nilS]) rfl F S rfl rfl ?_; clear F a S; rintro b9 a w F S
        refine wl_storeC (wn rfl) rfl F S rfl rfl (vs := [.i6 y28.At, v48, v49]) rfl ts60 (one_cons rfl (one_cons h53.one (one_cons h54.one one_nil))) (k := 0) rfl (lb rfl) (c' := #[.i6 y28.At, v48, v49]) rfl rfl ?_; clear S; intro w S
        refine wpList_nil ?_
        refine then_n ?_
        refine wp_seq ?_
        refine wp_region_lit ?_
        refine wE (ev_move rfl) F S rfl fun a F=>?_
        obtain ⟨z9, hz9, hm⟩ := bind_some hm
        refine wE (ev_int rfl rfl (bo_add hz9)) F S rfl fun a F=>?_
        refine wE (ev_assign rfl) F S rfl fun a F=>?_
        refine wpList_nil ?_
        refine then_n ?_
        refine wp_cut (fun a w => ∃ (x52 : List Item_changeforgeref1) (v50 : Value) (c38 : Hl) (g25 : Gh), Fr 246 a [(9, .i6 z9), (11, bp b9 0), (10, .i6 x38), (8, v50), (7, v39), (5, bp b4 0), (4, bp b3 0), (3, bp b2 0), (2, bp b1 0)] ∧ Le g22 g25 ∧ St g25 [[bx b9 #[.i6 y28.At, v48, v49] 60], c38, c31, [bx b4 #[.i6 0, .i6 0] 24], [bx b3 #[nilS] 38], [bx b2 #[vq_1] 38], [bx b1 #[vp_1] 38]] fr w ∧ OwnS g25 x52 v50 c38 ∧ changeforgeref1_Compose.j12 x38 x41 y28 z9 x52 = some x42) ?_ ?_
        ·refine wp_seq ?_
         refine wp_region_lit ?_
         refine wE (ev_assign rfl) F S rfl fun a F=>?_
         refine wpList_nil ?_
         refine then_n ?_
         refine wp_block ?_
         obtain ⟨r7, hr26, hm⟩ := bind_some hm
         have hmo7 := hm; clear hm
         refine wp_iter (σ := Int × (List Item_changeforgeref1)) (ρ := (List Item_changeforgeref1)) (m := fun s => changeforgeref1_Compose.l7 y28 s.1 s.2) (I := fun s a w => match s with | (x57, x58) => ∃ (v53 : Value) (c42 : Hl) (g28 : Gh), Fr 246 a [(12, .i6 x57), (9, .i6 z9), (11, bp b9 0), (10, .i6 x38), (8, v53), (7, v39), (5, bp b4 0), (4, bp b3 0), (3, bp b2 0), (2, bp b1 0)] ∧ Le g22 g28 ∧ St g28 [[bx b9 #[.i6 y28.At, v48, v49] 60], c42, c31, [bx b4 #[.i6 0, .i6 0] 24], [bx b3 #[nilS] 38], [bx b2 #[vq_1] 38], [bx b1 #[vp_1] 38]] fr w ∧ OwnS g28 x58 v53 c42) hr26 ?_ ?_
         ·dsimp only
          exact ⟨v38, c30, g22, F.sub ⟨rfl, rfl, rfl, rfl, rfl, rfl, rfl, rfl, rfl, rfl, trivial⟩, (Le.refl _), S, h43⟩
         ·clear F S; rintro ⟨x57, x58⟩ a w x59 ⟨v53, c42, g28, F, l28, S, h59⟩ hx10 hfin7
          have hm : changeforgeref1_Compose.l7 y28 x57 x58 = some x59 := hx10; clear hx10
          unfold changeforgeref1_Compose.l7 at hm
          refine wp_seq ?_
          refine wp_seq ?_
          refine wp_region_lit ?_
          refine wE (ev_move rfl) F S rfl fun a F=>?_
          refine wE (ev_fieldAddr' tu60 tf60_2 (z := 0) ts31 rfl ⟨_, rfl⟩ rfl) F S rfl fun a F=>?_
          refine wE (ev_load1 tu31 rfl rfl (box_ptr (cells := [v49]) 0 rfl 2 rfl (lb rfl))) F S rfl fun a F=>?_
          refine wE (ev_lenSh h54 rfl tu31) F S rfl fun a F=>?_
          refine wE (ev_int rfl rfl (bo_lss _ _ _ _)) F S rfl fun a F=>?_
          refine wpList_nil ?_
          refine then_n ?_
          obtain ⟨hc16, hm⟩ | ⟨hc16, hm⟩ := ite_or hm
          ·refine wp_condT F rfl hc16 ?_
           refine wp_skip ?_
           refine then_n ?_
           refine wp_seq ?_
           refine wp_block ?_
           refine wp_region_lit ?_
           refine wE (ev_move rfl) F S rfl fun a F=>?_
           refine wE (ev_fieldAddr' tu60 tf60_2 (z := 0) ts31 rfl ⟨_, rfl⟩ rfl) F S rfl fun a F=>?_
           refine wE (ev_load1 tu31 rfl rfl (box_ptr (cells := [v49]) 0 rfl 2 rfl (lb rfl))) F S rfl fun a F=>?_
           refine wE (ev_move rfl) F S rfl fun a F=>?_
           obtain ⟨y32, hy32, hm⟩ := bind_some hm
           obtain ⟨cs20, hr27, hp10⟩ := elemS (h54.mono l28) hy32
           obtain rfl := rep_str hr27
           refine wE (ev_idxS (h54.mono l28) hy32 tu31 ts9 rfl rfl) F S rfl fun a F=>?_
           refine wE (ev_load1 tu9 rfl rfl (ptr_mono (cks := [[bx b9 #[.i6 y28.At, v48, v49] 60], c42, c31, [bx b4 #[.i6 0, .i6 0] 24], [bx b3 #[nilS] 38], [bx b2 #[vq_1] 38], [bx b1 #[vp_1] 38]]) (fr := fr) hp10 (Le.refl _))) F S rfl fun a F=>?_
           refine wE (ev_build (parts := [(0, .const (.i6 (-1))), (1, .tmp 72)]) (vs := [(0, .i6 (-1)), (1, .string y32)]) rfl (fun w => tb82_0_1 (-1) y32 w)) F S rfl fun a F=>?_
           refine wl_lit (l := ([({ Old := (-1), Text := y32 } : Item_changeforgeref1)] : List Item_changeforgeref1)) (vs := [.agg #[.i6 (-1), .string y32]]) (parts := [(0, .tmp 73)]) (wn rfl) rfl rfl rfl tu80 te82 (sz_cons rfl sz_nil) rfl (Cat.cons (rep_Item_changeforgeref1_mk (x := ({ Old := (-1), Text := y32 } : Item_changeforgeref1)) ) (Cat.nil _)) (coa_cons rfl coa_nil) rfl F S rfl rfl ?_; clear F a S
           rintro v54 c43 a w h60 F S
           obtain ⟨cs21, hk7, hr28⟩ := OwnS.reads h60
           obtain ⟨y33, hy33, hm⟩ := bind_some hm
           refine wl_append (wn rfl) rfl tu80 tu80 te82 (by decide) (by decide) F S rfl rfl (k := 2) rfl h59 hk7 rfl (hr28 _ _ _ 0 rfl S) hy33 rfl rfl ?_; clear F a S
           rintro v55 c44 a w h61 S F; replace S : St g28 [c43, [bx b9 #[.i6 y28.At, v48, v49] 60], c44, c31, [bx b4 #[.i6 0, .i6 0] 24], [bx b3 #[nilS] 38], [bx b2 #[vq_1] 38], [bx b1 #[vp_1] 38]] fr w := S
           refine wE (ev_assign rfl) F S rfl fun a F=>?_
           refine wpList_nil ?_
           refine inb_n ?_
           refine then_n ?_
           refine wp_region_lit ?_
           refine wE (ev_move rfl) F S rfl fun a F=>?_
           obtain ⟨z13, hz13, hm⟩ := bind_some hm
           refine wE (ev_int rfl rfl (bo_add hz13)) F S rfl fun a F=>?_
           refine wE (ev_assign rfl) F S rfl fun a F=>?_
           refine wpList_nil ?_
           refine then_n ?_
           obtain rfl := sinj hm
           refine ⟨_, rfl, ?_⟩
           dsimp only
           replace S : St g28 [[bx b9 #[.i6 y28.At, v48, v49] 60], c44, c31, [bx b4 #[.i6 0, .i6 0] 24], [bx b3 #[nilS] 38], [bx b2 #[vq_1] 38], [bx b1 #[vp_1] 38]] fr w := St.tail [[bx b9 #[.i6 y28.At, v48, v49] 60], c44, c31, [bx b4 #[.i6 0, .i6 0] 24], [bx b3 #[nilS] 38], [bx b2 #[vq_1] 38], [bx b1 #[vp_1] 38]] _ (((((((S.frontC 7 rfl).frontC 7 rfl).frontC 7 rfl).frontC 7 rfl).frontC 7 rfl).frontC 7 rfl).frontC 7 rfl)
           exact ⟨v55, c44, g28, F.sub ⟨rfl, rfl, rfl, rfl, rfl, rfl, rfl, rfl, rfl, rfl, trivial⟩, l28, S, h61⟩
          ·refine wp_condF F rfl hc16 ?_
           refine wp_exit ?_
           refine then_e ?_
           refine then_e ?_
           refine inb_x ?_
           refine then_n ?_
           obtain rfl := sinj hm
           obtain rfl := hfin7 _ rfl
           clear hm
           have hm : (changeforgeref1_Compose.j12 x38 x41 y28 z9 x58 : Option (Step (Int × Int × (List Item_changeforgeref1) × (List ByteArray)) ((List Item_changeforgeref1) × (List ByteArray)))) = some _ := hmo7
           exact ⟨x58, v53, c42, g28, F.sub ⟨rfl, rfl, rfl, rfl, rfl, rfl, rfl, rfl, rfl, trivial⟩, l28, S, h59, hm⟩
        ·clear F S hm; rintro a w ⟨x52, v50, c38, g25, F, l25, S, h55, hm⟩
         refine wp_cut (fun a w => ∃ (x53 : List ByteArray) (v51 : Value) (c39 : Hl) (g26 : Gh), Fr 246 a [(9, .i6 z9), (11, bp b9 0), (10, .i6 x38), (8, v50), (7, v51), (5, bp b4 0), (4, bp b3 0), (3, bp b2 0), (2, bp b1 0)] ∧ Le g25 g26 ∧ St g26 [[bx b9 #[.i6 y28.At, v48, v49] 60], c38, c39, [bx b4 #[.i6 0, .i6 0] 24], [bx b3 #[nilS] 38], [bx b2 #[vq_1] 38], [bx b1 #[vp_1] 38]] fr w ∧ OwnS g26 x53 v51 c39 ∧ changeforgeref1_Compose.j13 x38 y28 z9 x52 x53 = some x42) ?_ ?_
         ·refine wp_seq ?_
          refine wp_region_lit ?_
          refine wE (ev_assign rfl) F S rfl fun a F=>?_
          refine wpList_nil ?_
          refine then_n ?_
          refine wp_block ?_
          obtain ⟨r6, hr24, hm⟩ := bind_some hm
          have hmo6 := hm; clear hm
          refine wp_iter (σ := Int × (List ByteArray)) (ρ := (List ByteArray)) (m := fun s => changeforgeref1_Compose.l6 x38 y28 s.1 s.2) (I := fun s a w => match s with | (x54, x55) => ∃ (v52 : Value) (c40 : Hl) (g27 : Gh), Fr 246 a [(13, .i6 x54), (9, .i6 z9), (11, bp b9 0), (10, .i6 x38), (8, v50), (7, v52), (5, bp b4 0), (4, bp b3 0), (3, bp b2 0), (2, bp b1 0)] ∧ Le g25 g27 ∧ St g27 [[bx b9 #[.i6 y28.At, v48, v49] 60], c38, c40, [bx b4 #[.i6 0, .i6 0] 24], [bx b3 #[nilS] 38], [bx b2 #[vq_1] 38], [bx b1 #[vp_1] 38]] fr w ∧ OwnS g27 x55 v52 c40) hr24 ?_ ?_
          ·dsimp only
           exact ⟨v39, c31, g25, F.sub ⟨rfl, rfl, rfl, rfl, rfl, rfl, rfl, rfl, rfl, rfl, trivial⟩, (Le.refl _), S, (h44.mono l25)⟩
          ·clear F S; rintro ⟨x54, x55⟩ a w x56 ⟨v52, c40, g27, F, l27, S, h57⟩ hx9 hfin6
           have hm : changeforgeref1_Compose.l6 x38 y28 x54 x55 = some x56 := hx9; clear hx9
           unfold changeforgeref1_Compose.l6 at hm
           refine wp_seq ?_
           refine wp_seq ?_
           refine wp_region_lit ?_
           refine wE (ev_move rfl) F S rfl fun a F=>?_
           refine wE (ev_fieldAddr' tu60 tf60_1 (z := 0) ts31 rfl ⟨_, rfl⟩ rfl) F S rfl fun a F=>?_
           refine wE (ev_load1 tu31 rfl rfl (box_ptr (cells := [v48]) 0 rfl 1 rfl (lb rfl))) F S rfl fun a F=>?_
           refine wE (ev_lenSh h53 rfl tu31) F S rfl fun a F=>?_
           refine wE (ev_int rfl rfl (bo_lss _ _ _ _)) F S rfl fun a F=>?_
           refine wpList_nil ?_
           refine then_n ?_
           obtain ⟨hc15, hm⟩ | ⟨hc15, hm⟩ := ite_or hm
           ·refine wp_condT F rfl hc15 ?_
            refine wp_skip ?_
            refine then_n ?_
            refine wp_seq ?_
            refine wp_block ?_
            refine wp_region_lit ?_
            refine wE (ev_move rfl) F S rfl fun a F=>?_
            refine wE (ev_move rfl) F S rfl fun a F=>?_
            refine wE (ev_move rfl) F S rfl fun a F=>?_
            obtain ⟨z11, hz11, hm⟩ := bind_some hm
            refine wE (ev_int rfl rfl (bo_add hz11)) F S rfl fun a F=>?_
            refine wE (ev_fieldAddr' tu60 tf60_1 (z := 0) ts31 rfl ⟨_, rfl⟩ rfl) F S rfl fun a F=>?_
            refine wE (ev_load1 tu31 rfl rfl (box_ptr (cells := [v48]) 0 rfl 1 rfl (lb rfl))) F S rfl fun a F=>?_
            refine wE (ev_move rfl) F S rfl fun a F=>?_
            obtain ⟨y29, hy29, hm⟩ := bind_some hm
            obtain ⟨cs19, hr25, hp9⟩ := elemS (h53.mono (l25.trans l27)) hy29
            obtain rfl := rep_str hr25
            refine wE (ev_idxS (h53.mono (l25.trans l27)) hy29 tu31 ts9 rfl rfl) F S rfl fun a F=>?_
            refine wE (ev_load1 tu9 rfl rfl (ptr_mono (cks := [[bx b9 #[.i6 y28.At, v48, v49] 60], c38, c40, [bx b4 #[.i6 0, .i6 0] 24], [bx b3 #[nilS] 38], [bx b2 #[vq_1] 38], [bx b1 #[vp_1] 38]]) (fr := fr) hp9 (Le.refl _))) F S rfl fun a F=>?_
            obtain ⟨y30, hy30, hm⟩ := bind_some hm
            refine wE (ev_idxO h57 hy30 tu31 ts9 rfl rfl) F S rfl fun a F=>?_
            obtain ⟨y31, hy31, hm⟩ := bind_some hm
            refine wl_storeW (z' := y29) (wn rfl) rfl F S h57 hy30 rfl rfl (us := [.string y29]) rfl ts9 (one_cons rfl one_nil) (k := 2) rfl rfl (show Rep.rep _ y29 _ from rfl) rfl ?_; clear S
            rintro c41 w h58 S; replace S : St g27 [[bx b9 #[.i6 y28.At, v48, v49] 60], c38, c41, [bx b4 #[.i6 0, .i6 0] 24], [bx b3 #[nilS] 38], [bx b2 #[vq_1] 38], [bx b1 #[vp_1] 38]] fr w := S; replace h58 : OwnS g27 y31 v52 c41 := sinj hy31 ▸ h58
            replace F := F.sub (e' := [(91, .string y29), (90, (elemP v48 x54 1)), (89, .i6 x54), (88, v48), (87, bp b9 1), (86, .i6 z11), (85, .i6 x54), (84, .i6 x38), (83, v52), (80, .bool (decide (x54 < (y28.Old.length : Int)))), (79, .i6 (y28.Old.length : Int)), (78, v48), (77, bp b9 1), (76, .i6 x54), (13, .i6 x54), (9, .i6 z9), (11, bp b9 0), (10, .i6 x38), (8, v50), (7, v52), (5, bp b4 0), (4, bp b3 0), (3, bp b2 0), (2, bp b1 0)]) ⟨rfl, rfl, rfl, rfl, rfl, rfl, rfl, rfl, rfl, rfl, rfl, rfl, rfl, rfl, rfl, rfl, rfl, rfl, rfl, rfl, rfl, rfl, rfl, rfl, trivial⟩
            refine wpList_nil ?_
            refine inb_n ?_
            refine then_n ?_
            refine wp_region_lit ?_
            refine wE (ev_move rfl) F S rfl fun a F=>?_
            obtain ⟨z12, hz12, hm⟩ := bind_some hm
            refine wE (ev_int rfl rfl (bo_add hz12)) F S rfl fun a F=>?_
            refine wE (ev_assign rfl) F S rfl fun a F=>?_
            refine wpList_nil ?_
            refine then_n ?_
            obtain rfl := sinj hm
            refine ⟨_, rfl, ?_⟩
            dsimp only
            exact ⟨v52, c41, g27, F.sub ⟨rfl, rfl, rfl, rfl, rfl, rfl, rfl, rfl, rfl, rfl, trivial⟩, l27, S, h58⟩
           ·refine wp_condF F rfl hc15 ?_
            refine wp_exit ?_
            refine then_e ?_
            refine then_e ?_
            refine inb_x ?_
            refine then_n ?_
            obtain rfl := sinj hm
            obtain rfl := hfin6 _ rfl
            clear hm
            have hm : (changeforgeref1_Compose.j13 x38 y28 z9 x52 x55 : Option (Step (Int × Int × (List Item_changeforgeref1) × (List ByteArray)) ((List Item_changeforgeref1) × (List ByteArray)))) = some _ := hmo6
            exact ⟨x55, v52, c40, g27, F.sub ⟨rfl, rfl, rfl, rfl, rfl, rfl, rfl, rfl, rfl, trivial⟩, l27, S, h57, hm⟩
         ·clear F S hm; rintro a w ⟨x53, v51, c39, g26, F, l26, S, h56, hm⟩
          refine wp_region_lit ?_
          refine wE (ev_move rfl) F S rfl fun a F=>?_
          refine wE (ev_fieldAddr' tu60 tf60_1 (z := 0) ts31 rfl ⟨_, rfl⟩ rfl) F S rfl fun a F=>?_
          refine wE (ev_load1 tu31 rfl rfl (box_ptr (cells := [v48]) 0 rfl 1 rfl (lb rfl))) F S rfl fun a F=>?_
          refine wE (ev_lenSh h53 rfl tu31) F S rfl fun a F=>?_
          obtain ⟨z10, hz10, hm⟩ := bind_some hm
          refine wE (ev_int rfl rfl (bo_add hz10)) F S rfl fun a F=>?_
          refine wE (ev_assign rfl) F S rfl fun a F=>?_
          refine wpList_nil ?_
          refine then_n ?_
          replace S : St g26 [c38, c39, [bx b4 #[.i6 0, .i6 0] 24], [bx b3 #[nilS] 38], [bx b2 #[vq_1] 38], [bx b1 #[vp_1] 38]] fr w := St.tail [c38, c39, [bx b4 #[.i6 0, .i6 0] 24], [bx b3 #[nilS] 38], [bx b2 #[vq_1] 38], [bx b1 #[vp_1] 38]] _ ((((((S.frontC 6 rfl).frontC 6 rfl).frontC 6 rfl).frontC 6 rfl).frontC 6 rfl).frontC 6 rfl)
          exact ⟨z10, z9, x52, x53, v50, v51, c38, c39, g26, F.sub ⟨rfl, rfl, rfl, rfl, rfl, rfl, rfl, rfl, trivial⟩, (l25.trans l26), S, (h55.mono l26), h56, hm⟩
       ·refine wp_condF F rfl hc14 ?_
        refine wp_skip ?_
        refine then_n ?_
        exact ⟨x38, x39, x40, x41, v38, v39, c30, c31, g22, F.sub ⟨rfl, rfl, rfl, rfl, rfl, rfl, rfl, rfl, trivial⟩, (Le.refl _), S, h43, h44, hm⟩
      ·clear F S hm; rintro a w ⟨x47, x48, x49, x50, v42, v43, c34, c35, g24, F, l24, S, h47, h48, hm⟩
       refine wp_region_lit ?_
       refine wE (ev_move rfl) F S rfl fun a F=>?_
       refine wE (ev_move rfl) F S rfl fun a F=>?_
       refine wE (ev_build (parts := [(0, .tmp 99), (1, .const (.string (⟨#[]⟩ : ByteArray)))]) (vs := [(0, .i6 x47), (1, .string (⟨#[]⟩ : ByteArray))]) rfl (fun w => tb82_0_1 x47 (⟨#[]⟩ : ByteArray) w)) F S rfl fun a F=>?_
       refine wl_lit (l := ([({ Old := x47, Text := (⟨#[]⟩ : ByteArray) } : Item_changeforgeref1)] : List Item_changeforgeref1)) (vs := [.agg #[.i6 x47, .string (⟨#[]⟩ : ByteArray)]]) (parts := [(0, .tmp 100)]) (wn rfl) rfl rfl rfl tu80 te82 (sz_cons rfl sz_nil) rfl (Cat.cons (rep_Item_changeforgeref1_mk (x := ({ Old := x47, Text := (⟨#[]⟩ : ByteArray) } : Item_changeforgeref1)) ) (Cat.nil _)) (coa_cons rfl coa_nil) rfl F S rfl rfl ?_; clear F a S
       rintro v44 c36 a w h49 F S
       obtain ⟨cs16, hk6, hr21⟩ := OwnS.reads h49
       obtain ⟨y26, hy26, hm⟩ := bind_some hm
       refine wl_append (wn rfl) rfl tu80 tu80 te82 (by decide) (by decide) F S rfl rfl (k := 1) rfl h47 hk6 rfl (hr21 _ _ _ 0 rfl S) hy26 rfl rfl ?_; clear F a S
       rintro v45 c37 a w h50 S F; replace S : St g24 [c36, c37, c35, [bx b4 #[.i6 0, .i6 0] 24], [bx b3 #[nilS] 38], [bx b2 #[vq_1] 38], [bx b1 #[vp_1] 38]] fr w := S
       refine wE (ev_assign rfl) F S rfl fun a F=>?_
       refine wpList_nil ?_
       refine inb_n ?_
       refine then_n ?_
       replace S : St g24 [c37, c35, [bx b4 #[.i6 0, .i6 0] 24], [bx b3 #[nilS] 38], [bx b2 #[vq_1] 38], [bx b1 #[vp_1] 38]] fr w := St.tail [c37, c35, [bx b4 #[.i6 0, .i6 0] 24], [bx b3 #[nilS] 38], [bx b2 #[vq_1] 38], [bx b1 #[vp_1] 38]] _ ((((((S.frontC 6 rfl).frontC 6 rfl).frontC 6 rfl).frontC 6 rfl).frontC 6 rfl).frontC 6 rfl)
       exact ⟨y26, x47, x48, x50, v45, v43, c37, c35, g24, F.sub ⟨rfl, rfl, rfl, rfl, rfl, rfl, rfl, rfl, trivial⟩, l24, S, h50, h48, hm⟩
     ·clear F S hm; rintro a w ⟨x43, x44, x45, x46, v40, v41, c32, c33, g23, F, l23, S, h45, h46, hm⟩
      refine wp_region_lit ?_
      refine wE (ev_move rfl) F S rfl fun a F=>?_
      obtain ⟨z8, hz8, hm⟩ := bind_some hm
      refine wE (ev_int rfl rfl (bo_add hz8)) F S rfl fun a F=>?_
      refine wE (ev_assign rfl) F S rfl fun a F=>?_
      refine wpList_nil ?_
      refine then_n ?_
      obtain rfl := sinj hm
      refine ⟨_, rfl, ?_⟩
      dsimp only
      exact ⟨v40, v41, c32, c33, g23, F.sub ⟨rfl, rfl, rfl, rfl, rfl, rfl, rfl, rfl, trivial⟩, (l22.trans l23), S, h45, h46⟩
    ·refine wp_condF F rfl hc12 ?_
     refine wp_exit ?_
     refine then_e ?_
     refine then_e ?_
     refine inb_x ?_
     refine then_n ?_
     obtain rfl := sinj hm
     obtain rfl := hfin5 _ rfl
     clear hm
     have hm : (changeforgeref1_Compose.j1 q_ x40 x41 : Option (Patch × Fault)) = some _ := hmo5
     replace S : St g22 [c30, c31, [bx b4 #[.i6 0, .i6 0] 24], [bx b3 #[nilS] 38], [bx b2 #[vq_1] 38]] fr w := St.tail [c30, c31, [bx b4 #[.i6 0, .i6 0] 24], [bx b3 #[nilS] 38], [bx b2 #[vq_1] 38]] _ (((((S.frontC 4 rfl).frontC 4 rfl).frontC 4 rfl).frontC 4 rfl).frontC 4 rfl)
     exact ⟨x40, x41, v38, v39, c30, c31, g22, F.sub ⟨rfl, rfl, rfl, rfl, rfl, trivial⟩, l22, S, h43, h44, hm⟩
  ·clear F S hm; rintro a w ⟨x1, x2, v2, v3, c2, c3, g2, F, l2, S, h2, h3, hm⟩
   refine wp_seq ?_
   refine wp_region_lit ?_
   refine wE (ev_assign rfl) F S rfl fun a F=>?_
   refine wpList_nil ?_
   refine then_n ?_
   refine wp_seq ?_
   refine wp_region_lit ?_
   refine wE (ev_assign rfl) F S rfl fun a F=>?_
   refine wpList_nil ?_
   refine then_n ?_
   refine wp_cut (fun a w => ∃ (x3 : Int) (x4 : List Item_changeforgeref1) (x5 : List Item_changeforgeref1) (x6 : List ByteArray) (v4 v5 v6 : Value) (c4 c5 : Hl) (g3 : Gh), Fr 246 a [(15, .i6 x3), (14, v4), (8, v5), (7, v6), (5, bp b4 0), (4, bp b3 0)] ∧ Le g2 g3 ∧ St g3 [c4, c5, [bx b4 #[.i6 0, .i6 0] 24], [bx b3 #[nilS] 38]] fr w ∧ OwnS g3 x4 v4 c4 ∧ RepSl g3 x5 v5 ∧ OwnS g3 x6 v6 c5 ∧ changeforgeref1_Compose.j2 x3 x4 x5 x6 = some r) ?_ ?_
   ·refine wp_seq ?_
    refine wp_region_lit ?_
    refine wE (ev_assign rfl) F S rfl fun a F=>?_
    refine wpList_nil ?_
    refine then_n ?_
    refine wp_block ?_
    obtain ⟨r2, hr10, hm⟩ := bind_some hm
    have hmo2 := hm; clear hm
    refine wp_iter (σ := Int × Int × (List Item_changeforgeref1) × (List Item_changeforgeref1) × (List ByteArray)) (ρ := (Patch × Fault) ⊕ (Int × (List Item_changeforgeref1) × (List Item_changeforgeref1) × (List ByteArray))) (m := fun s => changeforgeref1_Compose.l2 q_ s.1 s.2.1 s.2.2.1 s.2.2.2.1 s.2.2.2.2) (I := fun s a w => match s with | (x19, x20, x21, x22, x23) => ∃ (v22 v23 v24 : Value) (c17 c18 : Hl) (g12 : Gh), Fr 246 a [(16, .i6 x19), (15, .i6 x20), (14, v22), (8, v23), (7, v24), (5, bp b4 0), (4, bp b3 0), (3, bp b2 0)] ∧ Le g2 g12 ∧ St g12 [c17, c18, [bx b4 #[.i6 0, .i6 0] 24], [bx b3 #[nilS] 38], [bx b2 #[vq_1] 38]] fr w ∧ OwnS g12 x21 v22 c17 ∧ RepSl g12 x22 v23 ∧ OwnS g12 x23 v24 c18) hr10 ?_ ?_
    ·dsimp only
     obtain ⟨g13, l13, S, h28⟩ : ∃ gz, Le g2 gz ∧ St gz [c3, [bx b4 #[.i6 0, .i6 0] 24], [bx b3 #[nilS] 38], [bx b2 #[vq_1] 38]] fr w ∧ RepSl gz x1 v2 := ⟨_, Le.add _ _, S.freeze 0 rfl, OwnS.freeze (S.front 0 rfl) h2⟩
     replace S : St g13 [[], c3, [bx b4 #[.i6 0, .i6 0] 24], [bx b3 #[nilS] 38], [bx b2 #[vq_1] 38]] fr w := S
     exact ⟨(nilS), v2, v3, [], c3, g13, F.sub ⟨rfl, rfl, rfl, rfl, rfl, rfl, rfl, rfl, trivial⟩, l13, S, (OwnS.nil _), h28, (h3.mono l13)⟩
    ·clear F S; rintro ⟨x19, x20, x21, x22, x23⟩ a w x24 ⟨v22, v23, v24, c17, c18, g12, F, l12, S, h25, h26, h27⟩ hx3 hfin2
     have hm : changeforgeref1_Compose.l2 q_ x19 x20 x21 x22 x23 = some x24 := hx3; clear hx3
     unfold changeforgeref1_Compose.l2 at hm
     refine wp_seq ?_
     refine wp_seq ?_
     refine wp_region_lit ?_
     refine wE (ev_move rfl) F S rfl fun a F=>?_
     refine wE (ev_fieldAddr' tu38 tf38_0 (z := 0) ts36 rfl ⟨_, rfl⟩ rfl) F S rfl fun a F=>?_
     refine wE (ev_load1 tu36 rfl rfl (box_ptr (cells := [vq_1]) 4 rfl 0 rfl (lb rfl))) F S rfl fun a F=>?_
     refine wE (ev_lenSh hq_1 rfl tu36) F S rfl fun a F=>?_
     refine wE (ev_int rfl rfl (bo_lss _ _ _ _)) F S rfl fun a F=>?_
     refine wpList_nil ?_
     refine then_n ?_
     obtain ⟨hc6, hm⟩ | ⟨hc6, hm⟩ := ite_or hm
     ·refine wp_condT F rfl hc6 ?_
      refine wp_skip ?_
      refine then_n ?_
      refine wp_cut (fun a w => ∃ (x25 : Int) (x26 : List Item_changeforgeref1) (x27 : List ByteArray) (v25 v26 : Value) (c19 c20 : Hl) (g14 : Gh), Fr 246 a [(15, .i6 x25), (14, v25), (16, .i6 x19), (8, v23), (7, v26), (5, bp b4 0), (4, bp b3 0), (3, bp b2 0)] ∧ Le g12 g14 ∧ St g14 [c19, c20, [bx b4 #[.i6 0, .i6 0] 24], [bx b3 #[nilS] 38], [bx b2 #[vq_1] 38]] fr w ∧ OwnS g14 x26 v25 c19 ∧ OwnS g14 x27 v26 c20 ∧ changeforgeref1_Compose.j6 x19 x22 x25 x26 x27 = some x24) ?_ ?_
      ·refine wp_block ?_
       refine wp_seq ?_
       refine wp_region_lit ?_
       refine wE (ev_fieldAddr' tu38 tf38_0 (z := 0) ts36 rfl ⟨_, rfl⟩ rfl) F S rfl fun a F=>?_
       refine wE (ev_load1 tu36 rfl rfl (box_ptr (cells := [vq_1]) 4 rfl 0 rfl (lb rfl))) F S rfl fun a F=>?_
       refine wE (ev_move rfl) F S rfl fun a F=>?_
       obtain ⟨y14, hy14, hm⟩ := bind_some hm
       obtain ⟨cs9, hr11, hp1⟩ := elemS (hq_1.mono ((l1.trans l2).trans l12)) hy14
       obtain ⟨v27, v28, rfl, h31, h32⟩ := rep_Hunk hr11
       refine wE (ev_idxS (hq_1.mono ((l1.trans l2).trans l12)) hy14 tu36 ts60 rfl rfl) F S rfl fun a F=>?_
       refine wE (ev_loadA tu60 rfl (cs := [.i6 y14.At, v27, v28]) ts60 rfl (ptr_mono (cks := [c17, c18, [bx b4 #[.i6 0, .i6 0] 24], [bx b3 #[nilS] 38], [bx b2 #[vq_1] 38]]) (fr := fr) hp1 (Le.refl _))) F S rfl fun a F=>?_
       refine wl_alloc (wn rfl) rfl tz60 (cs := [.i6 0, nilS, nilS]) rfl F S rfl rfl ?_; clear F a S; rintro b7 a w F S
       refine wl_storeC (wn rfl) rfl F S rfl rfl (vs := [.i6 y14.At, v27, v28]) rfl ts60 (one_cons rfl (one_cons h31.one (one_cons h32.one one_nil))) (k := 0) rfl (lb rfl) (c' := #[.i6 y14.At, v27, v28]) rfl rfl ?_; clear S; intro w S
       refine wpList_nil ?_
       refine then_n ?_
       refine wp_seq ?_
       refine wp_region_lit ?_
       refine wE (ev_move rfl) F S rfl fun a F=>?_
       refine wE (ev_move rfl) F S rfl fun a F=>?_
       refine wE (ev_move rfl) F S rfl fun a F=>?_
       refine wE (ev_fieldAddr' tu60 tf60_0 (z := 0) ts3 rfl ⟨_, rfl⟩ rfl) F S rfl fun a F=>?_
       refine wE (ev_load1 tu3 rfl rfl (box_ptr (cells := [.i6 y14.At]) 0 rfl 0 rfl (lb rfl))) F S rfl fun a F=>?_
       obtain ⟨y15, hy15, hm⟩ := bind_some hm
       refine wl_cutS (wn rfl) rfl h26 hy15 tu80 ts82 rfl (bndV rfl) (bndV rfl) F rfl rfl ?_; clear F a; rintro v29 h33 a F
       obtain ⟨cs10, hk4, hr12⟩ := RepSl.reads h33
       obtain ⟨y16, hy16, hm⟩ := bind_some hm
       refine wl_append (wn rfl) rfl tu80 tu80 te82 (by decide) (by decide) F S rfl rfl (k := 1) rfl h25 hk4 rfl (hr12 _ _ S) hy16 rfl rfl ?_; clear F a S
       rintro v30 c21 a w h34 S F; replace S : St g12 [[bx b7 #[.i6 y14.At, v27, v28] 60], c21, c18, [bx b4 #[.i6 0, .i6 0] 24], [bx b3 #[nilS] 38], [bx b2 #[vq_1] 38]] fr w := S
       refine wE (ev_assign rfl) F S rfl fun a F=>?_
       refine wpList_nil ?_
       refine then_n ?_
       refine wp_cut (fun a w => ∃ (x28 : List ByteArray) (v31 : Value) (c22 : Hl) (g15 : Gh), Fr 246 a [(14, v30), (17, bp b7 0), (16, .i6 x19), (8, v23), (7, v31), (5, bp b4 0), (4, bp b3 0), (3, bp b2 0)] ∧ Le g12 g15 ∧ St g15 [c21, [bx b7 #[.i6 y14.At, v27, v28] 60], c22, [bx b4 #[.i6 0, .i6 0] 24], [bx b3 #[nilS] 38], [bx b2 #[vq_1] 38]] fr w ∧ OwnS g15 x28 v31 c22 ∧ changeforgeref1_Compose.j7 x19 x22 y14 y16 x28 = some x24) ?_ ?_
       ·refine wp_seq ?_
        refine wp_region_lit ?_
        refine wE (ev_assign rfl) F S rfl fun a F=>?_
        refine wpList_nil ?_
        refine then_n ?_
        refine wp_block ?_
        obtain ⟨r4, hr16, hm⟩ := bind_some hm
        have hmo4 := hm; clear hm
        refine wp_iter (σ := Int × (List ByteArray)) (ρ := (Patch × Fault) ⊕ (List ByteArray)) (m := fun s => changeforgeref1_Compose.l4 x19 x22 y14 s.1 s.2) (I := fun s a w => match s with | (x33, x34) => ∃ (v36 : Value) (c27 : Hl) (g19 : Gh), Fr 246 a [(18, .i6 x33), (14, v30), (17, bp b7 0), (16, .i6 x19), (8, v23), (7, v36), (5, bp b4 0), (4, bp b3 0), (3, bp b2 0)] ∧ Le g12 g19 ∧ St g19 [c21, [bx b7 #[.i6 y14.At, v27, v28] 60], c27, [bx b4 #[.i6 0, .i6 0] 24], [bx b3 #[nilS] 38], [bx b2 #[vq_1] 38]] fr w ∧ OwnS g19 x34 v36 c27) hr16 ?_ ?_
        ·dsimp only
         replace S : St g12 [c21, [bx b7 #[.i6 y14.At, v27, v28] 60], c18, [bx b4 #[.i6 0, .i6 0] 24], [bx b3 #[nilS] 38], [bx b2 #[vq_1] 38]] fr w := St.tail [c21, [bx b7 #[.i6 y14.At, v27, v28] 60], c18, [bx b4 #[.i6 0, .i6 0] 24], [bx b3 #[nilS] 38], [bx b2 #[vq_1] 38]] _ ((((((S.frontC 5 rfl).frontC 5 rfl).frontC 5 rfl).frontC 5 rfl).frontC 4 rfl).frontC 6 rfl)
         exact ⟨v24, c18, g12, F.sub ⟨rfl, rfl, rfl, rfl, rfl, rfl, rfl, rfl, rfl, trivial⟩, (Le.refl _), S, h27⟩
        ·clear F S; rintro ⟨x33, x34⟩ a w x35 ⟨v36, c27, g19, F, l19, S, h40⟩ hx5 hfin4
         have hm : changeforgeref1_Compose.l4 x19 x22 y14 x33 x34 = some x35 := hx5; clear hx5
         unfold changeforgeref1_Compose.l4 at hm
         refine wp_seq ?_
         refine wp_seq ?_
         refine wp_region_lit ?_
         refine wE (ev_move rfl) F S rfl fun a F=>?_
         refine wE (ev_fieldAddr' tu60 tf60_1 (z := 0) ts31 rfl ⟨_, rfl⟩ rfl) F S rfl fun a F=>?_
         refine wE (ev_load1 tu31 rfl rfl (box_ptr (cells := [v27]) 1 rfl 1 rfl (lb rfl))) F S rfl fun a F=>?_
         refine wE (ev_lenSh h31 rfl tu31) F S rfl fun a F=>?_
         refine wE (ev_int rfl rfl (bo_lss _ _ _ _)) F S rfl fun a F=>?_
         refine wpList_nil ?_
         refine then_n ?_
         obtain ⟨hc8, hm⟩ | ⟨hc8, hm⟩ := ite_or hm
         ·refine wp_condT F rfl hc8 ?_
          refine wp_skip ?_
          refine then_n ?_
          refine wp_cut (fun a w => ∃ (x36 : List ByteArray) (v37 : Value) (c28 : Hl) (g20 : Gh), Fr 246 a [(18, .i6 x33), (14, v30), (17, bp b7 0), (16, .i6 x19), (8, v23), (7, v37), (5, bp b4 0), (4, bp b3 0), (3, bp b2 0)] ∧ Le g19 g20 ∧ St g20 [c21, [bx b7 #[.i6 y14.At, v27, v28] 60], c28, [bx b4 #[.i6 0, .i6 0] 24], [bx b3 #[nilS] 38], [bx b2 #[vq_1] 38]] fr w ∧ OwnS g20 x36 v37 c28 ∧ changeforgeref1_Compose.j9 x33 x36 = some x35) ?_ ?_
          ·refine wp_block ?_
           refine wp_seq ?_
           refine wp_region_lit ?_
           refine wE (ev_move rfl) F S rfl fun a F=>?_
           refine wE (ev_fieldAddr' tu60 tf60_0 (z := 0) ts3 rfl ⟨_, rfl⟩ rfl) F S rfl fun a F=>?_
           refine wE (ev_load1 tu3 rfl rfl (box_ptr (cells := [.i6 y14.At]) 1 rfl 0 rfl (lb rfl))) F S rfl fun a F=>?_
           refine wE (ev_move rfl) F S rfl fun a F=>?_
           obtain ⟨z6, hz6, hm⟩ := bind_some hm
           refine wE (ev_int rfl rfl (bo_add hz6)) F S rfl fun a F=>?_
           obtain ⟨y20, hy20, hm⟩ := bind_some hm
           obtain ⟨cs13, hr17, hp3⟩ := elemS (h26.mono l19) hy20
           obtain rfl := rep_Item_changeforgeref1 hr17
           refine wE (ev_idxS (h26.mono l19) hy20 tu80 ts82 rfl rfl) F S rfl fun a F=>?_
           refine wE (ev_loadA tu82 rfl (cs := [.i6 y20.Old, .string y20.Text]) ts82 rfl (ptr_mono (cks := [c21, [bx b7 #[.i6 y14.At, v27, v28] 60], c27, [bx b4 #[.i6 0, .i6 0] 24], [bx b3 #[nilS] 38], [bx b2 #[vq_1] 38]]) (fr := fr) hp3 (Le.refl _))) F S rfl fun a F=>?_
           refine wl_alloc (wn rfl) rfl tz82 (cs := [.i6 0, .string ByteArray.empty]) rfl F S rfl rfl ?_; clear F a S; rintro b8 a w F S
           refine wl_storeC (wn rfl) rfl F S rfl rfl (vs := [.i6 y20.Old, .string y20.Text]) rfl ts82 (one_cons rfl (one_cons rfl one_nil)) (k := 0) rfl (lb rfl) (c' := #[.i6 y20.Old, .string y20.Text]) rfl rfl ?_; clear S; intro w S
           refine wpList_nil ?_
           refine then_n ?_
           refine wp_seq ?_
           refine wp_seq ?_
           refine wp_quiet mo (by kernel_rfl) S ?_
           refine wq_ev (wn rfl) (ev_fieldAddr' tu82 tf82_0 (z := 0) ts3 rfl ⟨_, rfl⟩ rfl) F rfl rfl ?_; clear F a; intro a F
           refine wq_ev (wn rfl) (ev_load1 tu3 rfl rfl (box_ptr (cells := [.i6 y20.Old]) 0 rfl 0 rfl (lb rfl))) F rfl rfl ?_; clear F a; intro a F
           refine wq_ev (wn rfl) (ev_int rfl rfl (bo_lss _ _ _ _)) F rfl rfl ?_; clear F a; intro a F
           refine wq_ev (wn rfl) (ev_move rfl) F rfl rfl ?_; clear F a; intro a F
           obtain ⟨x37, hx6, hm⟩ := bind_some hm
           refine wq_cut 9 (fun a => Fr 246 a [(148, .bool x37), (19, bp b8 0), (18, .i6 x33), (14, v30), (17, bp b7 0), (16, .i6 x19), (8, v23), (7, v36), (5, bp b4 0), (4, bp b3 0), (3, bp b2 0)]) ?_ ?_
           ·clear hm; obtain ⟨hc9, hm⟩ | ⟨hc9, hm⟩ := ite_or hx6
            ·refine wq_ev (wg F rfl rfl rfl rfl hc9) (ev_fieldAddr' tu82 tf82_1 (z := 0) ts9 rfl ⟨_, rfl⟩ rfl) F rfl rfl ?_; clear F a; intro a F
             refine wq_ev (wg F rfl rfl rfl rfl hc9) (ev_load1 tu9 rfl rfl (box_ptr (cells := [.string y20.Text]) 0 rfl 1 rfl (lb rfl))) F rfl rfl ?_; clear F a; intro a F
             refine wq_ev (wg F rfl rfl rfl rfl hc9) (ev_fieldAddr' tu60 tf60_1 (z := 0) ts31 rfl ⟨_, rfl⟩ rfl) F rfl rfl ?_; clear F a; intro a F
             refine wq_ev (wg F rfl rfl rfl rfl hc9) (ev_load1 tu31 rfl rfl (box_ptr (cells := [v27]) 2 rfl 1 rfl (lb rfl))) F rfl rfl ?_; clear F a; intro a F
             refine wq_ev (wg F rfl rfl rfl rfl hc9) (ev_move rfl) F rfl rfl ?_; clear F a; intro a F
             obtain ⟨y21, hy21, hm⟩ := bind_some hm
             obtain ⟨cs14, hr18, hp4⟩ := elemS (h31.mono l19) hy21
             obtain rfl := rep_str hr18
             refine wq_ev (wg F rfl rfl rfl rfl hc9) (ev_idxS (h31.mono l19) hy21 tu31 ts9 rfl rfl) F rfl rfl ?_; clear F a; intro a F
             refine wq_ev (wg F rfl rfl rfl rfl hc9) (ev_load1 tu9 rfl rfl (ptr_mono (cks := [[bx b8 #[.i6 y20.Old, .string y20.Text] 82], c21, [bx b7 #[.i6 y14.At, v27, v28] 60], c27, [bx b4 #[.i6 0, .i6 0] 24], [bx b3 #[nilS] 38], [bx b2 #[vq_1] 38]]) (fr := fr) hp4 (Le.refl _))) F rfl rfl ?_; clear F a; intro a F
             refine wq_ev (wg F rfl rfl rfl rfl hc9) (ev_str rfl rfl (bs_neq _ _ _)) F rfl rfl ?_; clear F a; intro a F
             refine wq_ev (wn rfl) (ev_pickT rfl hc9 rfl) F rfl rfl ?_; clear F a; intro a F
             obtain rfl := sinj hm
             refine wq_nil ?_; exact F.sub ⟨rfl, rfl, rfl, rfl, rfl, rfl, rfl, rfl, rfl, rfl, rfl, trivial⟩
            ·refine wq_skip rfl rfl rfl rfl (ne_tf hc9) F rfl rfl ?_; clear F a; intro a F
             refine wq_skip rfl rfl rfl rfl (ne_tf hc9) F rfl rfl ?_; clear F a; intro a F
             refine wq_skip rfl rfl rfl rfl (ne_tf hc9) F rfl rfl ?_; clear F a; intro a F
             refine wq_skip rfl rfl rfl rfl (ne_tf hc9) F rfl rfl ?_; clear F a; intro a F
             refine wq_skip rfl rfl rfl rfl (ne_tf hc9) F rfl rfl ?_; clear F a; intro a F
             refine wq_skip rfl rfl rfl rfl (ne_tf hc9) F rfl rfl ?_; clear F a; intro a F
             refine wq_skip rfl rfl rfl rfl (ne_tf hc9) F rfl rfl ?_; clear F a; intro a F
             refine wq_skip rfl rfl rfl rfl (ne_tf hc9) F rfl rfl ?_; clear F a; intro a F
             refine wq_ev (wn rfl) (ev_pickF rfl hc9 rfl) F rfl rfl ?_; clear F a; intro a F
             obtain rfl := sinj hm
             refine wq_nil ?_; exact F.sub ⟨rfl, rfl, rfl, rfl, rfl, rfl, rfl, rfl, rfl, rfl, rfl, trivial⟩
           clear F; intro a F
           refine wq_nil ?_; clear S; intro w S
           refine then_n ?_
           obtain ⟨hc10, hm⟩ | ⟨hc10, hm⟩ := ite_or hm
           ·refine wp_condT F rfl hc10 ?_
            refine wp_seq ?_
            refine wp_region_lit ?_
            refine wE (ev_build (parts := []) (vs := []) rfl (fun w => tb38_  w)) F S rfl fun a F=>?_
            refine wE (ev_move rfl) F S rfl fun a F=>?_
            obtain ⟨z7, hz7, hm⟩ := bind_some hm
            refine wE (ev_int rfl rfl (bo_sub hz7)) F S rfl fun a F=>?_
            obtain ⟨y22, hy22, hm⟩ := bind_some hm
            refine wl_call0 (wn rfl) rfl F rfl (changeforgeref1_At_ok (fr := (fl [[bx b8 #[.i6 y20.Old, .string y20.Text] 82], c21, [bx b7 #[.i6 y14.At, v27, v28] 60], c27, [bx b4 #[.i6 0, .i6 0] 24], [bx b3 #[nilS] 38], [bx b2 #[vq_1] 38]] fr)) 19 z7 S hy22) rfl tc26 rfl rfl ?_; clear F a S
            rintro _ a w ⟨g21, l21, S, rfl⟩ F; replace S : St g21 [[bx b8 #[.i6 y20.Old, .string y20.Text] 82], c21, [bx b7 #[.i6 y14.At, v27, v28] 60], c27, [bx b4 #[.i6 0, .i6 0] 24], [bx b3 #[nilS] 38], [bx b2 #[vq_1] 38]] fr w := S
            refine wl_storeC (wn rfl) rfl F S rfl rfl (vs := [nilS]) rfl ts38 (one_cons rfl one_nil) (k := 5) rfl (lb rfl) (c' := #[nilS]) rfl rfl ?_; clear S; intro w S
            refine wl_storeC (wn rfl) rfl F S rfl rfl (vs := [.i6 y22.Code, .i6 y22.Index]) rfl ts24 (one_cons rfl (one_cons rfl one_nil)) (k := 4) rfl (lb rfl) (c' := #[.i6 y22.Code, .i6 y22.Index]) rfl rfl ?_; clear S; intro w S
            refine wpList_nil ?_
            refine then_n ?_
            refine wp_ret ?_
            refine then_r ?_
            refine inb_r ?_
            refine then_r ?_
            refine then_r ?_
            refine inb_r ?_
            refine then_r ?_
            refine inb_r ?_
            refine then_r ?_
            refine then_r ?_
            refine inb_r ?_
            refine then_r ?_
            obtain rfl := sinj hm
            obtain rfl := hfin4 _ rfl
            clear hm
            have hm : (some (Step.done (Sum.inl (({ Hunks := [] } : Patch), y22))) : Option (Step (Int × Int × (List Item_changeforgeref1) × (List Item_changeforgeref1) × (List ByteArray)) ((Patch × Fault) ⊕ (Int × (List Item_changeforgeref1) × (List Item_changeforgeref1) × (List ByteArray))))) = some _ := hmo4
            obtain rfl := sinj hm
            obtain rfl := hfin2 _ rfl
            clear hm
            have hm : (some (({ Hunks := [] } : Patch), y22) : Option (Patch × Fault)) = some _ := hmo2
            obtain rfl := sinj hm
            refine post_r _ F rfl (ar_cons (resA rfl tu38 rfl (box_ptr (cells := [nilS]) 5 rfl 0 rfl (lb rfl) w S) ts38) (ar_cons (resA rfl tu24 rfl (box_ptr (cells := [.i6 y22.Code, .i6 y22.Index]) 4 rfl 0 rfl (lb rfl) w S) ts24) ar_nil)) ?_
            replace S : St g21 [] fr w := St.tail [] _ S
            exact ⟨_, rfl, g21, (nilS), ((((l1.trans l2).trans l12).trans l19).trans l21), S, (RepSl.nil _), rfl⟩
           ·refine wp_condF F rfl hc10 ?_
            refine wp_skip ?_
            refine then_n ?_
            refine wp_seq ?_
            refine wp_region_lit ?_
            refine wE (ev_fieldAddr' tu82 tf82_0 (z := 0) ts3 rfl ⟨_, rfl⟩ rfl) F S rfl fun a F=>?_
            refine wE (ev_load1 tu3 rfl rfl (box_ptr (cells := [.i6 y20.Old]) 0 rfl 0 rfl (lb rfl))) F S rfl fun a F=>?_
            refine wE (ev_int rfl rfl (bo_geq _ _ _ _)) F S rfl fun a F=>?_
            refine wpList_nil ?_
            refine then_n ?_
            obtain ⟨hc11, hm⟩ | ⟨hc11, hm⟩ := ite_or hm
            ·refine wp_condT F rfl hc11 ?_
             refine wp_dv [] mo S ?_; clear S; intro ok3 w S
             refine dv_et ok3 0 rfl (ev_move rfl) F rfl fun a F=>?_
             refine dv_et ok3 1 rfl (ev_fieldAddr' tu82 tf82_0 (z := 0) ts3 rfl ⟨_, rfl⟩ rfl) F rfl fun a F=>?_
             refine dv_ev ok3 2 rfl (ev_load1 tu3 rfl rfl (box_ptr (cells := [.i6 y20.Old]) 0 rfl 0 rfl (lb rfl))) F S rfl fun a F=>?_
             refine dv_et ok3 3 rfl (ev_fieldAddr' tu60 tf60_1 (z := 0) ts31 rfl ⟨_, rfl⟩ rfl) F rfl fun a F=>?_
             refine dv_ev ok3 4 rfl (ev_load1 tu31 rfl rfl (box_ptr (cells := [v27]) 2 rfl 1 rfl (lb rfl))) F S rfl fun a F=>?_
             refine dv_et ok3 5 rfl (ev_move rfl) F rfl fun a F=>?_
             obtain ⟨y23, hy23, hm⟩ := bind_some hm
             obtain ⟨cs15, hr19, hp5⟩ := elemS (h31.mono l19) hy23
             obtain rfl := rep_str hr19
             refine dv_et ok3 6 rfl (ev_idxS (h31.mono l19) hy23 tu31 ts9 rfl rfl) F rfl fun a F=>?_
             refine dv_ev ok3 7 rfl (ev_load1 tu9 rfl rfl (ptr_mono (cks := [[bx b8 #[.i6 y20.Old, .string y20.Text] 82], c21, [bx b7 #[.i6 y14.At, v27, v28] 60], c27, [bx b4 #[.i6 0, .i6 0] 24], [bx b3 #[nilS] 38], [bx b2 #[vq_1] 38]]) (fr := fr) hp5 (Le.refl _))) F S rfl fun a F=>?_
             obtain ⟨y24, hy24, hm⟩ := bind_some hm
             refine dv_et ok3 8 rfl (ev_idxO h40 hy24 tu31 ts9 rfl rfl) F rfl fun a F=>?_
             refine dv_op ok3 9 rfl [] ?_
             obtain ⟨y25, hy25, hm⟩ := bind_some hm
             refine wl_storeW (z' := y23) (wn rfl) rfl F S h40 hy24 rfl rfl (us := [.string y23]) rfl ts9 (one_cons rfl one_nil) (k := 3) rfl rfl (show Rep.rep _ y23 _ from rfl) rfl ?_; clear S
             rintro c29 w h42 S; replace S : St g19 [[bx b8 #[.i6 y20.Old, .string y20.Text] 82], c21, [bx b7 #[.i6 y14.At, v27, v28] 60], c29, [bx b4 #[.i6 0, .i6 0] 24], [bx b3 #[nilS] 38], [bx b2 #[vq_1] 38]] fr w := S; replace h42 : OwnS g19 y25 v36 c29 := sinj hy25 ▸ h42
             replace F := F.sub (e' := [(163, .string y23), (162, (elemP v27 x33 1)), (161, .i6 x33), (160, v27), (159, bp b7 1), (158, .i6 y20.Old), (157, bp b8 0), (156, v36), (155, .bool (decide (y20.Old ≥ 0))), (154, .i6 y20.Old), (153, bp b8 0), (148, .bool x37), (19, bp b8 0), (18, .i6 x33), (14, v30), (17, bp b7 0), (16, .i6 x19), (8, v23), (7, v36), (5, bp b4 0), (4, bp b3 0), (3, bp b2 0)]) ⟨rfl, rfl, rfl, rfl, rfl, rfl, rfl, rfl, rfl, rfl, rfl, rfl, rfl, rfl, rfl, rfl, rfl, rfl, rfl, rfl, rfl, rfl, trivial⟩
             refine dv_nx trivial ?_
             refine dv_fin ok3 ?_
             refine inb_n ?_
             refine then_n ?_
             replace S : St g19 [c21, [bx b7 #[.i6 y14.At, v27, v28] 60], c29, [bx b4 #[.i6 0, .i6 0] 24], [bx b3 #[nilS] 38], [bx b2 #[vq_1] 38]] fr w := St.tail [c21, [bx b7 #[.i6 y14.At, v27, v28] 60], c29, [bx b4 #[.i6 0, .i6 0] 24], [bx b3 #[nilS] 38], [bx b2 #[vq_1] 38]] _ ((((((S.frontC 6 rfl).frontC 6 rfl).frontC 6 rfl).frontC 6 rfl).frontC 6 rfl).frontC 6 rfl)
             exact ⟨y25, v36, c29, g19, F.sub ⟨rfl, rfl, rfl, rfl, rfl, rfl, rfl, rfl, rfl, trivial⟩, (Le.refl _), S, h42, hm⟩
            ·refine wp_condF F rfl hc11 ?_
             refine wp_skip ?_
             refine inb_n ?_
             refine then_n ?_
             replace S : St g19 [c21, [bx b7 #[.i6 y14.At, v27, v28] 60], c27, [bx b4 #[.i6 0, .i6 0] 24], [bx b3 #[nilS] 38], [bx b2 #[vq_1] 38]] fr w := St.tail [c21, [bx b7 #[.i6 y14.At, v27, v28] 60], c27, [bx b4 #[.i6 0, .i6 0] 24], [bx b3 #[nilS] 38], [bx b2 #[vq_1] 38]] _ ((((((S.frontC 6 rfl).frontC 6 rfl).frontC 6 rfl).frontC 6 rfl).frontC 6 rfl).frontC 6 rfl)
             exact ⟨x34, v36, c27, g19, F.sub ⟨rfl, rfl, rfl, rfl, rfl, rfl, rfl, rfl, rfl, trivial⟩, (Le.refl _), S, h40, hm⟩
          ·clear F S hm; rintro a w ⟨x36, v37, c28, g20, F, l20, S, h41, hm⟩
           refine wp_region_lit ?_
           refine wE (ev_move rfl) F S rfl fun a F=>?_
           obtain ⟨z5, hz5, hm⟩ := bind_some hm
           refine wE (ev_int rfl rfl (bo_add hz5)) F S rfl fun a F=>?_
           refine wE (ev_assign rfl) F S rfl fun a F=>?_
           refine wpList_nil ?_
           refine then_n ?_
           obtain rfl := sinj hm
           refine ⟨_, rfl, ?_⟩
           dsimp only
           exact ⟨v37, c28, g20, F.sub ⟨rfl, rfl, rfl, rfl, rfl, rfl, rfl, rfl, rfl, trivial⟩, (l19.trans l20), S, h41⟩
         ·refine wp_condF F rfl hc8 ?_
          refine wp_exit ?_
          refine then_e ?_
          refine then_e ?_
          refine inb_x ?_
          refine then_n ?_
          obtain rfl := sinj hm
          obtain rfl := hfin4 _ rfl
          clear hm
          have hm : (changeforgeref1_Compose.j7 x19 x22 y14 y16 x34 : Option (Step (Int × Int × (List Item_changeforgeref1) × (List Item_changeforgeref1) × (List ByteArray)) ((Patch × Fault) ⊕ (Int × (List Item_changeforgeref1) × (List Item_changeforgeref1) × (List ByteArray))))) = some _ := hmo4
          exact ⟨x34, v36, c27, g19, F.sub ⟨rfl, rfl, rfl, rfl, rfl, rfl, rfl, rfl, trivial⟩, l19, S, h40, hm⟩
       ·clear F S hm; rintro a w ⟨x28, v31, c22, g15, F, l15, S, h35, hm⟩
        refine wp_cut (fun a w => ∃ (x29 : List Item_changeforgeref1) (v32 : Value) (c23 : Hl) (g16 : Gh), Fr 246 a [(14, v32), (17, bp b7 0), (16, .i6 x19), (8, v23), (7, v31), (5, bp b4 0), (4, bp b3 0), (3, bp b2 0)] ∧ Le g15 g16 ∧ St g16 [c23, [bx b7 #[.i6 y14.At, v27, v28] 60], c22, [bx b4 #[.i6 0, .i6 0] 24], [bx b3 #[nilS] 38], [bx b2 #[vq_1] 38]] fr w ∧ OwnS g16 x29 v32 c23 ∧ changeforgeref1_Compose.j8 x19 x22 y14 x28 x29 = some x24) ?_ ?_
        ·refine wp_seq ?_
         refine wp_region_lit ?_
         refine wE (ev_assign rfl) F S rfl fun a F=>?_
         refine wpList_nil ?_
         refine then_n ?_
         refine wp_block ?_
         obtain ⟨r3, hr13, hm⟩ := bind_some hm
         have hmo3 := hm; clear hm
         refine wp_iter (σ := Int × (List Item_changeforgeref1)) (ρ := (List Item_changeforgeref1)) (m := fun s => changeforgeref1_Compose.l3 y14 s.1 s.2) (I := fun s a w => match s with | (x30, x31) => ∃ (v33 : Value) (c24 : Hl) (g18 : Gh), Fr 246 a [(20, .i6 x30), (14, v33), (17, bp b7 0), (16, .i6 x19), (8, v23), (7, v31), (5, bp b4 0), (4, bp b3 0), (3, bp b2 0)] ∧ Le g15 g18 ∧ St g18 [c24, [bx b7 #[.i6 y14.At, v27, v28] 60], c22, [bx b4 #[.i6 0, .i6 0] 24], [bx b3 #[nilS] 38], [bx b2 #[vq_1] 38]] fr w ∧ OwnS g18 x31 v33 c24) hr13 ?_ ?_
         ·dsimp only
          exact ⟨v30, c21, g15, F.sub ⟨rfl, rfl, rfl, rfl, rfl, rfl, rfl, rfl, rfl, trivial⟩, (Le.refl _), S, (h34.mono l15)⟩
         ·clear F S; rintro ⟨x30, x31⟩ a w x32 ⟨v33, c24, g18, F, l18, S, h37⟩ hx4 hfin3
          have hm : changeforgeref1_Compose.l3 y14 x30 x31 = some x32 := hx4; clear hx4
          unfold changeforgeref1_Compose.l3 at hm
          refine wp_seq ?_
          refine wp_seq ?_
          refine wp_region_lit ?_
          refine wE (ev_move rfl) F S rfl fun a F=>?_
          refine wE (ev_fieldAddr' tu60 tf60_2 (z := 0) ts31 rfl ⟨_, rfl⟩ rfl) F S rfl fun a F=>?_
          refine wE (ev_load1 tu31 rfl rfl (box_ptr (cells := [v28]) 1 rfl 2 rfl (lb rfl))) F S rfl fun a F=>?_
          refine wE (ev_lenSh h32 rfl tu31) F S rfl fun a F=>?_
          refine wE (ev_int rfl rfl (bo_lss _ _ _ _)) F S rfl fun a F=>?_
          refine wpList_nil ?_
          refine then_n ?_
          obtain ⟨hc7, hm⟩ | ⟨hc7, hm⟩ := ite_or hm
          ·refine wp_condT F rfl hc7 ?_
           refine wp_skip ?_
           refine then_n ?_
           refine wp_seq ?_
           refine wp_block ?_
           refine wp_region_lit ?_
           refine wE (ev_move rfl) F S rfl fun a F=>?_
           refine wE (ev_fieldAddr' tu60 tf60_2 (z := 0) ts31 rfl ⟨_, rfl⟩ rfl) F S rfl fun a F=>?_
           refine wE (ev_load1 tu31 rfl rfl (box_ptr (cells := [v28]) 1 rfl 2 rfl (lb rfl))) F S rfl fun a F=>?_
           refine wE (ev_move rfl) F S rfl fun a F=>?_
           obtain ⟨y18, hy18, hm⟩ := bind_some hm
           obtain ⟨cs11, hr14, hp2⟩ := elemS (h32.mono (l15.trans l18)) hy18
           obtain rfl := rep_str hr14
           refine wE (ev_idxS (h32.mono (l15.trans l18)) hy18 tu31 ts9 rfl rfl) F S rfl fun a F=>?_
           refine wE (ev_load1 tu9 rfl rfl (ptr_mono (cks := [c24, [bx b7 #[.i6 y14.At, v27, v28] 60], c22, [bx b4 #[.i6 0, .i6 0] 24], [bx b3 #[nilS] 38], [bx b2 #[vq_1] 38]]) (fr := fr) hp2 (Le.refl _))) F S rfl fun a F=>?_
           refine wE (ev_build (parts := [(0, .const (.i6 (-1))), (1, .tmp 177)]) (vs := [(0, .i6 (-1)), (1, .string y18)]) rfl (fun w => tb82_0_1 (-1) y18 w)) F S rfl fun a F=>?_
           refine wl_lit (l := ([({ Old := (-1), Text := y18 } : Item_changeforgeref1)] : List Item_changeforgeref1)) (vs := [.agg #[.i6 (-1), .string y18]]) (parts := [(0, .tmp 178)]) (wn rfl) rfl rfl rfl tu80 te82 (sz_cons rfl sz_nil) rfl (Cat.cons (rep_Item_changeforgeref1_mk (x := ({ Old := (-1), Text := y18 } : Item_changeforgeref1)) ) (Cat.nil _)) (coa_cons rfl coa_nil) rfl F S rfl rfl ?_; clear F a S
           rintro v34 c25 a w h38 F S
           obtain ⟨cs12, hk5, hr15⟩ := OwnS.reads h38
           obtain ⟨y19, hy19, hm⟩ := bind_some hm
           refine wl_append (wn rfl) rfl tu80 tu80 te82 (by decide) (by decide) F S rfl rfl (k := 1) rfl h37 hk5 rfl (hr15 _ _ _ 0 rfl S) hy19 rfl rfl ?_; clear F a S
           rintro v35 c26 a w h39 S F; replace S : St g18 [c25, c26, [bx b7 #[.i6 y14.At, v27, v28] 60], c22, [bx b4 #[.i6 0, .i6 0] 24], [bx b3 #[nilS] 38], [bx b2 #[vq_1] 38]] fr w := S
           refine wE (ev_assign rfl) F S rfl fun a F=>?_
           refine wpList_nil ?_
           refine inb_n ?_
           refine then_n ?_
           refine wp_region_lit ?_
           refine wE (ev_move rfl) F S rfl fun a F=>?_
           obtain ⟨z4, hz4, hm⟩ := bind_some hm
           refine wE (ev_int rfl rfl (bo_add hz4)) F S rfl fun a F=>?_
           refine wE (ev_assign rfl) F S rfl fun a F=>?_
           refine wpList_nil ?_
           refine then_n ?_
           obtain rfl := sinj hm
           refine ⟨_, rfl, ?_⟩
           dsimp only
           replace S : St g18 [c26, [bx b7 #[.i6 y14.At, v27, v28] 60], c22, [bx b4 #[.i6 0, .i6 0] 24], [bx b3 #[nilS] 38], [bx b2 #[vq_1] 38]] fr w := St.tail [c26, [bx b7 #[.i6 y14.At, v27, v28] 60], c22, [bx b4 #[.i6 0, .i6 0] 24], [bx b3 #[nilS] 38], [bx b2 #[vq_1] 38]] _ ((((((S.frontC 6 rfl).frontC 6 rfl).frontC 6 rfl).frontC 6 rfl).frontC 6 rfl).frontC 6 rfl)
           exact ⟨v35, c26, g18, F.sub ⟨rfl, rfl, rfl, rfl, rfl, rfl, rfl, rfl, rfl, trivial⟩, l18, S, h39⟩
          ·refine wp_condF F rfl hc7 ?_
           refine wp_exit ?_
           refine then_e ?_
           refine then_e ?_
           refine inb_x ?_
           refine then_n ?_
           obtain rfl := sinj hm
           obtain rfl := hfin3 _ rfl
           clear hm
           have hm : (changeforgeref1_Compose.j8 x19 x22 y14 x28 x31 : Option (Step (Int × Int × (List Item_changeforgeref1) × (List Item_changeforgeref1) × (List ByteArray)) ((Patch × Fault) ⊕ (Int × (List Item_changeforgeref1) × (List Item_changeforgeref1) × (List ByteArray))))) = some _ := hmo3
           exact ⟨x31, v33, c24, g18, F.sub ⟨rfl, rfl, rfl, rfl, rfl, rfl, rfl, rfl, trivial⟩, l18, S, h37, hm⟩
        ·clear F S hm; rintro a w ⟨x29, v32, c23, g16, F, l16, S, h36, hm⟩
         refine wp_region_lit ?_
         refine wE (ev_loadA tu60 rfl (cs := [.i6 y14.At, v27, v28]) ts60 rfl (box_ptr (cells := [.i6 y14.At, v27, v28]) 1 rfl 0 rfl (lb rfl))) F S rfl fun a F=>?_
         obtain ⟨y17, hy17, hm⟩ := bind_some hm
         refine wl_call0 (wn rfl) rfl F rfl (changeforgeref1_End_ok (fr := (fl [c23, [bx b7 #[.i6 y14.At, v27, v28] 60], c22, [bx b4 #[.i6 0, .i6 0] 24], [bx b3 #[nilS] 38], [bx b2 #[vq_1] 38]] fr)) y14 v27 (h31.mono (l15.trans l16)) v28 (h32.mono (l15.trans l16)) S hy17) rfl tc57 rfl rfl ?_; clear F a S
         rintro _ a w ⟨g17, l17, S, rfl⟩ F; replace S : St g17 [c23, [bx b7 #[.i6 y14.At, v27, v28] 60], c22, [bx b4 #[.i6 0, .i6 0] 24], [bx b3 #[nilS] 38], [bx b2 #[vq_1] 38]] fr w := S
         refine wE (ev_assign rfl) F S rfl fun a F=>?_
         refine wpList_nil ?_
         refine inb_n ?_
         refine then_n ?_
         replace S : St g17 [c23, c22, [bx b4 #[.i6 0, .i6 0] 24], [bx b3 #[nilS] 38], [bx b2 #[vq_1] 38]] fr w := St.tail [c23, c22, [bx b4 #[.i6 0, .i6 0] 24], [bx b3 #[nilS] 38], [bx b2 #[vq_1] 38]] _ (((((S.frontC 5 rfl).frontC 5 rfl).frontC 5 rfl).frontC 5 rfl).frontC 4 rfl)
         exact ⟨y17, x29, x28, v32, v31, c23, c22, g17, F.sub ⟨rfl, rfl, rfl, rfl, rfl, rfl, rfl, rfl, trivial⟩, ((l15.trans l16).trans l17), S, (h36.mono l17), (h35.mono (l16.trans l17)), hm⟩
      ·clear F S hm; rintro a w ⟨x25, x26, x27, v25, v26, c19, c20, g14, F, l14, S, h29, h30, hm⟩
       refine wp_region_lit ?_
       refine wE (ev_move rfl) F S rfl fun a F=>?_
       obtain ⟨z3, hz3, hm⟩ := bind_some hm
       refine wE (ev_int rfl rfl (bo_add hz3)) F S rfl fun a F=>?_
       refine wE (ev_assign rfl) F S rfl fun a F=>?_
       refine wpList_nil ?_
       refine then_n ?_
       obtain rfl := sinj hm
       refine ⟨_, rfl, ?_⟩
       dsimp only
       exact ⟨v25, v23, v26, c19, c20, g14, F.sub ⟨rfl, rfl, rfl, rfl, rfl, rfl, rfl, rfl, trivial⟩, (l12.trans l14), S, h29, (h26.mono l14), h30⟩
     ·refine wp_condF F rfl hc6 ?_
      refine wp_exit ?_
      refine then_e ?_
      refine then_e ?_
      refine inb_x ?_
      refine then_n ?_
      obtain rfl := sinj hm
      obtain rfl := hfin2 _ rfl
      clear hm
      have hm : (changeforgeref1_Compose.j2 x20 x21 x22 x23 : Option (Patch × Fault)) = some _ := hmo2
      replace S : St g12 [c17, c18, [bx b4 #[.i6 0, .i6 0] 24], [bx b3 #[nilS] 38]] fr w := St.tail [c17, c18, [bx b4 #[.i6 0, .i6 0] 24], [bx b3 #[nilS] 38]] _ ((((S.frontC 3 rfl).frontC 3 rfl).frontC 3 rfl).frontC 3 rfl)
      exact ⟨x20, x21, x22, x23, v22, v23, v24, c17, c18, g12, F.sub ⟨rfl, rfl, rfl, rfl, rfl, rfl, trivial⟩, l12, S, h25, h26, h27, hm⟩
   ·clear F S hm; rintro a w ⟨x3, x4, x5, x6, v4, v5, v6, c4, c5, g3, F, l3, S, h4, h5, h6, hm⟩
    refine wp_seq ?_
    refine wp_region_lit ?_
    refine wE (ev_move rfl) F S rfl fun a F=>?_
    refine wE (ev_move rfl) F S rfl fun a F=>?_
    refine wE (ev_move rfl) F S rfl fun a F=>?_
    obtain ⟨y3, hy3, hm⟩ := bind_some hm
    refine wl_cutS (wn rfl) rfl h5 hy3 tu80 ts82 rfl (bndV rfl) (bnd0 _) F rfl rfl ?_; clear F a; rintro v7 h7 a F
    obtain ⟨cs1, hk1, hr1⟩ := RepSl.reads h7
    obtain ⟨y4, hy4, hm⟩ := bind_some hm
    refine wl_append (wn rfl) rfl tu80 tu80 te82 (by decide) (by decide) F S rfl rfl (k := 0) rfl h4 hk1 rfl (hr1 _ _ S) hy4 rfl rfl ?_; clear F a S
    rintro v8 c6 a w h8 S F; replace S : St g3 [c6, c5, [bx b4 #[.i6 0, .i6 0] 24], [bx b3 #[nilS] 38]] fr w := S
    refine wE (ev_assign rfl) F S rfl fun a F=>?_
    refine wpList_nil ?_
    refine then_n ?_
    refine wp_seq ?_
    refine wp_region_lit ?_
    refine wl_alloc (wn rfl) rfl tz38 (cs := [nilS]) rfl F S rfl rfl ?_; clear F a S; rintro b6 a w F S
    refine wpList_nil ?_
    refine then_n ?_
    refine wp_seq ?_
    refine wp_region_lit ?_
    refine wE (ev_assign rfl) F S rfl fun a F=>?_
    refine wpList_nil ?_
    refine then_n ?_
    refine wp_seq ?_
    refine wp_region_lit ?_
    refine wE (ev_assign rfl) F S rfl fun a F=>?_
    refine wpList_nil ?_
    refine then_n ?_
    refine wp_cut (fun a w => ∃ (x7 : List Hunk) (v9 : Value) (c7 : Hl) (g4 : Gh), Fr 246 a [(21, bp b6 0), (5, bp b4 0), (4, bp b3 0)] ∧ Le g3 g4 ∧ St g4 [[bx b6 #[v9] 38], [bx b4 #[.i6 0, .i6 0] 24], [bx b3 #[nilS] 38], c7] fr w ∧ OwnS g4 x7 v9 c7 ∧ changeforgeref1_Compose.j3 x7 = some r) ?_ ?_
    ·refine wp_seq ?_
     refine wp_region_lit ?_
     refine wE (ev_assign rfl) F S rfl fun a F=>?_
     refine wpList_nil ?_
     refine then_n ?_
     refine wp_block ?_
     obtain ⟨r1, hr2, hm⟩ := bind_some hm
     have hmo1 := hm; clear hm
     refine wp_iter (σ := Int × (List ByteArray) × Int × (List ByteArray) × (List Hunk)) (ρ := (List Hunk)) (m := fun s => changeforgeref1_Compose.l1 y4 s.1 s.2.1 s.2.2.1 s.2.2.2.1 s.2.2.2.2) (I := fun s a w => match s with | (x8, x9, x10, x11, x12) => ∃ (v11 v12 v13 : Value) (c8 c9 : Hl) (g7 : Gh), Fr 246 a [(24, .i6 x8), (23, v11), (22, .i6 x10), (21, bp b6 0), (14, v8), (7, v12), (5, bp b4 0), (4, bp b3 0)] ∧ Le g3 g7 ∧ St g7 [c8, [bx b6 #[v13] 38], c6, [bx b4 #[.i6 0, .i6 0] 24], [bx b3 #[nilS] 38], c9] fr w ∧ OwnS g7 x9 v11 c8 ∧ RepSl g7 x11 v12 ∧ OwnS g7 x12 v13 c9) hr2 ?_ ?_
     ·dsimp only
      obtain ⟨g8, l8, S, h15⟩ : ∃ gz, Le g3 gz ∧ St gz [[bx b6 #[nilS] 38], c6, [bx b4 #[.i6 0, .i6 0] 24], [bx b3 #[nilS] 38]] fr w ∧ RepSl gz x6 v6 := ⟨_, Le.add _ _, S.freeze 2 rfl, OwnS.freeze (S.front 2 rfl) h6⟩
      replace S : St g8 [[], [bx b6 #[nilS] 38], c6, [bx b4 #[.i6 0, .i6 0] 24], [bx b3 #[nilS] 38]] fr w := S
      replace S : St g8 [[], [], [bx b6 #[nilS] 38], c6, [bx b4 #[.i6 0, .i6 0] 24], [bx b3 #[nilS] 38]] fr w := S
      replace S : St g8 [[], [bx b6 #[nilS] 38], c6, [bx b4 #[.i6 0, .i6 0] 24], [bx b3 #[nilS] 38], []] fr w := St.tail [[], [bx b6 #[nilS] 38], c6, [bx b4 #[.i6 0, .i6 0] 24], [bx b3 #[nilS] 38], []] _ ((((((S.frontC 0 rfl).frontC 6 rfl).frontC 6 rfl).frontC 6 rfl).frontC 6 rfl).frontC 6 rfl)
      exact ⟨(nilS), v6, (nilS), [], [], g8, F.sub ⟨rfl, rfl, rfl, rfl, rfl, rfl, rfl, rfl, trivial⟩, l8, S, (OwnS.nil _), h15, (OwnS.nil _)⟩
     ·clear F S; rintro ⟨x8, x9, x10, x11, x12⟩ a w x13 ⟨v11, v12, v13, c8, c9, g7, F, l7, S, h12, h13, h14⟩ hx1 hfin1
      have hm : changeforgeref1_Compose.l1 y4 x8 x9 x10 x11 x12 = some x13 := hx1; clear hx1
      unfold changeforgeref1_Compose.l1 at hm
      refine wp_seq ?_
      refine wp_seq ?_
      refine wp_region_lit ?_
      refine wE (ev_move rfl) F S rfl fun a F=>?_
      refine wE (ev_move rfl) F S rfl fun a F=>?_
      refine wE (ev_lenOw h8 rfl tu80) F S rfl fun a F=>?_
      refine wE (ev_int rfl rfl (bo_lss _ _ _ _)) F S rfl fun a F=>?_
      refine wpList_nil ?_
      refine then_n ?_
      obtain ⟨hc2, hm⟩ | ⟨hc2, hm⟩ := ite_or hm
      ·refine wp_condT F rfl hc2 ?_
       refine wp_skip ?_
       refine then_n ?_
       refine wp_cut (fun a w => ∃ (x14 : List ByteArray) (x15 : Int) (x16 : List Hunk) (v14 v15 : Value) (c10 c11 : Hl) (g9 : Gh), Fr 246 a [(23, v14), (24, .i6 x8), (22, .i6 x15), (21, bp b6 0), (14, v8), (7, v12), (5, bp b4 0), (4, bp b3 0)] ∧ Le g7 g9 ∧ St g9 [c10, [bx b6 #[v15] 38], c6, [bx b4 #[.i6 0, .i6 0] 24], [bx b3 #[nilS] 38], c11] fr w ∧ OwnS g9 x14 v14 c10 ∧ OwnS g9 x16 v15 c11 ∧ changeforgeref1_Compose.j4 x8 x11 x14 x15 x16 = some x13) ?_ ?_
       ·refine wp_block ?_
        refine wp_seq ?_
        refine wp_seq ?_
        refine wp_region_lit ?_
        refine wE (ev_move rfl) F S rfl fun a F=>?_
        refine wE (ev_move rfl) F S rfl fun a F=>?_
        obtain ⟨y6, hy6, hm⟩ := bind_some hm
        refine wE (ev_idxO (h8.mono l7) hy6 tu80 ts82 rfl rfl) F S rfl fun a F=>?_
        refine wE (ev_fieldAddr' tu82 tf82_0 (z := 0) ts3 rfl (elemO_ptr (h8.mono l7) hy6) addP_zero) F S rfl fun a F=>?_
        obtain ⟨cs2, hr3, hq1⟩ := elemO (h8.mono l7) hy6
        obtain rfl := rep_Item_changeforgeref1 hr3
        refine wE (ev_load1 tu3 rfl rfl (fun w s => addP_zero ▸ fieldP (cells := [.i6 y6.Old]) 0 (hq1 _ _ 2 rfl w s) rfl (lb rfl))) F S rfl fun a F=>?_
        refine wE (ev_int rfl rfl (bo_lss _ _ _ _)) F S rfl fun a F=>?_
        refine wpList_nil ?_
        refine then_n ?_
        obtain ⟨hc3, hm⟩ | ⟨hc3, hm⟩ := ite_or hm
        ·refine wp_condT F rfl hc3 ?_
         refine wp_seq ?_
         refine wp_region_lit ?_
         refine wE (ev_move rfl) F S rfl fun a F=>?_
         refine wE (ev_move rfl) F S rfl fun a F=>?_
         refine wE (ev_move rfl) F S rfl fun a F=>?_
         obtain ⟨y7, hy7, hm⟩ := bind_some hm
         refine wE (ev_idxO (h8.mono l7) hy7 tu80 ts82 rfl rfl) F S rfl fun a F=>?_
         refine wE (ev_fieldAddr' tu82 tf82_1 (z := 0) ts9 rfl (elemO_ptr (h8.mono l7) hy7) rfl) F S rfl fun a F=>?_
         obtain ⟨cs3, hr4, hq2⟩ := elemO (h8.mono l7) hy7
         obtain rfl := rep_Item_changeforgeref1 hr4
         refine wE (ev_load1 tu9 rfl rfl (fun w s => fieldP (cells := [.string y7.Text]) 1 (hq2 _ _ 2 rfl w s) rfl (lb rfl))) F S rfl fun a F=>?_
         refine wl_lit (l := ([y7.Text] : List ByteArray)) (vs := [.string y7.Text]) (parts := [(0, .tmp 205)]) (wn rfl) rfl rfl rfl tu31 te9 (sz_cons rfl sz_nil) rfl (Cat.cons (show Rep.rep _ y7.Text _ from rfl) (Cat.nil _)) (coa_cons rfl coa_nil) rfl F S rfl rfl ?_; clear F a S
         rintro v16 c12 a w h18 F S
         obtain ⟨cs4, hk2, hr5⟩ := OwnS.reads h18
         obtain ⟨y8, hy8, hm⟩ := bind_some hm
         refine wl_append (wn rfl) rfl tu31 tu31 te9 (by decide) (by decide) F S rfl rfl (k := 1) rfl h12 hk2 rfl (hr5 _ _ _ 0 rfl S) hy8 rfl rfl ?_; clear F a S
         rintro v17 c13 a w h19 S F; replace S : St g7 [c12, c13, [bx b6 #[v13] 38], c6, [bx b4 #[.i6 0, .i6 0] 24], [bx b3 #[nilS] 38], c9] fr w := S
         refine wE (ev_assign rfl) F S rfl fun a F=>?_
         refine wpList_nil ?_
         refine then_n ?_
         refine wp_exit ?_
         refine then_e ?_
         refine inb_x ?_
         refine then_n ?_
         replace S : St g7 [c13, [bx b6 #[v13] 38], c6, [bx b4 #[.i6 0, .i6 0] 24], [bx b3 #[nilS] 38], c9] fr w := St.tail [c13, [bx b6 #[v13] 38], c6, [bx b4 #[.i6 0, .i6 0] 24], [bx b3 #[nilS] 38], c9] _ ((((((S.frontC 6 rfl).frontC 6 rfl).frontC 6 rfl).frontC 6 rfl).frontC 6 rfl).frontC 6 rfl)
         exact ⟨y8, x10, x12, v17, v13, c13, c9, g7, F.sub ⟨rfl, rfl, rfl, rfl, rfl, rfl, rfl, rfl, trivial⟩, (Le.refl _), S, h19, h14, hm⟩
        ·refine wp_condF F rfl hc3 ?_
         refine wp_skip ?_
         refine then_n ?_
         refine wp_cut (fun a w => ∃ (x17 : List Hunk) (v18 : Value) (c14 : Hl) (g10 : Gh), Fr 246 a [(24, .i6 x8), (21, bp b6 0), (14, v8), (7, v12), (5, bp b4 0), (4, bp b3 0)] ∧ Le g7 g10 ∧ St g10 [[bx b6 #[v18] 38], c6, [bx b4 #[.i6 0, .i6 0] 24], [bx b3 #[nilS] 38], c14] fr w ∧ OwnS g10 x17 v18 c14 ∧ changeforgeref1_Compose.j5 y4 x8 x11 x17 = some x13) ?_ ?_
         ·refine wp_seq ?_
          refine wp_region_lit ?_
          refine wE (ev_move rfl) F S rfl fun a F=>?_
          refine wE (ev_move rfl) F S rfl fun a F=>?_
          obtain ⟨y10, hy10, hm⟩ := bind_some hm
          refine wE (ev_idxO (h8.mono l7) hy10 tu80 ts82 rfl rfl) F S rfl fun a F=>?_
          refine wE (ev_fieldAddr' tu82 tf82_0 (z := 0) ts3 rfl (elemO_ptr (h8.mono l7) hy10) addP_zero) F S rfl fun a F=>?_
          obtain ⟨cs6, hr7, hq4⟩ := elemO (h8.mono l7) hy10
          obtain rfl := rep_Item_changeforgeref1 hr7
          refine wE (ev_load1 tu3 rfl rfl (fun w s => addP_zero ▸ fieldP (cells := [.i6 y10.Old]) 0 (hq4 _ _ 2 rfl w s) rfl (lb rfl))) F S rfl fun a F=>?_
          refine wE (ev_move rfl) F S rfl fun a F=>?_
          refine wE (ev_int rfl rfl (bo_gtr _ _ _ _)) F S rfl fun a F=>?_
          refine wE (ev_move rfl) F S rfl fun a F=>?_
          obtain ⟨x18, hx2, hm⟩ := bind_some hm
          refine wl_cut 4 (fun a w' => w = w' ∧ Fr 246 a [(219, .bool x18), (24, .i6 x8), (23, v11), (22, .i6 x10), (21, bp b6 0), (14, v8), (7, v12), (5, bp b4 0), (4, bp b3 0)]) ?_ ?_
          ·clear hm; obtain ⟨hc4, hm⟩ | ⟨hc4, hm⟩ := ite_or hx2
           ·refine wl_skip rfl rfl rfl rfl (ne_ft hc4) F rfl rfl ?_; clear F a; intro a F
            refine wl_skip rfl rfl rfl rfl (ne_ft hc4) F rfl rfl ?_; clear F a; intro a F
            refine wl_skip rfl rfl rfl rfl (ne_ft hc4) F rfl rfl ?_; clear F a; intro a F
            refine wE (ev_pickT rfl hc4 rfl) F S rfl fun a F=>?_
            obtain rfl := sinj hm
            refine wpList_nil (then_n ?_); exact ⟨rfl, F.sub ⟨rfl, rfl, rfl, rfl, rfl, rfl, rfl, rfl, rfl, trivial⟩⟩
           ·refine wl_ev (wg F rfl rfl rfl rfl hc4) (ev_move rfl) F S rfl rfl ?_; clear F a; intro a F
            refine wl_ev (wg F rfl rfl rfl rfl hc4) (ev_lenOw h12 rfl tu31) F S rfl rfl ?_; clear F a; intro a F
            refine wl_ev (wg F rfl rfl rfl rfl hc4) (ev_int rfl rfl (bo_gtr _ _ _ _)) F S rfl rfl ?_; clear F a; intro a F
            refine wE (ev_pickF rfl hc4 rfl) F S rfl fun a F=>?_
            obtain rfl := sinj hm
            refine wpList_nil (then_n ?_); exact ⟨rfl, F.sub ⟨rfl, rfl, rfl, rfl, rfl, rfl, rfl, rfl, rfl, trivial⟩⟩
          clear F; rintro a w' ⟨rfl, F⟩
          refine wpList_nil ?_
          refine then_n ?_
          obtain ⟨hc5, hm⟩ | ⟨hc5, hm⟩ := ite_or hm
          ·refine wp_condT F rfl hc5 ?_
           refine wp_dv [] mo S ?_; clear S; intro ok2 w S
           refine dv_et ok2 0 rfl (ev_fieldAddr' tu38 tf38_0 (z := 0) ts36 rfl ⟨_, rfl⟩ rfl) F rfl fun a F=>?_
           refine dv_ev ok2 1 rfl (ev_load1 tu36 rfl rfl (box_ptr (cells := [v13]) 1 rfl 0 rfl (lb rfl))) F S rfl fun a F=>?_
           refine dv_et ok2 2 rfl (ev_move rfl) F rfl fun a F=>?_
           refine dv_et ok2 3 rfl (ev_move rfl) F rfl fun a F=>?_
           refine dv_et ok2 4 rfl (ev_move rfl) F rfl fun a F=>?_
           refine dv_et ok2 5 rfl (ev_move rfl) F rfl fun a F=>?_
           refine dv_et ok2 6 rfl (ev_move rfl) F rfl fun a F=>?_
           obtain ⟨y11, hy11, hm⟩ := bind_some hm
           refine dv_et ok2 7 rfl (ev_idxO (h8.mono l7) hy11 tu80 ts82 rfl rfl) F rfl fun a F=>?_
           refine dv_et ok2 8 rfl (ev_fieldAddr' tu82 tf82_0 (z := 0) ts3 rfl (elemO_ptr (h8.mono l7) hy11) addP_zero) F rfl fun a F=>?_
           obtain ⟨cs7, hr8, hq5⟩ := elemO (h8.mono l7) hy11
           obtain rfl := rep_Item_changeforgeref1 hr8
           refine dv_ev ok2 9 rfl (ev_load1 tu3 rfl rfl (fun w s => addP_zero ▸ fieldP (cells := [.i6 y11.Old]) 0 (hq5 _ _ 2 rfl w s) rfl (lb rfl))) F S rfl fun a F=>?_
           obtain ⟨y12, hy12, hm⟩ := bind_some hm
           obtain ⟨v19, h21, he1⟩ := ev_cut (P := Try.prog) (n := 246) (e := [(229, .i6 y11.Old), (228, elemP v8 x8 2), (227, elemP v8 x8 2), (226, .i6 x8), (225, v8), (224, .i6 x10), (223, v12), (222, .i6 x10), (221, v13), (220, bp b6 0), (219, .bool x18), (24, .i6 x8), (23, v11), (22, .i6 x10), (21, bp b6 0), (14, v8), (7, v12), (5, bp b4 0), (4, bp b3 0)]) (C := fun _ => True) (x := .tmp 223) (lo := some (.tmp 224)) (hi := some (.tmp 229)) h13 hy12 tu31 ts9 rfl (bndV rfl) (bndV rfl)
           refine dv_et ok2 10 rfl he1 F rfl fun a F=>?_
           refine dv_et ok2 11 rfl (ev_move rfl) F rfl fun a F=>?_
           refine dv_et ok2 12 rfl (ev_build (parts := [(0, .tmp 222), (1, .tmp 230), (2, .tmp 231)]) (vs := [(0, .i6 x10), (1, v19), (2, v11)]) rfl (fun w => tb60_0_1_2 x10 v19 (RepSl.isSl h21) v11 (OwnS.isSl h12) w)) F rfl fun a F=>?_
           refine dv_op ok2 13 rfl [(1, v13)] ?_
           obtain ⟨g11, l11, S, h22⟩ : ∃ gz, Le g7 gz ∧ St gz [[bx b6 #[v13] 38], c6, [bx b4 #[.i6 0, .i6 0] 24], [bx b3 #[nilS] 38], c9] fr w ∧ RepSl gz x9 v11 := ⟨_, Le.add _ _, S.freeze 0 rfl, OwnS.freeze (S.front 0 rfl) h12⟩
           refine wl_lit (l := ([({ At := x10, Old := y12, New := x9 } : Hunk)] : List Hunk)) (vs := [.agg #[.i6 x10, v19, v11]]) (parts := [(0, .tmp 232)]) (wn rfl) rfl rfl rfl tu36 te60 (sz_cons rfl sz_nil) rfl (Cat.cons (rep_Hunk_mk (x := ({ At := x10, Old := y12, New := x9 } : Hunk)) (h21.mono l11) h22) (Cat.nil _)) (coa_cons rfl coa_nil) rfl F S rfl rfl ?_; clear F a S
           rintro v20 c15 a w h23 F S
           refine dv_nx ⟨yl_ev rfl rfl (ev_load1 tu36 rfl rfl (box_ptr (cells := [v13]) 1 rfl 0 rfl (lb rfl))) F S, trivial⟩ ?_
           refine dv_op ok2 14 rfl [] ?_
           obtain ⟨cs8, hk3, hr9⟩ := OwnS.reads h23
           obtain ⟨y13, hy13, hm⟩ := bind_some hm
           refine wl_append (wn rfl) rfl tu36 tu36 te60 (by decide) (by decide) F S rfl rfl (k := 5) rfl (h14.mono l11) hk3 rfl (hr9 _ _ _ 0 rfl S) hy13 rfl rfl ?_; clear F a S
           rintro v21 c16 a w h24 S F; replace S : St g11 [c15, [bx b6 #[v13] 38], c6, [bx b4 #[.i6 0, .i6 0] 24], [bx b3 #[nilS] 38], c16] fr w := S
           refine dv_nx trivial ?_
           refine dv_et ok2 15 rfl (ev_fieldAddr' tu38 tf38_0 (z := 0) ts36 rfl ⟨_, rfl⟩ rfl) F rfl fun a F=>?_
           refine dv_op ok2 16 rfl [] ?_
           refine wl_storeC (wn rfl) rfl F S rfl rfl (vs := [v21]) (OwnS.cl h24) ts36 (one_cons (OwnS.one h24) one_nil) (k := 1) rfl (lb rfl) (c' := #[v21]) rfl rfl ?_; clear S; intro w S
           refine dv_nx trivial ?_
           refine dv_fin ok2 ?_
           refine then_n ?_
           replace S : St g11 [[bx b6 #[v21] 38], c6, [bx b4 #[.i6 0, .i6 0] 24], [bx b3 #[nilS] 38], c16] fr w := St.tail [[bx b6 #[v21] 38], c6, [bx b4 #[.i6 0, .i6 0] 24], [bx b3 #[nilS] 38], c16] _ (((((S.frontC 5 rfl).frontC 5 rfl).frontC 5 rfl).frontC 5 rfl).frontC 5 rfl)
           exact ⟨y13, v21, c16, g11, F.sub ⟨rfl, rfl, rfl, rfl, rfl, rfl, trivial⟩, l11, S, h24, hm⟩
          ·refine wp_condF F rfl hc5 ?_
           refine wp_skip ?_
           refine then_n ?_
           replace S : St g7 [[bx b6 #[v13] 38], c6, [bx b4 #[.i6 0, .i6 0] 24], [bx b3 #[nilS] 38], c9] fr w := St.tail [[bx b6 #[v13] 38], c6, [bx b4 #[.i6 0, .i6 0] 24], [bx b3 #[nilS] 38], c9] _ (((((S.frontC 5 rfl).frontC 5 rfl).frontC 5 rfl).frontC 5 rfl).frontC 5 rfl)
           exact ⟨x12, v13, c9, g7, F.sub ⟨rfl, rfl, rfl, rfl, rfl, rfl, trivial⟩, (Le.refl _), S, h14, hm⟩
         ·clear F S hm; rintro a w ⟨x17, v18, c14, g10, F, l10, S, h20, hm⟩
          refine wp_seq ?_
          refine wp_region_lit ?_
          refine wE (ev_move rfl) F S rfl fun a F=>?_
          refine wE (ev_move rfl) F S rfl fun a F=>?_
          obtain ⟨y9, hy9, hm⟩ := bind_some hm
          refine wE (ev_idxO (h8.mono (l7.trans l10)) hy9 tu80 ts82 rfl rfl) F S rfl fun a F=>?_
          refine wE (ev_fieldAddr' tu82 tf82_0 (z := 0) ts3 rfl (elemO_ptr (h8.mono (l7.trans l10)) hy9) addP_zero) F S rfl fun a F=>?_
          obtain ⟨cs5, hr6, hq3⟩ := elemO (h8.mono (l7.trans l10)) hy9
          obtain rfl := rep_Item_changeforgeref1 hr6
          refine wE (ev_load1 tu3 rfl rfl (fun w s => addP_zero ▸ fieldP (cells := [.i6 y9.Old]) 0 (hq3 _ _ 1 rfl w s) rfl (lb rfl))) F S rfl fun a F=>?_
          obtain ⟨z2, hz2, hm⟩ := bind_some hm
          refine wE (ev_int rfl rfl (bo_add hz2)) F S rfl fun a F=>?_
          refine wE (ev_assign rfl) F S rfl fun a F=>?_
          refine wpList_nil ?_
          refine then_n ?_
          refine wp_region_lit ?_
          refine wE (ev_assign rfl) F S rfl fun a F=>?_
          refine wpList_nil ?_
          refine inb_n ?_
          refine then_n ?_
          replace S : St g10 [[], [bx b6 #[v18] 38], c6, [bx b4 #[.i6 0, .i6 0] 24], [bx b3 #[nilS] 38], c14] fr w := S
          exact ⟨[], z2, x17, (nilS), v18, [], c14, g10, F.sub ⟨rfl, rfl, rfl, rfl, rfl, rfl, rfl, rfl, trivial⟩, l10, S, (OwnS.nil _), h20, hm⟩
       ·clear F S hm; rintro a w ⟨x14, x15, x16, v14, v15, c10, c11, g9, F, l9, S, h16, h17, hm⟩
        refine wp_region_lit ?_
        refine wE (ev_move rfl) F S rfl fun a F=>?_
        obtain ⟨z1, hz1, hm⟩ := bind_some hm
        refine wE (ev_int rfl rfl (bo_add hz1)) F S rfl fun a F=>?_
        refine wE (ev_assign rfl) F S rfl fun a F=>?_
        refine wpList_nil ?_
        refine then_n ?_
        obtain rfl := sinj hm
        refine ⟨_, rfl, ?_⟩
        dsimp only
        exact ⟨v14, v12, v15, c10, c11, g9, F.sub ⟨rfl, rfl, rfl, rfl, rfl, rfl, rfl, rfl, trivial⟩, (l7.trans l9), S, h16, (h13.mono l9), h17⟩
      ·refine wp_condF F rfl hc2 ?_
       refine wp_exit ?_
       refine then_e ?_
       refine then_e ?_
       refine inb_x ?_
       refine then_n ?_
       obtain rfl := sinj hm
       obtain rfl := hfin1 _ rfl
       clear hm
       have hm : (changeforgeref1_Compose.j3 x12 : Option (Patch × Fault)) = some _ := hmo1
       replace S : St g7 [[bx b6 #[v13] 38], [bx b4 #[.i6 0, .i6 0] 24], [bx b3 #[nilS] 38], c9] fr w := St.tail [[bx b6 #[v13] 38], [bx b4 #[.i6 0, .i6 0] 24], [bx b3 #[nilS] 38], c9] _ ((((S.frontC 5 rfl).frontC 5 rfl).frontC 5 rfl).frontC 4 rfl)
       exact ⟨x12, v13, c9, g7, F.sub ⟨rfl, rfl, rfl, trivial⟩, l7, S, h14, hm⟩
    ·clear F S hm; rintro a w ⟨x7, v9, c7, g4, F, l4, S, h9, hm⟩
     refine wp_seq ?_
     refine wp_region_lit ?_
     refine wE (ev_loadA tu38 rfl (cs := [v9]) ts38 rfl (box_ptr (cells := [v9]) 0 rfl 0 rfl (lb rfl))) F S rfl fun a F=>?_
     obtain ⟨g5, l5, S, h10⟩ : ∃ gz, Le g4 gz ∧ St gz [[bx b6 #[v9] 38], [bx b4 #[.i6 0, .i6 0] 24], [bx b3 #[nilS] 38]] fr w ∧ RepSl gz x7 v9 := ⟨_, Le.add _ _, S.freeze 3 rfl, OwnS.freeze (S.front 3 rfl) h9⟩
     obtain ⟨y5, hy5, hm⟩ := bind_some hm
     refine wl_call0 (wn rfl) rfl F rfl (changeforgeref1_fits_ok (fr := (fl [[bx b6 #[v9] 38], [bx b4 #[.i6 0, .i6 0] 24], [bx b3 #[nilS] 38]] fr)) ({ Hunks := x7 } : Patch) v9 h10 S hy5) rfl tc61 rfl rfl ?_; clear F a S
     rintro _ a w ⟨g6, v10, l6, S, h11, rfl⟩ F; replace S : St g6 [[bx b6 #[v9] 38], [bx b4 #[.i6 0, .i6 0] 24], [bx b3 #[nilS] 38]] fr w := S
     refine wE (ev_extract rfl rfl) F S rfl fun a F=>?_
     refine wE (ev_extract rfl rfl) F S rfl fun a F=>?_
     refine wl_storeC (wn rfl) rfl F S rfl rfl (vs := [v10]) rfl ts38 (one_cons h11.one one_nil) (k := 2) rfl (lb rfl) (c' := #[v10]) rfl rfl ?_; clear S; intro w S
     refine wl_storeC (wn rfl) rfl F S rfl rfl (vs := [.i6 y5.2.Code, .i6 y5.2.Index]) rfl ts24 (one_cons rfl (one_cons rfl one_nil)) (k := 1) rfl (lb rfl) (c' := #[.i6 y5.2.Code, .i6 y5.2.Index]) rfl rfl ?_; clear S; intro w S
     refine wpList_nil ?_
     refine then_n ?_
     refine wp_ret ?_
     obtain rfl := sinj hm
     refine post_r _ F rfl (ar_cons (resA rfl tu38 rfl (box_ptr (cells := [v10]) 2 rfl 0 rfl (lb rfl) w S) ts38) (ar_cons (resA rfl tu24 rfl (box_ptr (cells := [.i6 y5.2.Code, .i6 y5.2.Index]) 1 rfl 0 rfl (lb rfl) w S) ts24) ar_nil)) ?_
     replace S : St g6 [] fr w := St.tail [] _ S
     exact ⟨_, rfl, g6, v10, (((((l1.trans l2).trans l3).trans l4).trans l5).trans l6), S, h11, rfl⟩
end Go.Dc
