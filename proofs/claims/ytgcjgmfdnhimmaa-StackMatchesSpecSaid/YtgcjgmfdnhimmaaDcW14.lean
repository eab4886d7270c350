/- Walks: each function comes to what its model says. -/
import Derived.Test.YtgcjgmfdnhimmaaDcTab
import Derived.Test.YtgcjgmfdnhimmaaDcM
import Derived.Test.YtgcjgmfdnhimmaaDcW1
namespace Go.Dc
open Go Go.Proofs
set_option maxRecDepth 100000
set_option maxHeartbeats 4000000
set_option linter.unusedVariables false
theorem textpatch_midway_ok {g : Gh} {fr : Hl} {w : World} {r : (List Middle_textpatch)} (p_ : Patch) (vp_1 : Value) (hp_1 : RepSl g p_.Hunks vp_1) (S : St g [] fr w) (hm : textpatch_midway p_ = some r) :
  Calls Try.prog 58 [.agg #[vp_1]].toArray w (fun en w' => ∃ v, en = .returned v ∧ ∃ (g' : Gh) (v1 : Value) (c1 : Hl), Le g g' ∧ St g' [c1] fr w' ∧ OwnS g' r v1 c1 ∧ v1 = v) := by
 unfold textpatch_midway at hm
 refine calls_enter (fn := Try.f58) Try.func58 rfl Try.ntmps58 (lb rfl) ?_
 intro a F
 replace F : Fr 54 a [(0, .agg #[vp_1])] := F
 refine wp_seq ?_
 refine wp_region_lit ?_
 refine wl_boxC (wn rfl) rfl rfl rfl F S rfl rfl ?_; clear F a S; rintro b1 a w F S
 refine wE (ev_assign rfl) F S rfl fun a F=>?_
 refine wpList_nil ?_
 refine then_n ?_
 refine wp_seq ?_
 refine wp_region_lit ?_
 refine wl_alloc (wn rfl) rfl tz75 (cs := [nilS]) rfl F S rfl rfl ?_; clear F a S; rintro b2 a w F S
 refine wpList_nil ?_
 refine then_n ?_
 refine wp_seq ?_
 refine wp_region_lit ?_
 refine wl_alloc (wn rfl) rfl tz31 (cs := [nilS]) rfl F S rfl rfl ?_; clear F a S; rintro b3 a w F S
 refine wpList_nil ?_
 refine then_n ?_
 refine wp_seq ?_
 refine wp_region_lit ?_
 refine wE (ev_makeFunc (xs := [.tmp 4, .tmp 3]) (vs := [bp b3 0, bp b2 0]) rfl) F S rfl fun a F=>?_
 refine wE (ev_assign rfl) F S rfl fun a F=>?_
 refine wpList_nil ?_
 refine then_n ?_
 refine wp_seq ?_
 refine wp_region_lit ?_
 refine wE (ev_assign rfl) F S rfl fun a F=>?_
 refine wpList_nil ?_
 refine then_n ?_
 refine wp_cut (fun a w => ∃ (x1 : List ByteArray) (x2 : List Middle_textpatch) (v1 v2 : Value) (c1 c2 : Hl) (g1 : Gh), Fr 54 a [(5, .func (.func 68) #[] #[bp b3 0, bp b2 0]), (3, bp b2 0)] ∧ Le g g1 ∧ St g1 [[bx b3 #[v1] 31], [bx b2 #[v2] 75], c1, c2] fr w ∧ OwnS g1 x1 v1 c1 ∧ OwnS g1 x2 v2 c2 ∧ textpatch_midway.j1 x1 x2 = some r) ?_ ?_
 ·refine wp_seq ?_
  refine wp_region_lit ?_
  refine wE (ev_fieldAddr' tu38 tf38_0 (z := 0) ts36 rfl ⟨_, rfl⟩ rfl) F S rfl fun a F=>?_
  refine wE (ev_load1 tu36 rfl rfl (box_ptr (cells := [vp_1]) 2 rfl 0 rfl (lb rfl))) F S rfl fun a F=>?_
  refine wE (ev_lenSh hp_1 rfl tu36) F S rfl fun a F=>?_
  refine wE (ev_move rfl) F S rfl fun a F=>?_
  refine wpList_nil ?_
  refine then_n ?_
  refine wp_block ?_
  obtain ⟨r2, hr3, hm⟩ := bind_some hm
  have hmo2 := hm; clear hm
  refine wp_iter (σ := Int × Int × (List ByteArray) × (List Middle_textpatch)) (ρ := (List ByteArray) × (List Middle_textpatch)) (m := fun s => textpatch_midway.l2 p_ s.1 s.2.1 s.2.2.1 s.2.2.2) (I := fun s a w => match s with | (x8, x9, x10, x11) => ∃ (v8 v9 : Value) (c8 c9 : Hl) (g5 : Gh), Fr 54 a [(15, .i6 x8), (14, .i6 (p_.Hunks.length : Int)), (13, vp_1), (6, .i6 x9), (5, .func (.func 68) #[] #[bp b3 0, bp b2 0]), (4, bp b3 0), (3, bp b2 0)] ∧ Le g g5 ∧ St g5 [[bx b3 #[v8] 31], [bx b2 #[v9] 75], c8, c9] fr w ∧ OwnS g5 x10 v8 c8 ∧ OwnS g5 x11 v9 c9) hr3 ?_ ?_
  ·dsimp only
   replace S : St g [[], [bx b3 #[nilS] 31], [bx b2 #[nilS] 75], [bx b1 #[vp_1] 38]] fr w := S
   replace S : St g [[], [], [bx b3 #[nilS] 31], [bx b2 #[nilS] 75], [bx b1 #[vp_1] 38]] fr w := S
   replace S : St g [[bx b3 #[nilS] 31], [bx b2 #[nilS] 75], [], []] fr w := St.tail [[bx b3 #[nilS] 31], [bx b2 #[nilS] 75], [], []] _ ((((S.frontC 0 rfl).frontC 2 rfl).frontC 5 rfl).frontC 5 rfl)
   exact ⟨(nilS), (nilS), [], [], g, F.sub ⟨rfl, rfl, rfl, rfl, rfl, rfl, rfl, trivial⟩, (Le.refl _), S, (OwnS.nil _), (OwnS.nil _)⟩
  ·clear F S; rintro ⟨x8, x9, x10, x11⟩ a w x12 ⟨v8, v9, c8, c9, g5, F, l5, S, h9, h10⟩ hx2 hfin2
   have hm : textpatch_midway.l2 p_ x8 x9 x10 x11 = some x12 := hx2; clear hx2
   unfold textpatch_midway.l2 at hm
   refine wp_seq ?_
   refine wp_region_lit ?_
   refine wE (ev_int rfl rfl (bo_lss _ _ _ _)) F S rfl fun a F=>?_
   refine wpList_nil ?_
   refine then_n ?_
   refine wp_seq ?_
   obtain ⟨hc2, hm⟩ | ⟨hc2, hm⟩ := ite_or hm
   ·refine wp_condT F rfl hc2 ?_
    refine wp_skip ?_
    refine then_n ?_
    refine wp_cut (fun a w => ∃ (x13 : Int) (x14 : List ByteArray) (x15 : List Middle_textpatch) (v10 v11 : Value) (c10 c11 : Hl) (g6 : Gh), Fr 54 a [(6, .i6 x13), (15, .i6 x8), (14, .i6 (p_.Hunks.length : Int)), (13, vp_1), (5, .func (.func 68) #[] #[bp b3 0, bp b2 0]), (4, bp b3 0), (3, bp b2 0)] ∧ Le g5 g6 ∧ St g6 [[bx b3 #[v10] 31], [bx b2 #[v11] 75], c10, c11] fr w ∧ OwnS g6 x14 v10 c10 ∧ OwnS g6 x15 v11 c11 ∧ textpatch_midway.j3 x8 x13 x14 x15 = some x12) ?_ ?_
    ·refine wp_block ?_
     refine wp_seq ?_
     refine wp_region_lit ?_
     obtain ⟨y2, hy2, hm⟩ := bind_some hm
     obtain ⟨cs2, hr4, hp1⟩ := elemS (hp_1.mono l5) hy2
     obtain ⟨v12, v13, rfl, h13, h14⟩ := rep_Hunk hr4
     refine wE (ev_idxS (hp_1.mono l5) hy2 tu36 ts60 rfl rfl) F S rfl fun a F=>?_
     refine wE (ev_loadA tu60 rfl (cs := [.i6 y2.At, v12, v13]) ts60 rfl (ptr_mono (cks := [[bx b3 #[v8] 31], [bx b2 #[v9] 75], c8, c9]) (fr := fr) hp1 (Le.refl _))) F S rfl fun a F=>?_
     refine wl_alloc (wn rfl) rfl tz60 (cs := [.i6 0, nilS, nilS]) rfl F S rfl rfl ?_; clear F a S; rintro b5 a w F S
     refine wl_storeC (wn rfl) rfl F S rfl rfl (vs := [.i6 y2.At, v12, v13]) rfl ts60 (one_cons rfl (one_cons h13.one (one_cons h14.one one_nil))) (k := 0) rfl (lb rfl) (c' := #[.i6 y2.At, v12, v13]) rfl rfl ?_; clear S; intro w S
     refine wpList_nil ?_
     refine then_n ?_
     refine wp_cut (fun a w => ∃ (x16 : List ByteArray) (x17 : List Middle_textpatch) (v14 v15 : Value) (c12 c13 : Hl) (g7 : Gh), Fr 54 a [(8, bp b5 0), (15, .i6 x8), (14, .i6 (p_.Hunks.length : Int)), (13, vp_1), (5, .func (.func 68) #[] #[bp b3 0, bp b2 0]), (4, bp b3 0), (3, bp b2 0)] ∧ Le g5 g7 ∧ St g7 [[bx b5 #[.i6 y2.At, v12, v13] 60], [bx b3 #[v14] 31], [bx b2 #[v15] 75], c12, c13] fr w ∧ OwnS g7 x16 v14 c12 ∧ OwnS g7 x17 v15 c13 ∧ textpatch_midway.j4 x8 y2 x16 x17 = some x12) ?_ ?_
     ·refine wp_block ?_
      obtain ⟨r4, hr9, hm⟩ := bind_some hm
      have hmo4 := hm; clear hm
      refine wp_iter (σ := Int × (List ByteArray) × (List Middle_textpatch)) (ρ := (List ByteArray) × (List Middle_textpatch)) (m := fun s => textpatch_midway.l4 y2 s.1 s.2.1 s.2.2) (I := fun s a w => match s with | (x24, x25, x26) => ∃ (v23 v24 : Value) (c21 c22 : Hl) (g12 : Gh), Fr 54 a [(8, bp b5 0), (15, .i6 x8), (14, .i6 (p_.Hunks.length : Int)), (13, vp_1), (6, .i6 x24), (5, .func (.func 68) #[] #[bp b3 0, bp b2 0]), (4, bp b3 0), (3, bp b2 0)] ∧ Le g5 g12 ∧ St g12 [[bx b5 #[.i6 y2.At, v12, v13] 60], [bx b3 #[v23] 31], [bx b2 #[v24] 75], c21, c22] fr w ∧ OwnS g12 x25 v23 c21 ∧ OwnS g12 x26 v24 c22) hr9 ?_ ?_
      ·dsimp only
       exact ⟨v8, v9, c8, c9, g5, F.sub ⟨rfl, rfl, rfl, rfl, rfl, rfl, rfl, rfl, trivial⟩, (Le.refl _), S, h9, h10⟩
      ·clear F S; rintro ⟨x24, x25, x26⟩ a w x27 ⟨v23, v24, c21, c22, g12, F, l12, S, h25, h26⟩ hx4 hfin4
       have hm : textpatch_midway.l4 y2 x24 x25 x26 = some x27 := hx4; clear hx4
       unfold textpatch_midway.l4 at hm
       refine wp_seq ?_
       refine wp_seq ?_
       refine wp_region_lit ?_
       refine wE (ev_move rfl) F S rfl fun a F=>?_
       refine wE (ev_fieldAddr' tu60 tf60_0 (z := 0) ts3 rfl ⟨_, rfl⟩ rfl) F S rfl fun a F=>?_
       refine wE (ev_load1 tu3 rfl rfl (box_ptr (cells := [.i6 y2.At]) 0 rfl 0 rfl (lb rfl))) F S rfl fun a F=>?_
       refine wE (ev_int rfl rfl (bo_lss _ _ _ _)) F S rfl fun a F=>?_
       refine wpList_nil ?_
       refine then_n ?_
       obtain ⟨hc4, hm⟩ | ⟨hc4, hm⟩ := ite_or hm
       ·refine wp_condT F rfl hc4 ?_
        refine wp_skip ?_
        refine then_n ?_
        refine wp_seq ?_
        refine wp_block ?_
        refine wp_region_lit ?_
        refine wE (ev_move rfl) F S rfl fun a F=>?_
        refine wE (ev_build (parts := []) (vs := []) rfl (fun w => tb78_  w)) F S rfl fun a F=>?_
        replace F := F.sub (e' := [(26, .agg #[.bool false, .string ByteArray.empty, nilS]), (25, .func (.func 68) #[] #[bp b3 0, bp b2 0]), (8, bp b5 0), (15, .i6 x8), (14, .i6 (p_.Hunks.length : Int)), (13, vp_1), (6, .i6 x24), (5, .func (.func 68) #[] #[bp b3 0, bp b2 0]), (4, bp b3 0), (3, bp b2 0)]) ⟨rfl, rfl, rfl, rfl, rfl, rfl, rfl, rfl, rfl, rfl, trivial⟩
        refine wl_callK (wn rfl) rfl (xs := [.tmp 26]) (vs := [.agg #[.bool false, .string ByteArray.empty, nilS]]) (cap := [bp b3 0, bp b2 0]) (e' := [(8, bp b5 0), (15, .i6 x8), (14, .i6 (p_.Hunks.length : Int)), (13, vp_1), (6, .i6 x24), (5, .func (.func 68) #[] #[bp b3 0, bp b2 0]), (4, bp b3 0), (3, bp b2 0)]) ⟨rfl, rfl, rfl, rfl, rfl, rfl, rfl, rfl, trivial⟩ F rfl rfl tc68 rfl rfl (calls_enter (fn := Try.f68) Try.func68 rfl Try.ntmps68 (lb rfl) ?_); clear F a; intro a F
        replace F : Fr 10 a [(0, .agg #[.bool false, .string ByteArray.empty, nilS]), (1, bp b3 0), (2, bp b2 0)] := F
        refine wp_seq ?_
        refine wp_region_lit ?_
        refine wl_boxC (wn rfl) rfl rfl rfl F S rfl rfl ?_; clear F a S; rintro b7 a w F S
        refine wpList_nil ?_
        refine then_n ?_
        refine wp_seq ?_
        refine wp_region_lit ?_
        refine wE (ev_load1 tu31 rfl rfl (box_ptr (cells := [v23]) 2 rfl 0 rfl (lb rfl))) F S rfl fun a F=>?_
        refine wE (ev_fieldAddr' tu78 tf78_2 (z := 0) ts31 rfl ⟨_, rfl⟩ rfl) F S rfl fun a F=>?_
        refine wl_storeC (wn rfl) rfl F S rfl rfl (vs := [v23]) (OwnS.cl h25) ts31 (one_cons (OwnS.one h25) one_nil) (k := 0) rfl (lb rfl) (c' := #[.bool false, .string ByteArray.empty, v23]) rfl rfl ?_; clear S; intro w S
        refine wl_storeC (wn rfl) rfl F S rfl rfl (vs := [nilS]) rfl ts31 (one_cons rfl one_nil) (k := 2) rfl (lb rfl) (c' := #[nilS]) rfl rfl ?_; clear S; intro w S
        refine wpList_nil ?_
        refine then_n ?_
        refine wp_region_lit ?_
        refine wE (ev_load1 tu75 rfl rfl (box_ptr (cells := [v24]) 3 rfl 0 rfl (lb rfl))) F S rfl fun a F=>?_
        refine wE (ev_loadA tu78 rfl (cs := [.bool false, .string ByteArray.empty, v23]) ts78 rfl (box_ptr (cells := [.bool false, .string ByteArray.empty, v23]) 0 rfl 0 rfl (lb rfl))) F S rfl fun a F=>?_
        obtain ⟨g13, l13, S, h27⟩ : ∃ gz, Le g12 gz ∧ St gz [[bx b7 #[.bool false, .string ByteArray.empty, v23] 78], [bx b5 #[.i6 y2.At, v12, v13] 60], [bx b3 #[nilS] 31], [bx b2 #[v24] 75], c22] fr w ∧ RepSl gz x25 v23 := ⟨_, Le.add _ _, S.freeze 4 rfl, OwnS.freeze (S.front 4 rfl) h25⟩
        refine wl_lit (l := ([({ inserted := false, line := ByteArray.empty, before := x25 } : Middle_textpatch)] : List Middle_textpatch)) (vs := [.agg #[.bool false, .string ByteArray.empty, v23]]) (parts := [(0, .tmp 7)]) (wn rfl) rfl rfl rfl tu75 te78 (sz_cons rfl sz_nil) rfl (Cat.cons (rep_Middle_textpatch_mk (x := ({ inserted := false, line := ByteArray.empty, before := x25 } : Middle_textpatch)) h27) (Cat.nil _)) (coa_cons rfl coa_nil) rfl F S rfl rfl ?_; clear F a S
        rintro v25 c23 a w h28 F S
        obtain ⟨cs6, hk4, hr10⟩ := OwnS.reads h28
        obtain ⟨y7, hy7, hm⟩ := bind_some hm
        refine wl_append (wn rfl) rfl tu75 tu75 te78 (by decide) (by decide) F S rfl rfl (k := 5) rfl (h26.mono l13) hk4 rfl (hr10 _ _ _ 0 rfl S) hy7 rfl rfl ?_; clear F a S
        rintro v26 c24 a w h29 S F; replace S : St g13 [c23, [bx b7 #[.bool false, .string ByteArray.empty, v23] 78], [bx b5 #[.i6 y2.At, v12, v13] 60], [bx b3 #[nilS] 31], [bx b2 #[v24] 75], c24] fr w := S
        refine wl_storeC (wn rfl) rfl F S rfl rfl (vs := [v26]) (OwnS.cl h29) ts75 (one_cons (OwnS.one h29) one_nil) (k := 4) rfl (lb rfl) (c' := #[v26]) rfl rfl ?_; clear S; intro w S
        refine wpList_nil ?_
        refine post_n _ F rfl ar_nil ?_
        refine ⟨_, rfl, ?_⟩; clear F a; intro a F
        replace F : Fr 54 a [(27, .tuple #[]), (8, bp b5 0), (15, .i6 x8), (14, .i6 (p_.Hunks.length : Int)), (13, vp_1), (6, .i6 x24), (5, .func (.func 68) #[] #[bp b3 0, bp b2 0]), (4, bp b3 0), (3, bp b2 0)] := F
        refine wpList_nil ?_
        refine inb_n ?_
        refine then_n ?_
        refine wp_region_lit ?_
        refine wE (ev_move rfl) F S rfl fun a F=>?_
        obtain ⟨z4, hz4, hm⟩ := bind_some hm
        refine wE (ev_int rfl rfl (bo_add hz4)) F S rfl fun a F=>?_
        refine wE (ev_assign rfl) F S rfl fun a F=>?_
        refine wpList_nil ?_
        refine then_n ?_
        obtain rfl := sinj hm
        refine ⟨_, rfl, ?_⟩
        dsimp only
        replace S : St g13 [[], c23, [bx b7 #[.bool false, .string ByteArray.empty, v23] 78], [bx b5 #[.i6 y2.At, v12, v13] 60], [bx b3 #[nilS] 31], [bx b2 #[v26] 75], c24] fr w := S
        replace S : St g13 [[bx b5 #[.i6 y2.At, v12, v13] 60], [bx b3 #[nilS] 31], [bx b2 #[v26] 75], [], c24] fr w := St.tail [[bx b5 #[.i6 y2.At, v12, v13] 60], [bx b3 #[nilS] 31], [bx b2 #[v26] 75], [], c24] _ (((((S.frontC 6 rfl).frontC 1 rfl).frontC 7 rfl).frontC 7 rfl).frontC 7 rfl)
        exact ⟨(nilS), v26, [], c24, g13, F.sub ⟨rfl, rfl, rfl, rfl, rfl, rfl, rfl, rfl, trivial⟩, (l12.trans l13), S, (OwnS.nil _), h29⟩
       ·refine wp_condF F rfl hc4 ?_
        refine wp_exit ?_
        refine then_e ?_
        refine then_e ?_
        refine inb_x ?_
        refine then_n ?_
        obtain rfl := sinj hm
        obtain rfl := hfin4 _ rfl
        clear hm
        have hm : (textpatch_midway.j4 x8 y2 x25 x26 : Option (Step (Int × Int × (List ByteArray) × (List Middle_textpatch)) ((List ByteArray) × (List Middle_textpatch)))) = some _ := hmo4
        exact ⟨x25, x26, v23, v24, c21, c22, g12, F.sub ⟨rfl, rfl, rfl, rfl, rfl, rfl, rfl, trivial⟩, l12, S, h25, h26, hm⟩
     ·clear F S hm; rintro a w ⟨x16, x17, v14, v15, c12, c13, g7, F, l7, S, h15, h16, hm⟩
      refine wp_seq ?_
      refine wp_region_lit ?_
      refine wE (ev_load1 tu31 rfl rfl (box_ptr (cells := [v14]) 1 rfl 0 rfl (lb rfl))) F S rfl fun a F=>?_
      refine wE (ev_fieldAddr' tu60 tf60_1 (z := 0) ts31 rfl ⟨_, rfl⟩ rfl) F S rfl fun a F=>?_
      refine wE (ev_load1 tu31 rfl rfl (box_ptr (cells := [v12]) 0 rfl 1 rfl (lb rfl))) F S rfl fun a F=>?_
      obtain ⟨cs3, hk2, hr5⟩ := RepSl.reads (h13.mono l7)
      obtain ⟨y3, hy3, hm⟩ := bind_some hm
      refine wl_append (wn rfl) rfl tu31 tu31 te9 (by decide) (by decide) F S rfl rfl (k := 3) rfl h15 hk2 rfl (hr5 _ _ S) hy3 rfl rfl ?_; clear F a S
      rintro v16 c14 a w h17 S F; replace S : St g7 [[bx b5 #[.i6 y2.At, v12, v13] 60], [bx b3 #[v14] 31], [bx b2 #[v15] 75], c14, c13] fr w := S
      refine wl_storeC (wn rfl) rfl F S rfl rfl (vs := [v16]) (OwnS.cl h17) ts31 (one_cons (OwnS.one h17) one_nil) (k := 1) rfl (lb rfl) (c' := #[v16]) rfl rfl ?_; clear S; intro w S
      refine wpList_nil ?_
      refine then_n ?_
      refine wp_cut (fun a w => ∃ (x18 : List ByteArray) (x19 : List Middle_textpatch) (v17 v18 : Value) (c15 c16 : Hl) (g8 : Gh), Fr 54 a [(8, bp b5 0), (15, .i6 x8), (14, .i6 (p_.Hunks.length : Int)), (13, vp_1), (5, .func (.func 68) #[] #[bp b3 0, bp b2 0]), (4, bp b3 0), (3, bp b2 0)] ∧ Le g7 g8 ∧ St g8 [[bx b5 #[.i6 y2.At, v12, v13] 60], [bx b3 #[v17] 31], [bx b2 #[v18] 75], c15, c16] fr w ∧ OwnS g8 x18 v17 c15 ∧ OwnS g8 x19 v18 c16 ∧ textpatch_midway.j5 x8 y2 x18 x19 = some x12) ?_ ?_
      ·refine wp_seq ?_
       refine wp_region_lit ?_
       refine wE (ev_fieldAddr' tu60 tf60_2 (z := 0) ts31 rfl ⟨_, rfl⟩ rfl) F S rfl fun a F=>?_
       refine wE (ev_load1 tu31 rfl rfl (box_ptr (cells := [v13]) 0 rfl 2 rfl (lb rfl))) F S rfl fun a F=>?_
       refine wE (ev_lenSh h14 rfl tu31) F S rfl fun a F=>?_
       refine wE (ev_move rfl) F S rfl fun a F=>?_
       refine wpList_nil ?_
       refine then_n ?_
       refine wp_block ?_
       obtain ⟨r3, hr6, hm⟩ := bind_some hm
       have hmo3 := hm; clear hm
       refine wp_iter (σ := Int × (List ByteArray) × (List Middle_textpatch)) (ρ := (List ByteArray) × (List Middle_textpatch)) (m := fun s => textpatch_midway.l3 y2 s.1 s.2.1 s.2.2) (I := fun s a w => match s with | (x20, x21, x22) => ∃ (v19 v20 : Value) (c17 c18 : Hl) (g10 : Gh), Fr 54 a [(35, .i6 x20), (34, .i6 (y2.New.length : Int)), (33, v13), (8, bp b5 0), (15, .i6 x8), (14, .i6 (p_.Hunks.length : Int)), (13, vp_1), (5, .func (.func 68) #[] #[bp b3 0, bp b2 0]), (4, bp b3 0), (3, bp b2 0)] ∧ Le g7 g10 ∧ St g10 [[bx b5 #[.i6 y2.At, v12, v13] 60], [bx b3 #[v19] 31], [bx b2 #[v20] 75], c17, c18] fr w ∧ OwnS g10 x21 v19 c17 ∧ OwnS g10 x22 v20 c18) hr6 ?_ ?_
       ·dsimp only
        exact ⟨v16, v15, c14, c13, g7, F.sub ⟨rfl, rfl, rfl, rfl, rfl, rfl, rfl, rfl, rfl, rfl, trivial⟩, (Le.refl _), S, h17, h16⟩
       ·clear F S; rintro ⟨x20, x21, x22⟩ a w x23 ⟨v19, v20, c17, c18, g10, F, l10, S, h20, h21⟩ hx3 hfin3
        have hm : textpatch_midway.l3 y2 x20 x21 x22 = some x23 := hx3; clear hx3
        unfold textpatch_midway.l3 at hm
        refine wp_seq ?_
        refine wp_region_lit ?_
        refine wE (ev_int rfl rfl (bo_lss _ _ _ _)) F S rfl fun a F=>?_
        refine wpList_nil ?_
        refine then_n ?_
        refine wp_seq ?_
        obtain ⟨hc3, hm⟩ | ⟨hc3, hm⟩ := ite_or hm
        ·refine wp_condT F rfl hc3 ?_
         refine wp_skip ?_
         refine then_n ?_
         refine wp_seq ?_
         refine wp_block ?_
         refine wp_seq ?_
         refine wp_region_lit ?_
         obtain ⟨y5, hy5, hm⟩ := bind_some hm
         obtain ⟨cs4, hr7, hp2⟩ := elemS (h14.mono (l7.trans l10)) hy5
         obtain rfl := rep_str hr7
         refine wE (ev_idxS (h14.mono (l7.trans l10)) hy5 tu31 ts9 rfl rfl) F S rfl fun a F=>?_
         refine wE (ev_load1 tu9 rfl rfl (ptr_mono (cks := [[bx b5 #[.i6 y2.At, v12, v13] 60], [bx b3 #[v19] 31], [bx b2 #[v20] 75], c17, c18]) (fr := fr) hp2 (Le.refl _))) F S rfl fun a F=>?_
         refine wE (ev_assign rfl) F S rfl fun a F=>?_
         refine wpList_nil ?_
         refine then_n ?_
         refine wp_region_lit ?_
         refine wE (ev_move rfl) F S rfl fun a F=>?_
         refine wE (ev_move rfl) F S rfl fun a F=>?_
         refine wE (ev_build (parts := [(0, .const (.bool true)), (1, .tmp 40)]) (vs := [(0, .bool true), (1, .string y5)]) rfl (fun w => tb78_0_1 true y5 w)) F S rfl fun a F=>?_
         replace F := F.sub (e' := [(41, .agg #[.bool true, .string y5, nilS]), (39, .func (.func 68) #[] #[bp b3 0, bp b2 0]), (35, .i6 x20), (34, .i6 (y2.New.length : Int)), (33, v13), (8, bp b5 0), (15, .i6 x8), (14, .i6 (p_.Hunks.length : Int)), (13, vp_1), (5, .func (.func 68) #[] #[bp b3 0, bp b2 0]), (4, bp b3 0), (3, bp b2 0)]) ⟨rfl, rfl, rfl, rfl, rfl, rfl, rfl, rfl, rfl, rfl, rfl, rfl, trivial⟩
         refine wl_callK (wn rfl) rfl (xs := [.tmp 41]) (vs := [.agg #[.bool true, .string y5, nilS]]) (cap := [bp b3 0, bp b2 0]) (e' := [(35, .i6 x20), (34, .i6 (y2.New.length : Int)), (33, v13), (8, bp b5 0), (15, .i6 x8), (14, .i6 (p_.Hunks.length : Int)), (13, vp_1), (5, .func (.func 68) #[] #[bp b3 0, bp b2 0]), (4, bp b3 0), (3, bp b2 0)]) ⟨rfl, rfl, rfl, rfl, rfl, rfl, rfl, rfl, rfl, rfl, trivial⟩ F rfl rfl tc68 rfl rfl (calls_enter (fn := Try.f68) Try.func68 rfl Try.ntmps68 (lb rfl) ?_); clear F a; intro a F
         replace F : Fr 10 a [(0, .agg #[.bool true, .string y5, nilS]), (1, bp b3 0), (2, bp b2 0)] := F
         refine wp_seq ?_
         refine wp_region_lit ?_
         refine wl_boxC (wn rfl) rfl rfl rfl F S rfl rfl ?_; clear F a S; rintro b6 a w F S
         refine wpList_nil ?_
         refine then_n ?_
         refine wp_seq ?_
         refine wp_region_lit ?_
         refine wE (ev_load1 tu31 rfl rfl (box_ptr (cells := [v19]) 2 rfl 0 rfl (lb rfl))) F S rfl fun a F=>?_
         refine wE (ev_fieldAddr' tu78 tf78_2 (z := 0) ts31 rfl ⟨_, rfl⟩ rfl) F S rfl fun a F=>?_
         refine wl_storeC (wn rfl) rfl F S rfl rfl (vs := [v19]) (OwnS.cl h20) ts31 (one_cons (OwnS.one h20) one_nil) (k := 0) rfl (lb rfl) (c' := #[.bool true, .string y5, v19]) rfl rfl ?_; clear S; intro w S
         refine wl_storeC (wn rfl) rfl F S rfl rfl (vs := [nilS]) rfl ts31 (one_cons rfl one_nil) (k := 2) rfl (lb rfl) (c' := #[nilS]) rfl rfl ?_; clear S; intro w S
         refine wpList_nil ?_
         refine then_n ?_
         refine wp_region_lit ?_
         refine wE (ev_load1 tu75 rfl rfl (box_ptr (cells := [v20]) 3 rfl 0 rfl (lb rfl))) F S rfl fun a F=>?_
         refine wE (ev_loadA tu78 rfl (cs := [.bool true, .string y5, v19]) ts78 rfl (box_ptr (cells := [.bool true, .string y5, v19]) 0 rfl 0 rfl (lb rfl))) F S rfl fun a F=>?_
         obtain ⟨g11, l11, S, h22⟩ : ∃ gz, Le g10 gz ∧ St gz [[bx b6 #[.bool true, .string y5, v19] 78], [bx b5 #[.i6 y2.At, v12, v13] 60], [bx b3 #[nilS] 31], [bx b2 #[v20] 75], c18] fr w ∧ RepSl gz x21 v19 := ⟨_, Le.add _ _, S.freeze 4 rfl, OwnS.freeze (S.front 4 rfl) h20⟩
         refine wl_lit (l := ([({ inserted := true, line := y5, before := x21 } : Middle_textpatch)] : List Middle_textpatch)) (vs := [.agg #[.bool true, .string y5, v19]]) (parts := [(0, .tmp 7)]) (wn rfl) rfl rfl rfl tu75 te78 (sz_cons rfl sz_nil) rfl (Cat.cons (rep_Middle_textpatch_mk (x := ({ inserted := true, line := y5, before := x21 } : Middle_textpatch)) h22) (Cat.nil _)) (coa_cons rfl coa_nil) rfl F S rfl rfl ?_; clear F a S
         rintro v21 c19 a w h23 F S
         obtain ⟨cs5, hk3, hr8⟩ := OwnS.reads h23
         obtain ⟨y6, hy6, hm⟩ := bind_some hm
         refine wl_append (wn rfl) rfl tu75 tu75 te78 (by decide) (by decide) F S rfl rfl (k := 5) rfl (h21.mono l11) hk3 rfl (hr8 _ _ _ 0 rfl S) hy6 rfl rfl ?_; clear F a S
         rintro v22 c20 a w h24 S F; replace S : St g11 [c19, [bx b6 #[.bool true, .string y5, v19] 78], [bx b5 #[.i6 y2.At, v12, v13] 60], [bx b3 #[nilS] 31], [bx b2 #[v20] 75], c20] fr w := S
         refine wl_storeC (wn rfl) rfl F S rfl rfl (vs := [v22]) (OwnS.cl h24) ts75 (one_cons (OwnS.one h24) one_nil) (k := 4) rfl (lb rfl) (c' := #[v22]) rfl rfl ?_; clear S; intro w S
         refine wpList_nil ?_
         refine post_n _ F rfl ar_nil ?_
         refine ⟨_, rfl, ?_⟩; clear F a; intro a F
         replace F : Fr 54 a [(42, .tuple #[]), (35, .i6 x20), (34, .i6 (y2.New.length : Int)), (33, v13), (8, bp b5 0), (15, .i6 x8), (14, .i6 (p_.Hunks.length : Int)), (13, vp_1), (5, .func (.func 68) #[] #[bp b3 0, bp b2 0]), (4, bp b3 0), (3, bp b2 0)] := F
         refine wpList_nil ?_
         refine inb_n ?_
         refine then_n ?_
         refine wp_region_lit ?_
         obtain ⟨z3, hz3, hm⟩ := bind_some hm
         refine wE (ev_int rfl rfl (bo_add hz3)) F S rfl fun a F=>?_
         refine wE (ev_move rfl) F S rfl fun a F=>?_
         refine wpList_nil ?_
         refine then_n ?_
         obtain rfl := sinj hm
         refine ⟨_, rfl, ?_⟩
         dsimp only
         replace S : St g11 [[], c19, [bx b6 #[.bool true, .string y5, v19] 78], [bx b5 #[.i6 y2.At, v12, v13] 60], [bx b3 #[nilS] 31], [bx b2 #[v22] 75], c20] fr w := S
         replace S : St g11 [[bx b5 #[.i6 y2.At, v12, v13] 60], [bx b3 #[nilS] 31], [bx b2 #[v22] 75], [], c20] fr w := St.tail [[bx b5 #[.i6 y2.At, v12, v13] 60], [bx b3 #[nilS] 31], [bx b2 #[v22] 75], [], c20] _ (((((S.frontC 6 rfl).frontC 1 rfl).frontC 7 rfl).frontC 7 rfl).frontC 7 rfl)
         exact ⟨(nilS), v22, [], c20, g11, F.sub ⟨rfl, rfl, rfl, rfl, rfl, rfl, rfl, rfl, rfl, rfl, trivial⟩, (l10.trans l11), S, (OwnS.nil _), h24⟩
        ·refine wp_condF F rfl hc3 ?_
         refine wp_exit ?_
         refine then_e ?_
         refine then_e ?_
         refine inb_x ?_
         refine then_n ?_
         obtain rfl := sinj hm
         obtain rfl := hfin3 _ rfl
         clear hm
         have hm : (textpatch_midway.j5 x8 y2 x21 x22 : Option (Step (Int × Int × (List ByteArray) × (List Middle_textpatch)) ((List ByteArray) × (List Middle_textpatch)))) = some _ := hmo3
         exact ⟨x21, x22, v19, v20, c17, c18, g10, F.sub ⟨rfl, rfl, rfl, rfl, rfl, rfl, rfl, trivial⟩, l10, S, h20, h21, hm⟩
      ·clear F S hm; rintro a w ⟨x18, x19, v17, v18, c15, c16, g8, F, l8, S, h18, h19, hm⟩
       refine wp_region_lit ?_
       refine wE (ev_loadA tu60 rfl (cs := [.i6 y2.At, v12, v13]) ts60 rfl (box_ptr (cells := [.i6 y2.At, v12, v13]) 0 rfl 0 rfl (lb rfl))) F S rfl fun a F=>?_
       obtain ⟨y4, hy4, hm⟩ := bind_some hm
       refine wl_call0 (wn rfl) rfl F rfl (textpatch_End_ok (fr := (fl [[bx b5 #[.i6 y2.At, v12, v13] 60], [bx b3 #[v17] 31], [bx b2 #[v18] 75], c15, c16] fr)) y2 v12 (h13.mono (l7.trans l8)) v13 (h14.mono (l7.trans l8)) S hy4) rfl tc51 rfl rfl ?_; clear F a S
       rintro _ a w ⟨g9, l9, S, rfl⟩ F; replace S : St g9 [[bx b5 #[.i6 y2.At, v12, v13] 60], [bx b3 #[v17] 31], [bx b2 #[v18] 75], c15, c16] fr w := S
       refine wE (ev_assign rfl) F S rfl fun a F=>?_
       refine wpList_nil ?_
       refine inb_n ?_
       refine then_n ?_
       replace S : St g9 [[bx b3 #[v17] 31], [bx b2 #[v18] 75], c15, c16] fr w := St.tail [[bx b3 #[v17] 31], [bx b2 #[v18] 75], c15, c16] _ ((((S.frontC 4 rfl).frontC 4 rfl).frontC 4 rfl).frontC 4 rfl)
       exact ⟨y4, x18, x19, v17, v18, c15, c16, g9, F.sub ⟨rfl, rfl, rfl, rfl, rfl, rfl, rfl, trivial⟩, ((l7.trans l8).trans l9), S, (h18.mono l9), (h19.mono l9), hm⟩
    ·clear F S hm; rintro a w ⟨x13, x14, x15, v10, v11, c10, c11, g6, F, l6, S, h11, h12, hm⟩
     refine wp_region_lit ?_
     obtain ⟨z2, hz2, hm⟩ := bind_some hm
     refine wE (ev_int rfl rfl (bo_add hz2)) F S rfl fun a F=>?_
     refine wE (ev_move rfl) F S rfl fun a F=>?_
     refine wpList_nil ?_
     refine then_n ?_
     obtain rfl := sinj hm
     refine ⟨_, rfl, ?_⟩
     dsimp only
     exact ⟨v10, v11, c10, c11, g6, F.sub ⟨rfl, rfl, rfl, rfl, rfl, rfl, rfl, trivial⟩, (l5.trans l6), S, h11, h12⟩
   ·refine wp_condF F rfl hc2 ?_
    refine wp_exit ?_
    refine then_e ?_
    refine then_e ?_
    refine inb_x ?_
    refine then_n ?_
    obtain rfl := sinj hm
    obtain rfl := hfin2 _ rfl
    clear hm
    have hm : (textpatch_midway.j1 x10 x11 : Option (List Middle_textpatch)) = some _ := hmo2
    exact ⟨x10, x11, v8, v9, c8, c9, g5, F.sub ⟨rfl, rfl, trivial⟩, l5, S, h9, h10, hm⟩
 ·clear F S hm; rintro a w ⟨x1, x2, v1, v2, c1, c2, g1, F, l1, S, h1, h2, hm⟩
  refine wp_cut (fun a w => ∃ (x3 : List Middle_textpatch) (v3 : Value) (c3 : Hl) (g2 : Gh), Fr 54 a [(3, bp b2 0)] ∧ Le g1 g2 ∧ St g2 [[bx b2 #[v3] 75], c3] fr w ∧ OwnS g2 x3 v3 c3 ∧ textpatch_midway.j2 x3 = some r) ?_ ?_
  ·refine wp_seq ?_
   refine wp_region_lit ?_
   refine wE (ev_move rfl) F S rfl fun a F=>?_
   refine wpList_nil ?_
   refine then_n ?_
   refine wp_block ?_
   obtain ⟨r1, hr1, hm⟩ := bind_some hm
   have hmo1 := hm; clear hm
   refine wp_iter (σ := Int × (List ByteArray) × (List Middle_textpatch)) (ρ := (List Middle_textpatch)) (m := fun s => textpatch_midway.l1 s.1 s.2.1 s.2.2) (I := fun s a w => match s with | (x4, x5, x6) => ∃ (v4 v5 : Value) (c4 c5 : Hl) (g3 : Gh), Fr 54 a [(47, .i6 x4), (5, .func (.func 68) #[] #[bp b3 0, bp b2 0]), (3, bp b2 0)] ∧ Le g1 g3 ∧ St g3 [[bx b3 #[v4] 31], [bx b2 #[v5] 75], c4, c5] fr w ∧ OwnS g3 x5 v4 c4 ∧ OwnS g3 x6 v5 c5) hr1 ?_ ?_
   ·dsimp only
    exact ⟨v1, v2, c1, c2, g1, F.sub ⟨rfl, rfl, rfl, trivial⟩, (Le.refl _), S, h1, h2⟩
   ·clear F S; rintro ⟨x4, x5, x6⟩ a w x7 ⟨v4, v5, c4, c5, g3, F, l3, S, h4, h5⟩ hx1 hfin1
    have hm : textpatch_midway.l1 x4 x5 x6 = some x7 := hx1; clear hx1
    unfold textpatch_midway.l1 at hm
    refine wp_seq ?_
    refine wp_region_lit ?_
    refine wE (ev_int rfl rfl (bo_lss _ _ _ _)) F S rfl fun a F=>?_
    refine wpList_nil ?_
    refine then_n ?_
    refine wp_seq ?_
    obtain ⟨hc1, hm⟩ | ⟨hc1, hm⟩ := ite_or hm
    ·refine wp_condT F rfl hc1 ?_
     refine wp_skip ?_
     refine then_n ?_
     refine wp_seq ?_
     refine wp_block ?_
     refine wp_region_lit ?_
     refine wE (ev_move rfl) F S rfl fun a F=>?_
     refine wE (ev_build (parts := []) (vs := []) rfl (fun w => tb78_  w)) F S rfl fun a F=>?_
     replace F := F.sub (e' := [(50, .agg #[.bool false, .string ByteArray.empty, nilS]), (49, .func (.func 68) #[] #[bp b3 0, bp b2 0]), (47, .i6 x4), (5, .func (.func 68) #[] #[bp b3 0, bp b2 0]), (3, bp b2 0)]) ⟨rfl, rfl, rfl, rfl, rfl, trivial⟩
     refine wl_callK (wn rfl) rfl (xs := [.tmp 50]) (vs := [.agg #[.bool false, .string ByteArray.empty, nilS]]) (cap := [bp b3 0, bp b2 0]) (e' := [(47, .i6 x4), (5, .func (.func 68) #[] #[bp b3 0, bp b2 0]), (3, bp b2 0)]) ⟨rfl, rfl, rfl, trivial⟩ F rfl rfl tc68 rfl rfl (calls_enter (fn := Try.f68) Try.func68 rfl Try.ntmps68 (lb rfl) ?_); clear F a; intro a F
     replace F : Fr 10 a [(0, .agg #[.bool false, .string ByteArray.empty, nilS]), (1, bp b3 0), (2, bp b2 0)] := F
     refine wp_seq ?_
     refine wp_region_lit ?_
     refine wl_boxC (wn rfl) rfl rfl rfl F S rfl rfl ?_; clear F a S; rintro b4 a w F S
     refine wpList_nil ?_
     refine then_n ?_
     refine wp_seq ?_
     refine wp_region_lit ?_
     refine wE (ev_load1 tu31 rfl rfl (box_ptr (cells := [v4]) 1 rfl 0 rfl (lb rfl))) F S rfl fun a F=>?_
     refine wE (ev_fieldAddr' tu78 tf78_2 (z := 0) ts31 rfl ⟨_, rfl⟩ rfl) F S rfl fun a F=>?_
     refine wl_storeC (wn rfl) rfl F S rfl rfl (vs := [v4]) (OwnS.cl h4) ts31 (one_cons (OwnS.one h4) one_nil) (k := 0) rfl (lb rfl) (c' := #[.bool false, .string ByteArray.empty, v4]) rfl rfl ?_; clear S; intro w S
     refine wl_storeC (wn rfl) rfl F S rfl rfl (vs := [nilS]) rfl ts31 (one_cons rfl one_nil) (k := 1) rfl (lb rfl) (c' := #[nilS]) rfl rfl ?_; clear S; intro w S
     refine wpList_nil ?_
     refine then_n ?_
     refine wp_region_lit ?_
     refine wE (ev_load1 tu75 rfl rfl (box_ptr (cells := [v5]) 2 rfl 0 rfl (lb rfl))) F S rfl fun a F=>?_
     refine wE (ev_loadA tu78 rfl (cs := [.bool false, .string ByteArray.empty, v4]) ts78 rfl (box_ptr (cells := [.bool false, .string ByteArray.empty, v4]) 0 rfl 0 rfl (lb rfl))) F S rfl fun a F=>?_
     obtain ⟨g4, l4, S, h6⟩ : ∃ gz, Le g3 gz ∧ St gz [[bx b4 #[.bool false, .string ByteArray.empty, v4] 78], [bx b3 #[nilS] 31], [bx b2 #[v5] 75], c5] fr w ∧ RepSl gz x5 v4 := ⟨_, Le.add _ _, S.freeze 3 rfl, OwnS.freeze (S.front 3 rfl) h4⟩
     refine wl_lit (l := ([({ inserted := false, line := ByteArray.empty, before := x5 } : Middle_textpatch)] : List Middle_textpatch)) (vs := [.agg #[.bool false, .string ByteArray.empty, v4]]) (parts := [(0, .tmp 7)]) (wn rfl) rfl rfl rfl tu75 te78 (sz_cons rfl sz_nil) rfl (Cat.cons (rep_Middle_textpatch_mk (x := ({ inserted := false, line := ByteArray.empty, before := x5 } : Middle_textpatch)) h6) (Cat.nil _)) (coa_cons rfl coa_nil) rfl F S rfl rfl ?_; clear F a S
     rintro v6 c6 a w h7 F S
     obtain ⟨cs1, hk1, hr2⟩ := OwnS.reads h7
     obtain ⟨y1, hy1, hm⟩ := bind_some hm
     refine wl_append (wn rfl) rfl tu75 tu75 te78 (by decide) (by decide) F S rfl rfl (k := 4) rfl (h5.mono l4) hk1 rfl (hr2 _ _ _ 0 rfl S) hy1 rfl rfl ?_; clear F a S
     rintro v7 c7 a w h8 S F; replace S : St g4 [c6, [bx b4 #[.bool false, .string ByteArray.empty, v4] 78], [bx b3 #[nilS] 31], [bx b2 #[v5] 75], c7] fr w := S
     refine wl_storeC (wn rfl) rfl F S rfl rfl (vs := [v7]) (OwnS.cl h8) ts75 (one_cons (OwnS.one h8) one_nil) (k := 3) rfl (lb rfl) (c' := #[v7]) rfl rfl ?_; clear S; intro w S
     refine wpList_nil ?_
     refine post_n _ F rfl ar_nil ?_
     refine ⟨_, rfl, ?_⟩; clear F a; intro a F
     replace F : Fr 54 a [(51, .tuple #[]), (47, .i6 x4), (5, .func (.func 68) #[] #[bp b3 0, bp b2 0]), (3, bp b2 0)] := F
     refine wpList_nil ?_
     refine inb_n ?_
     refine then_n ?_
     refine wp_region_lit ?_
     obtain ⟨z1, hz1, hm⟩ := bind_some hm
     refine wE (ev_int rfl rfl (bo_add hz1)) F S rfl fun a F=>?_
     refine wE (ev_move rfl) F S rfl fun a F=>?_
     refine wpList_nil ?_
     refine then_n ?_
     obtain rfl := sinj hm
     refine ⟨_, rfl, ?_⟩
     dsimp only
     replace S : St g4 [[], c6, [bx b4 #[.bool false, .string ByteArray.empty, v4] 78], [bx b3 #[nilS] 31], [bx b2 #[v7] 75], c7] fr w := S
     replace S : St g4 [[bx b3 #[nilS] 31], [bx b2 #[v7] 75], [], c7] fr w := St.tail [[bx b3 #[nilS] 31], [bx b2 #[v7] 75], [], c7] _ ((((S.frontC 5 rfl).frontC 1 rfl).frontC 6 rfl).frontC 6 rfl)
     exact ⟨(nilS), v7, [], c7, g4, F.sub ⟨rfl, rfl, rfl, trivial⟩, (l3.trans l4), S, (OwnS.nil _), h8⟩
    ·refine wp_condF F rfl hc1 ?_
     refine wp_exit ?_
     refine then_e ?_
     refine then_e ?_
     refine inb_x ?_
     refine then_n ?_
     obtain rfl := sinj hm
     obtain rfl := hfin1 _ rfl
     clear hm
     have hm : (textpatch_midway.j2 x6 : Option (List Middle_textpatch)) = some _ := hmo1
     replace S : St g3 [[bx b2 #[v5] 75], c5] fr w := St.tail [[bx b2 #[v5] 75], c5] _ ((S.frontC 3 rfl).frontC 2 rfl)
     exact ⟨x6, v5, c5, g3, F.sub ⟨rfl, trivial⟩, l3, S, h5, hm⟩
  ·clear F S hm; rintro a w ⟨x3, v3, c3, g2, F, l2, S, h3, hm⟩
   refine wp_seq ?_
   refine wp_region_lit ?_
   refine wE (ev_load1 tu75 rfl rfl (box_ptr (cells := [v3]) 0 rfl 0 rfl (lb rfl))) F S rfl fun a F=>?_
   refine wE (ev_assign rfl) F S rfl fun a F=>?_
   refine wpList_nil ?_
   refine then_n ?_
   refine wp_ret ?_
   obtain rfl := sinj hm
   refine post_r _ F rfl (ar_cons (resT rfl) ar_nil) ?_
   replace S : St g2 [c3] fr w := St.tail [c3] _ (S.frontC 1 rfl)
   exact ⟨_, rfl, g2, v3, c3, (l1.trans l2), S, h3, rfl⟩

theorem diff_Collector__Delete_ok {g : Gh} {fr : Hl} {w : World} {r : Collector_diff} (bc_ : Nat) (c_ : Collector_diff) (vc_1 : Value) (cc_1 : Hl) (hc_1 : OwnN g c_.hunks vc_1 cc_1) (line : ByteArray) (S : St g [[bx bc_ #[vc_1, .i6 c_.at_, .bool c_.open_] 91], cc_1] fr w) (hm : diff_Collector__Delete c_ line = some r) :
  Calls Try.prog 70 [bp bc_ 0, .string line].toArray w (fun en w' => ∃ v, en = .returned v ∧ ∃ (g' : Gh) (v1 : Value) (c1 : Hl), Le g g' ∧ St g' [[bx bc_ #[v1, .i6 r.at_, .bool r.open_] 91], c1] fr w' ∧ OwnN g' r.hunks v1 c1 ∧ .tuple #[] = v) := by
 unfold diff_Collector__Delete at hm
 refine calls_enter (fn := Try.f70) Try.func70 rfl Try.ntmps70 (lb rfl) ?_
 intro a F
 replace F : Fr 24 a [(0, bp bc_ 0), (1, .string line)] := F
 refine wp_seq ?_
 refine wp_region_lit ?_
 refine wE (ev_move rfl) F S rfl fun a F=>?_
 replace F := F.sub (e' := [(5, bp bc_ 0), (0, bp bc_ 0), (1, .string line)]) ⟨rfl, rfl, rfl, trivial⟩
 refine wl_callK (wn rfl) rfl (xs := [.tmp 5]) (vs := [bp bc_ 0]) (cap := []) (e' := [(0, bp bc_ 0), (1, .string line)]) ⟨rfl, rfl, trivial⟩ F rfl rfl tc75 rfl rfl (calls_enter (fn := Try.f75) Try.func75 rfl Try.ntmps75 (lb rfl) ?_); clear F a; intro a F
 replace F : Fr 36 a [(0, bp bc_ 0)] := F
 refine wp_seq ?_
 refine wp_region_lit ?_
 refine wE (ev_assign rfl) F S rfl fun a F=>?_
 refine wpList_nil ?_
 refine then_n ?_
 refine wp_cut (fun a w => ∃ (x1 : List Hunk) (x2 : Bool) (v1 : Value) (c1 : Hl) (g1 : Gh), Fr 36 a [(0, bp bc_ 0)] ∧ Le g g1 ∧ St g1 [[bx bc_ #[v1, .i6 c_.at_, .bool x2] 91], c1] fr w ∧ OwnN g1 x1 v1 c1 ∧ diff_Collector__Delete.j1 c_ line x1 x2 = some r) ?_ ?_
 ·refine wp_seq ?_
  refine wp_region_lit ?_
  refine wE (ev_move rfl) F S rfl fun a F=>?_
  refine wE (ev_nil rfl) F S rfl fun a F=>?_
  refine wE (ev_fieldAddr' tu91 tf91_2 (z := 0) ts4 rfl ⟨_, rfl⟩ rfl) F S rfl fun a F=>?_
  refine wE (ev_load1 tu4 rfl rfl (box_ptr (cells := [.bool c_.open_]) 0 rfl 2 rfl (lb rfl))) F S rfl fun a F=>?_
  refine wE (ev_not rfl) F S rfl fun a F=>?_
  refine wpList_nil ?_
  refine then_n ?_
  obtain ⟨hc1, hm⟩ | ⟨hc1, hm⟩ := ite_or hm
  ·refine wp_condT F rfl hc1 ?_
   refine wp_dv [] mo S ?_; clear S; intro ok1 w S
   refine dv_et ok1 0 rfl (ev_move rfl) F rfl fun a F=>?_
   refine dv_et ok1 1 rfl (ev_move rfl) F rfl fun a F=>?_
   refine dv_et ok1 2 rfl (ev_move rfl) F rfl fun a F=>?_
   refine dv_et ok1 3 rfl (ev_nil rfl) F rfl fun a F=>?_
   refine dv_et ok1 4 rfl (ev_fieldAddr' tu91 tf91_0 (z := 0) ts36 rfl ⟨_, rfl⟩ rfl) F rfl fun a F=>?_
   refine dv_ev ok1 5 rfl (ev_load1 tu36 rfl rfl (box_ptr (cells := [vc_1]) 0 rfl 0 rfl (lb rfl))) F S rfl fun a F=>?_
   refine dv_et ok1 6 rfl (ev_move rfl) F rfl fun a F=>?_
   refine dv_et ok1 7 rfl (ev_nil rfl) F rfl fun a F=>?_
   refine dv_et ok1 8 rfl (ev_fieldAddr' tu91 tf91_1 (z := 0) ts3 rfl ⟨_, rfl⟩ rfl) F rfl fun a F=>?_
   refine dv_ev ok1 9 rfl (ev_load1 tu3 rfl rfl (box_ptr (cells := [.i6 c_.at_]) 0 rfl 1 rfl (lb rfl))) F S rfl fun a F=>?_
   refine dv_et ok1 10 rfl (ev_build (parts := [(0, .tmp 17)]) (vs := [(0, .i6 c_.at_)]) rfl (fun w => tb60_0 c_.at_ w)) F rfl fun a F=>?_
   refine dv_op ok1 11 rfl [(5, vc_1)] ?_
   replace S : St g [[], [bx bc_ #[vc_1, .i6 c_.at_, .bool c_.open_] 91], cc_1] fr w := S
   replace S : St g [[], [], [bx bc_ #[vc_1, .i6 c_.at_, .bool c_.open_] 91], cc_1] fr w := S
   replace S : St g [[], [], [bx bc_ #[vc_1, .i6 c_.at_, .bool c_.open_] 91], cc_1] fr w := ((((S.frontC 3 rfl).frontC 3 rfl).frontC 2 rfl).frontC 4 rfl)
   replace S : St g [([] ++ ([] ++ [])), [bx bc_ #[vc_1, .i6 c_.at_, .bool c_.open_] 91], cc_1] fr w := S.of_eq (by simp only [fl, List.append_assoc, List.append_nil, List.nil_append])
   refine wl_lit1N (p := ({ At := c_.at_, Old := [], New := [] } : Hunk)) (wn rfl) rfl rfl tu36 te60 rfl rfl rfl (orep_Hunk_mk (x := ({ At := c_.at_, Old := [], New := [] } : Hunk)) (OwnS.nil _) (OwnS.nil _)) F S rfl rfl ?_; clear F a S
   rintro v6 c7 a w h7 F S
   refine dv_nx ⟨yl_ev rfl rfl (ev_load1 tu36 rfl rfl (box_ptr (cells := [vc_1]) 1 rfl 0 rfl (lb rfl))) F S, trivial⟩ ?_
   refine dv_op ok1 12 rfl [] ?_
   replace S : St g [cc_1, c7, [bx bc_ #[vc_1, .i6 c_.at_, .bool c_.open_] 91]] fr w := (((S.frontC 1 rfl).frontC 1 rfl).frontC 4 rfl)
   obtain ⟨y4, hy4, hm⟩ := bind_some hm
   refine wl_appendN (wn rfl) rfl tu36 tu36 te60 (by decide) (by decide) F S rfl rfl hc_1 h7 hy4 rfl rfl ?_; clear F a S
   rintro v7 c8 a w h8 S F; replace S : St g [c8, [bx bc_ #[vc_1, .i6 c_.at_, .bool c_.open_] 91]] fr w := S
   refine dv_nx trivial ?_
   refine dv_et ok1 13 rfl (ev_nil rfl) F rfl fun a F=>?_
   refine dv_et ok1 14 rfl (ev_fieldAddr' tu91 tf91_0 (z := 0) ts36 rfl ⟨_, rfl⟩ rfl) F rfl fun a F=>?_
   refine dv_op ok1 15 rfl [] ?_
   refine wl_storeC (wn rfl) rfl F S rfl rfl (vs := [v7]) (OwnN.cl h8) ts36 (one_cons (OwnN.one h8) one_nil) (k := 1) rfl (lb rfl) (c' := #[v7, .i6 c_.at_, .bool c_.open_]) rfl rfl ?_; clear S; intro w S
   refine dv_nx trivial ?_
   refine dv_et ok1 16 rfl (ev_nil rfl) F rfl fun a F=>?_
   refine dv_et ok1 17 rfl (ev_fieldAddr' tu91 tf91_2 (z := 0) ts4 rfl ⟨_, rfl⟩ rfl) F rfl fun a F=>?_
   refine dv_op ok1 18 rfl [] ?_
   refine wl_storeC (wn rfl) rfl F S rfl rfl (vs := [.bool true]) rfl ts4 (one_cons rfl one_nil) (k := 1) rfl (lb rfl) (c' := #[v7, .i6 c_.at_, .bool true]) rfl rfl ?_; clear S; intro w S
   refine dv_nx trivial ?_
   refine dv_fin ok1 ?_
   refine then_n ?_
   replace S : St g [[bx bc_ #[v7, .i6 c_.at_, .bool true] 91], c8] fr w := St.tail [[bx bc_ #[v7, .i6 c_.at_, .bool true] 91], c8] _ ((S.frontC 0 rfl).frontC 2 rfl)
   exact ⟨y4, true, v7, c8, g, F.sub ⟨rfl, trivial⟩, (Le.refl _), S, h8, hm⟩
  ·refine wp_condF F rfl hc1 ?_
   refine wp_skip ?_
   refine then_n ?_
   exact ⟨c_.hunks, c_.open_, vc_1, cc_1, g, F.sub ⟨rfl, trivial⟩, (Le.refl _), S, hc_1, hm⟩
 ·clear F S hm; rintro a w ⟨x1, x2, v1, c1, g1, F, l1, S, h1, hm⟩
  refine wp_seq ?_
  refine wp_quiet mo (by kernel_rfl) S ?_
  refine wq_ev (wn rfl) (ev_move rfl) F rfl rfl ?_; clear F a; intro a F
  refine wq_ev (wn rfl) (ev_nil rfl) F rfl rfl ?_; clear F a; intro a F
  refine wq_ev (wn rfl) (ev_fieldAddr' tu91 tf91_0 (z := 0) ts36 rfl ⟨_, rfl⟩ rfl) F rfl rfl ?_; clear F a; intro a F
  refine wq_ev (wn rfl) (ev_load1 tu36 rfl rfl (box_ptr (cells := [v1]) 0 rfl 0 rfl (lb rfl))) F rfl rfl ?_; clear F a; intro a F
  refine wq_ev (wn rfl) (ev_move rfl) F rfl rfl ?_; clear F a; intro a F
  refine wq_ev (wn rfl) (ev_nil rfl) F rfl rfl ?_; clear F a; intro a F
  refine wq_ev (wn rfl) (ev_fieldAddr' tu91 tf91_0 (z := 0) ts36 rfl ⟨_, rfl⟩ rfl) F rfl rfl ?_; clear F a; intro a F
  refine wq_ev (wn rfl) (ev_load1 tu36 rfl rfl (box_ptr (cells := [v1]) 0 rfl 0 rfl (lb rfl))) F rfl rfl ?_; clear F a; intro a F
  refine wq_ev (wn rfl) (ev_lenOwN h1 rfl tu36) F rfl rfl ?_; clear F a; intro a F
  obtain ⟨z1, hz1, hm⟩ := bind_some hm
  refine wq_ev (wn rfl) (ev_int rfl rfl (bo_sub hz1)) F rfl rfl ?_; clear F a; intro a F
  obtain ⟨y1, hy1, hm⟩ := bind_some hm
  refine wq_ev (wn rfl) (ev_idxN h1 hy1 tu36 ts60 rfl rfl) F rfl rfl ?_; clear F a; intro a F
  refine wq_ev (wn rfl) (ev_assign rfl) F rfl rfl ?_; clear F a; intro a F
  refine wq_nil ?_; clear S; intro w S
  refine then_n ?_
  refine wp_ret ?_
  refine post_r _ F rfl (ar_cons (resT rfl) ar_nil) ?_
  refine ⟨_, rfl, ?_⟩; clear F a; intro a F
  replace F : Fr 24 a [(6, elemP v1 z1 3), (0, bp bc_ 0), (1, .string line)] := F
  refine wE (ev_assign rfl) F S rfl fun a F=>?_
  refine wpList_nil ?_
  refine then_n ?_
  refine wp_seq ?_
  refine wp_region_lit ?_
  refine wE (ev_move rfl) F S rfl fun a F=>?_
  refine wE (ev_move rfl) F S rfl fun a F=>?_
  refine wE (ev_nilP (elemN_ptr h1 hy1) rfl) F S rfl fun a F=>?_
  refine wE (ev_fieldAddr' tu60 tf60_1 (z := 0) ts31 rfl (elemN_ptr h1 hy1) rfl) F S rfl fun a F=>?_
  replace S : St g1 [c1, [bx bc_ #[v1, .i6 c_.at_, .bool x2] 91]] fr w := ((S.frontC 0 rfl).frontC 2 rfl)
  obtain ⟨cs1, ca1, cr1, ci1, hH1, hR1, hP1⟩ := OwnN.hole h1 hy1
  replace S : St g1 [ca1, cr1, ci1, [bx bc_ #[v1, .i6 c_.at_, .bool x2] 91]] fr w := St.split3 hP1 S
  obtain ⟨v2, c2, v3, c3, rfl, rfl, h2, h3⟩ := orep_Hunk hR1
  replace S : St g1 [ca1, cr1, c2, c3, [bx bc_ #[v1, .i6 c_.at_, .bool x2] 91]] fr w := S.of_eq (by simp only [fl, List.append_assoc, List.append_nil, List.nil_append])
  refine wE (ev_load1 tu31 rfl rfl (fun w s => fieldP (cells := [v2]) 1 ((HoleN.ptr hH1 _ _ 0 rfl) w s) rfl (lb rfl))) F S rfl fun a F=>?_
  refine wE (ev_move rfl) F S rfl fun a F=>?_
  refine wl_lit (l := ([line] : List ByteArray)) (vs := [.string line]) (parts := [(0, .tmp 12)]) (wn rfl) rfl rfl rfl tu31 te9 (sz_cons rfl sz_nil) rfl (Cat.cons (show Rep.rep _ line _ from rfl) (Cat.nil _)) (coa_cons rfl coa_nil) rfl F S rfl rfl ?_; clear F a S
  rintro v4 c4 a w h4 F S
  obtain ⟨cs2, hk1, hr1⟩ := OwnS.reads h4
  obtain ⟨y2, hy2, hm⟩ := bind_some hm
  refine wl_append (wn rfl) rfl tu31 tu31 te9 (by decide) (by decide) F S rfl rfl (k := 3) rfl h2 hk1 rfl (hr1 _ _ _ 0 rfl S) hy2 rfl rfl ?_; clear F a S
  rintro v5 c5 a w h5 S F; replace S : St g1 [c4, ca1, cr1, c5, c3, [bx bc_ #[v1, .i6 c_.at_, .bool x2] 91]] fr w := S
  refine wE (ev_nilP (elemH_ptr hH1) rfl) F S rfl fun a F=>?_
  refine wE (ev_fieldAddr' tu60 tf60_1 (z := 0) ts31 rfl (elemH_ptr hH1) rfl) F S rfl fun a F=>?_
  refine wl_storeH 1 (wn rfl) rfl F S hH1 rfl rfl rfl (us := [v5]) (OwnS.cl h5) ts31 (one_cons (OwnS.one h5) one_nil) (k := 1) rfl (lb rfl) (cs' := [.i6 y1.At, v5, v3]) rfl rfl ?_; clear S
  rintro ca2 w hH2 S; replace S : St g1 [c4, ca2, cr1, c5, c3, [bx bc_ #[v1, .i6 c_.at_, .bool x2] 91]] fr w := S
  refine wpList_nil ?_
  refine then_n ?_
  refine wp_region_lit ?_
  refine wE (ev_move rfl) F S rfl fun a F=>?_
  refine wE (ev_nil rfl) F S rfl fun a F=>?_
  refine wE (ev_fieldAddr' tu91 tf91_1 (z := 0) ts3 rfl ⟨_, rfl⟩ rfl) F S rfl fun a F=>?_
  refine wE (ev_load1 tu3 rfl rfl (box_ptr (cells := [.i6 c_.at_]) 5 rfl 1 rfl (lb rfl))) F S rfl fun a F=>?_
  obtain ⟨z2, hz2, hm⟩ := bind_some hm
  refine wE (ev_int rfl rfl (bo_add hz2)) F S rfl fun a F=>?_
  refine wE (ev_nil rfl) F S rfl fun a F=>?_
  refine wE (ev_fieldAddr' tu91 tf91_1 (z := 0) ts3 rfl ⟨_, rfl⟩ rfl) F S rfl fun a F=>?_
  refine wl_storeC (wn rfl) rfl F S rfl rfl (vs := [.i6 z2]) rfl ts3 (one_cons rfl one_nil) (k := 5) rfl (lb rfl) (c' := #[v1, .i6 z2, .bool x2]) rfl rfl ?_; clear S; intro w S
  refine wpList_nil ?_
  replace S : St g1 [ca2, cr1, c5, c3, c4, [bx bc_ #[v1, .i6 z2, .bool x2] 91]] fr w := ((((((S.frontC 5 rfl).frontC 1 rfl).frontC 6 rfl).frontC 6 rfl).frontC 6 rfl).frontC 6 rfl)
  obtain ⟨y3, hy3, hm⟩ := bind_some hm
  have h6 := HoleN.shut hH2 (orep_Hunk_mk (x := ({ At := y1.At, Old := y2, New := y1.New } : Hunk)) h5 h3); replace h6 : OwnN g1 y3 v1 (ca2 ++ (cr1 ++ (c5 ++ (c3 ++ [])))) := sinj hy3 ▸ h6
  replace S : St g1 [(ca2 ++ (cr1 ++ (c5 ++ (c3 ++ [])))), c4, [bx bc_ #[v1, .i6 z2, .bool x2] 91]] fr w := S.of_eq (by simp only [fl, List.append_assoc, List.append_nil, List.nil_append])
  generalize (ca2 ++ (cr1 ++ (c5 ++ (c3 ++ [])))) = c6 at S h6
  replace F := F.sub (e' := [(23, bp bc_ 1), (22, bp bc_ 0), (21, .i6 z2), (20, .i6 c_.at_), (19, bp bc_ 1), (18, bp bc_ 0), (17, bp bc_ 0), (16, addP (elemP v1 z1 3) 1), (15, elemP v1 z1 3), (13, v4), (12, .string line), (11, v2), (10, addP (elemP v1 z1 3) 1), (9, elemP v1 z1 3), (8, elemP v1 z1 3), (7, elemP v1 z1 3), (4, elemP v1 z1 3), (6, elemP v1 z1 3), (0, bp bc_ 0), (1, .string line)]) ⟨rfl, rfl, rfl, rfl, rfl, rfl, rfl, rfl, rfl, rfl, rfl, rfl, rfl, rfl, rfl, rfl, rfl, rfl, rfl, rfl, trivial⟩
  obtain rfl := sinj hm
  refine post_n _ F rfl ar_nil ?_
  replace S : St g1 [[bx bc_ #[v1, .i6 z2, .bool x2] 91], c6] fr w := St.tail [[bx bc_ #[v1, .i6 z2, .bool x2] 91], c6] _ ((S.frontC 0 rfl).frontC 3 rfl)
  exact ⟨_, rfl, g1, v1, c6, l1, S, h6, rfl⟩

theorem diff_Collector__Insert_ok {g : Gh} {fr : Hl} {w : World} {r : Collector_diff} (bc_ : Nat) (c_ : Collector_diff) (vc_1 : Value) (cc_1 : Hl) (hc_1 : OwnN g c_.hunks vc_1 cc_1) (line : ByteArray) (S : St g [[bx bc_ #[vc_1, .i6 c_.at_, .bool c_.open_] 91], cc_1] fr w) (hm : diff_Collector__Insert c_ line = some r) :
  Calls Try.prog 71 [bp bc_ 0, .string line].toArray w (fun en w' => ∃ v, en = .returned v ∧ ∃ (g' : Gh) (v1 : Value) (c1 : Hl), Le g g' ∧ St g' [[bx bc_ #[v1, .i6 r.at_, .bool r.open_] 91], c1] fr w' ∧ OwnN g' r.hunks v1 c1 ∧ .tuple #[] = v) := by
 unfold diff_Collector__Insert at hm
 refine calls_enter (fn := Try.f71) Try.func71 rfl Try.ntmps71 (lb rfl) ?_
 intro a F
 replace F : Fr 17 a [(0, bp bc_ 0), (1, .string line)] := F
 refine wp_seq ?_
 refine wp_region_lit ?_
 refine wE (ev_move rfl) F S rfl fun a F=>?_
 replace F := F.sub (e' := [(5, bp bc_ 0), (0, bp bc_ 0), (1, .string line)]) ⟨rfl, rfl, rfl, trivial⟩
 refine wl_callK (wn rfl) rfl (xs := [.tmp 5]) (vs := [bp bc_ 0]) (cap := []) (e' := [(0, bp bc_ 0), (1, .string line)]) ⟨rfl, rfl, trivial⟩ F rfl rfl tc75 rfl rfl (calls_enter (fn := Try.f75) Try.func75 rfl Try.ntmps75 (lb rfl) ?_); clear F a; intro a F
 replace F : Fr 36 a [(0, bp bc_ 0)] := F
 refine wp_seq ?_
 refine wp_region_lit ?_
 refine wE (ev_assign rfl) F S rfl fun a F=>?_
 refine wpList_nil ?_
 refine then_n ?_
 refine wp_cut (fun a w => ∃ (x1 : List Hunk) (x2 : Bool) (v1 : Value) (c1 : Hl) (g1 : Gh), Fr 36 a [(0, bp bc_ 0)] ∧ Le g g1 ∧ St g1 [[bx bc_ #[v1, .i6 c_.at_, .bool x2] 91], c1] fr w ∧ OwnN g1 x1 v1 c1 ∧ diff_Collector__Insert.j1 c_ line x1 x2 = some r) ?_ ?_
 ·refine wp_seq ?_
  refine wp_region_lit ?_
  refine wE (ev_move rfl) F S rfl fun a F=>?_
  refine wE (ev_nil rfl) F S rfl fun a F=>?_
  refine wE (ev_fieldAddr' tu91 tf91_2 (z := 0) ts4 rfl ⟨_, rfl⟩ rfl) F S rfl fun a F=>?_
  refine wE (ev_load1 tu4 rfl rfl (box_ptr (cells := [.bool c_.open_]) 0 rfl 2 rfl (lb rfl))) F S rfl fun a F=>?_
  refine wE (ev_not rfl) F S rfl fun a F=>?_
  refine wpList_nil ?_
  refine then_n ?_
  obtain ⟨hc1, hm⟩ | ⟨hc1, hm⟩ := ite_or hm
  ·refine wp_condT F rfl hc1 ?_
   refine wp_dv [] mo S ?_; clear S; intro ok1 w S
   refine dv_et ok1 0 rfl (ev_move rfl) F rfl fun a F=>?_
   refine dv_et ok1 1 rfl (ev_move rfl) F rfl fun a F=>?_
   refine dv_et ok1 2 rfl (ev_move rfl) F rfl fun a F=>?_
   refine dv_et ok1 3 rfl (ev_nil rfl) F rfl fun a F=>?_
   refine dv_et ok1 4 rfl (ev_fieldAddr' tu91 tf91_0 (z := 0) ts36 rfl ⟨_, rfl⟩ rfl) F rfl fun a F=>?_
   refine dv_ev ok1 5 rfl (ev_load1 tu36 rfl rfl (box_ptr (cells := [vc_1]) 0 rfl 0 rfl (lb rfl))) F S rfl fun a F=>?_
   refine dv_et ok1 6 rfl (ev_move rfl) F rfl fun a F=>?_
   refine dv_et ok1 7 rfl (ev_nil rfl) F rfl fun a F=>?_
   refine dv_et ok1 8 rfl (ev_fieldAddr' tu91 tf91_1 (z := 0) ts3 rfl ⟨_, rfl⟩ rfl) F rfl fun a F=>?_
   refine dv_ev ok1 9 rfl (ev_load1 tu3 rfl rfl (box_ptr (cells := [.i6 c_.at_]) 0 rfl 1 rfl (lb rfl))) F S rfl fun a F=>?_
   refine dv_et ok1 10 rfl (ev_build (parts := [(0, .tmp 17)]) (vs := [(0, .i6 c_.at_)]) rfl (fun w => tb60_0 c_.at_ w)) F rfl fun a F=>?_
   refine dv_op ok1 11 rfl [(5, vc_1)] ?_
   replace S : St g [[], [bx bc_ #[vc_1, .i6 c_.at_, .bool c_.open_] 91], cc_1] fr w := S
   replace S : St g [[], [], [bx bc_ #[vc_1, .i6 c_.at_, .bool c_.open_] 91], cc_1] fr w := S
   replace S : St g [[], [], [bx bc_ #[vc_1, .i6 c_.at_, .bool c_.open_] 91], cc_1] fr w := ((((S.frontC 3 rfl).frontC 3 rfl).frontC 2 rfl).frontC 4 rfl)
   replace S : St g [([] ++ ([] ++ [])), [bx bc_ #[vc_1, .i6 c_.at_, .bool c_.open_] 91], cc_1] fr w := S.of_eq (by simp only [fl, List.append_assoc, List.append_nil, List.nil_append])
   refine wl_lit1N (p := ({ At := c_.at_, Old := [], New := [] } : Hunk)) (wn rfl) rfl rfl tu36 te60 rfl rfl rfl (orep_Hunk_mk (x := ({ At := c_.at_, Old := [], New := [] } : Hunk)) (OwnS.nil _) (OwnS.nil _)) F S rfl rfl ?_; clear F a S
   rintro v6 c7 a w h7 F S
   refine dv_nx ⟨yl_ev rfl rfl (ev_load1 tu36 rfl rfl (box_ptr (cells := [vc_1]) 1 rfl 0 rfl (lb rfl))) F S, trivial⟩ ?_
   refine dv_op ok1 12 rfl [] ?_
   replace S : St g [cc_1, c7, [bx bc_ #[vc_1, .i6 c_.at_, .bool c_.open_] 91]] fr w := (((S.frontC 1 rfl).frontC 1 rfl).frontC 4 rfl)
   obtain ⟨y4, hy4, hm⟩ := bind_some hm
   refine wl_appendN (wn rfl) rfl tu36 tu36 te60 (by decide) (by decide) F S rfl rfl hc_1 h7 hy4 rfl rfl ?_; clear F a S
   rintro v7 c8 a w h8 S F; replace S : St g [c8, [bx bc_ #[vc_1, .i6 c_.at_, .bool c_.open_] 91]] fr w := S
   refine dv_nx trivial ?_
   refine dv_et ok1 13 rfl (ev_nil rfl) F rfl fun a F=>?_
   refine dv_et ok1 14 rfl (ev_fieldAddr' tu91 tf91_0 (z := 0) ts36 rfl ⟨_, rfl⟩ rfl) F rfl fun a F=>?_
   refine dv_op ok1 15 rfl [] ?_
   refine wl_storeC (wn rfl) rfl F S rfl rfl (vs := [v7]) (OwnN.cl h8) ts36 (one_cons (OwnN.one h8) one_nil) (k := 1) rfl (lb rfl) (c' := #[v7, .i6 c_.at_, .bool c_.open_]) rfl rfl ?_; clear S; intro w S
   refine dv_nx trivial ?_
   refine dv_et ok1 16 rfl (ev_nil rfl) F rfl fun a F=>?_
   refine dv_et ok1 17 rfl (ev_fieldAddr' tu91 tf91_2 (z := 0) ts4 rfl ⟨_, rfl⟩ rfl) F rfl fun a F=>?_
   refine dv_op ok1 18 rfl [] ?_
   refine wl_storeC (wn rfl) rfl F S rfl rfl (vs := [.bool true]) rfl ts4 (one_cons rfl one_nil) (k := 1) rfl (lb rfl) (c' := #[v7, .i6 c_.at_, .bool true]) rfl rfl ?_; clear S; intro w S
   refine dv_nx trivial ?_
   refine dv_fin ok1 ?_
   refine then_n ?_
   replace S : St g [[bx bc_ #[v7, .i6 c_.at_, .bool true] 91], c8] fr w := St.tail [[bx bc_ #[v7, .i6 c_.at_, .bool true] 91], c8] _ ((S.frontC 0 rfl).frontC 2 rfl)
   exact ⟨y4, true, v7, c8, g, F.sub ⟨rfl, trivial⟩, (Le.refl _), S, h8, hm⟩
  ·refine wp_condF F rfl hc1 ?_
   refine wp_skip ?_
   refine then_n ?_
   exact ⟨c_.hunks, c_.open_, vc_1, cc_1, g, F.sub ⟨rfl, trivial⟩, (Le.refl _), S, hc_1, hm⟩
 ·clear F S hm; rintro a w ⟨x1, x2, v1, c1, g1, F, l1, S, h1, hm⟩
  refine wp_seq ?_
  refine wp_quiet mo (by kernel_rfl) S ?_
  refine wq_ev (wn rfl) (ev_move rfl) F rfl rfl ?_; clear F a; intro a F
  refine wq_ev (wn rfl) (ev_nil rfl) F rfl rfl ?_; clear F a; intro a F
  refine wq_ev (wn rfl) (ev_fieldAddr' tu91 tf91_0 (z := 0) ts36 rfl ⟨_, rfl⟩ rfl) F rfl rfl ?_; clear F a; intro a F
  refine wq_ev (wn rfl) (ev_load1 tu36 rfl rfl (box_ptr (cells := [v1]) 0 rfl 0 rfl (lb rfl))) F rfl rfl ?_; clear F a; intro a F
  refine wq_ev (wn rfl) (ev_move rfl) F rfl rfl ?_; clear F a; intro a F
  refine wq_ev (wn rfl) (ev_nil rfl) F rfl rfl ?_; clear F a; intro a F
  refine wq_ev (wn rfl) (ev_fieldAddr' tu91 tf91_0 (z := 0) ts36 rfl ⟨_, rfl⟩ rfl) F rfl rfl ?_; clear F a; intro a F
  refine wq_ev (wn rfl) (ev_load1 tu36 rfl rfl (box_ptr (cells := [v1]) 0 rfl 0 rfl (lb rfl))) F rfl rfl ?_; clear F a; intro a F
  refine wq_ev (wn rfl) (ev_lenOwN h1 rfl tu36) F rfl rfl ?_; clear F a; intro a F
  obtain ⟨z1, hz1, hm⟩ := bind_some hm
  refine wq_ev (wn rfl) (ev_int rfl rfl (bo_sub hz1)) F rfl rfl ?_; clear F a; intro a F
  obtain ⟨y1, hy1, hm⟩ := bind_some hm
  refine wq_ev (wn rfl) (ev_idxN h1 hy1 tu36 ts60 rfl rfl) F rfl rfl ?_; clear F a; intro a F
  refine wq_ev (wn rfl) (ev_assign rfl) F rfl rfl ?_; clear F a; intro a F
  refine wq_nil ?_; clear S; intro w S
  refine then_n ?_
  refine wp_ret ?_
  refine post_r _ F rfl (ar_cons (resT rfl) ar_nil) ?_
  refine ⟨_, rfl, ?_⟩; clear F a; intro a F
  replace F : Fr 17 a [(6, elemP v1 z1 3), (0, bp bc_ 0), (1, .string line)] := F
  refine wE (ev_assign rfl) F S rfl fun a F=>?_
  refine wpList_nil ?_
  refine then_n ?_
  refine wp_region_lit ?_
  refine wE (ev_move rfl) F S rfl fun a F=>?_
  refine wE (ev_move rfl) F S rfl fun a F=>?_
  refine wE (ev_nilP (elemN_ptr h1 hy1) rfl) F S rfl fun a F=>?_
  refine wE (ev_fieldAddr' tu60 tf60_2 (z := 0) ts31 rfl (elemN_ptr h1 hy1) rfl) F S rfl fun a F=>?_
  replace S : St g1 [c1, [bx bc_ #[v1, .i6 c_.at_, .bool x2] 91]] fr w := ((S.frontC 0 rfl).frontC 2 rfl)
  obtain ⟨cs1, ca1, cr1, ci1, hH1, hR1, hP1⟩ := OwnN.hole h1 hy1
  replace S : St g1 [ca1, cr1, ci1, [bx bc_ #[v1, .i6 c_.at_, .bool x2] 91]] fr w := St.split3 hP1 S
  obtain ⟨v2, c2, v3, c3, rfl, rfl, h2, h3⟩ := orep_Hunk hR1
  replace S : St g1 [ca1, cr1, c2, c3, [bx bc_ #[v1, .i6 c_.at_, .bool x2] 91]] fr w := S.of_eq (by simp only [fl, List.append_assoc, List.append_nil, List.nil_append])
  refine wE (ev_load1 tu31 rfl rfl (fun w s => fieldP (cells := [v3]) 2 ((HoleN.ptr hH1 _ _ 0 rfl) w s) rfl (lb rfl))) F S rfl fun a F=>?_
  refine wE (ev_move rfl) F S rfl fun a F=>?_
  refine wl_lit (l := ([line] : List ByteArray)) (vs := [.string line]) (parts := [(0, .tmp 12)]) (wn rfl) rfl rfl rfl tu31 te9 (sz_cons rfl sz_nil) rfl (Cat.cons (show Rep.rep _ line _ from rfl) (Cat.nil _)) (coa_cons rfl coa_nil) rfl F S rfl rfl ?_; clear F a S
  rintro v4 c4 a w h4 F S
  obtain ⟨cs2, hk1, hr1⟩ := OwnS.reads h4
  obtain ⟨y2, hy2, hm⟩ := bind_some hm
  refine wl_append (wn rfl) rfl tu31 tu31 te9 (by decide) (by decide) F S rfl rfl (k := 4) rfl h3 hk1 rfl (hr1 _ _ _ 0 rfl S) hy2 rfl rfl ?_; clear F a S
  rintro v5 c5 a w h5 S F; replace S : St g1 [c4, ca1, cr1, c2, c5, [bx bc_ #[v1, .i6 c_.at_, .bool x2] 91]] fr w := S
  refine wE (ev_nilP (elemH_ptr hH1) rfl) F S rfl fun a F=>?_
  refine wE (ev_fieldAddr' tu60 tf60_2 (z := 0) ts31 rfl (elemH_ptr hH1) rfl) F S rfl fun a F=>?_
  refine wl_storeH 2 (wn rfl) rfl F S hH1 rfl rfl rfl (us := [v5]) (OwnS.cl h5) ts31 (one_cons (OwnS.one h5) one_nil) (k := 1) rfl (lb rfl) (cs' := [.i6 y1.At, v2, v5]) rfl rfl ?_; clear S
  rintro ca2 w hH2 S; replace S : St g1 [c4, ca2, cr1, c2, c5, [bx bc_ #[v1, .i6 c_.at_, .bool x2] 91]] fr w := S
  refine wpList_nil ?_
  replace S : St g1 [ca2, cr1, c2, c5, c4, [bx bc_ #[v1, .i6 c_.at_, .bool x2] 91]] fr w := ((((((S.frontC 5 rfl).frontC 1 rfl).frontC 6 rfl).frontC 6 rfl).frontC 6 rfl).frontC 6 rfl)
  obtain ⟨y3, hy3, hm⟩ := bind_some hm
  have h6 := HoleN.shut hH2 (orep_Hunk_mk (x := ({ At := y1.At, Old := y1.Old, New := y2 } : Hunk)) h2 h5); replace h6 : OwnN g1 y3 v1 (ca2 ++ (cr1 ++ (c2 ++ (c5 ++ [])))) := sinj hy3 ▸ h6
  replace S : St g1 [(ca2 ++ (cr1 ++ (c2 ++ (c5 ++ [])))), c4, [bx bc_ #[v1, .i6 c_.at_, .bool x2] 91]] fr w := S.of_eq (by simp only [fl, List.append_assoc, List.append_nil, List.nil_append])
  generalize (ca2 ++ (cr1 ++ (c2 ++ (c5 ++ [])))) = c6 at S h6
  replace F := F.sub (e' := [(16, addP (elemP v1 z1 3) 2), (15, elemP v1 z1 3), (13, v4), (12, .string line), (11, v3), (10, addP (elemP v1 z1 3) 2), (9, elemP v1 z1 3), (8, elemP v1 z1 3), (7, elemP v1 z1 3), (4, elemP v1 z1 3), (6, elemP v1 z1 3), (0, bp bc_ 0), (1, .string line)]) ⟨rfl, rfl, rfl, rfl, rfl, rfl, rfl, rfl, rfl, rfl, rfl, rfl, rfl, trivial⟩
  obtain rfl := sinj hm
  refine post_n _ F rfl ar_nil ?_
  replace S : St g1 [[bx bc_ #[v1, .i6 c_.at_, .bool x2] 91], c6] fr w := St.tail [[bx bc_ #[v1, .i6 c_.at_, .bool x2] 91], c6] _ ((S.frontC 0 rfl).frontC 3 rfl)
  exact ⟨_, rfl, g1, v1, c6, l1, S, h6, rfl⟩

theorem diff_Collector__Keep_ok {g : Gh} {fr : Hl} {w : World} {r : Collector_diff} (bc_ : Nat) (c_ : Collector_diff) (vc_1 : Value) (cc_1 : Hl) (hc_1 : OwnN g c_.hunks vc_1 cc_1) (n_ : Int) (S : St g [[bx bc_ #[vc_1, .i6 c_.at_, .bool c_.open_] 91], cc_1] fr w) (hm : diff_Collector__Keep c_ n_ = some r) :
  Calls Try.prog 72 [bp bc_ 0, .i6 n_].toArray w (fun en w' => ∃ v, en = .returned v ∧ ∃ (g' : Gh) (v1 : Value) (c1 : Hl), Le g g' ∧ St g' [[bx bc_ #[v1, .i6 r.at_, .bool r.open_] 91], c1] fr w' ∧ OwnN g' r.hunks v1 c1 ∧ .tuple #[] = v) := by
 unfold diff_Collector__Keep at hm
 refine calls_enter (fn := Try.f72) Try.func72 rfl Try.ntmps72 (lb rfl) ?_
 intro a F
 replace F : Fr 18 a [(0, bp bc_ 0), (1, .i6 n_)] := F
 refine wp_seq ?_
 refine wp_region_lit ?_
 refine wE (ev_move rfl) F S rfl fun a F=>?_
 refine wE (ev_int rfl rfl (bo_gtr _ _ _ _)) F S rfl fun a F=>?_
 refine wpList_nil ?_
 refine then_n ?_
 obtain ⟨hc1, hm⟩ | ⟨hc1, hm⟩ := ite_or hm
 ·refine wp_condT F rfl hc1 ?_
  refine wp_region_lit ?_
  refine wE (ev_move rfl) F S rfl fun a F=>?_
  refine wE (ev_move rfl) F S rfl fun a F=>?_
  refine wE (ev_move rfl) F S rfl fun a F=>?_
  refine wE (ev_nil rfl) F S rfl fun a F=>?_
  refine wE (ev_fieldAddr' tu91 tf91_1 (z := 0) ts3 rfl ⟨_, rfl⟩ rfl) F S rfl fun a F=>?_
  refine wE (ev_load1 tu3 rfl rfl (box_ptr (cells := [.i6 c_.at_]) 0 rfl 1 rfl (lb rfl))) F S rfl fun a F=>?_
  refine wE (ev_move rfl) F S rfl fun a F=>?_
  obtain ⟨z1, hz1, hm⟩ := bind_some hm
  refine wE (ev_int rfl rfl (bo_add hz1)) F S rfl fun a F=>?_
  refine wE (ev_nil rfl) F S rfl fun a F=>?_
  refine wE (ev_fieldAddr' tu91 tf91_1 (z := 0) ts3 rfl ⟨_, rfl⟩ rfl) F S rfl fun a F=>?_
  refine wl_storeC (wn rfl) rfl F S rfl rfl (vs := [.i6 z1]) rfl ts3 (one_cons rfl one_nil) (k := 0) rfl (lb rfl) (c' := #[vc_1, .i6 z1, .bool c_.open_]) rfl rfl ?_; clear S; intro w S
  refine wE (ev_nil rfl) F S rfl fun a F=>?_
  refine wE (ev_fieldAddr' tu91 tf91_2 (z := 0) ts4 rfl ⟨_, rfl⟩ rfl) F S rfl fun a F=>?_
  refine wl_storeC (wn rfl) rfl F S rfl rfl (vs := [.bool false]) rfl ts4 (one_cons rfl one_nil) (k := 0) rfl (lb rfl) (c' := #[vc_1, .i6 z1, .bool false]) rfl rfl ?_; clear S; intro w S
  refine wpList_nil ?_
  obtain rfl := sinj hm
  refine post_n _ F rfl ar_nil ?_
  exact ⟨_, rfl, g, vc_1, cc_1, (Le.refl _), S, hc_1, rfl⟩
 ·refine wp_condF F rfl hc1 ?_
  refine wp_skip ?_
  obtain rfl := sinj hm
  refine post_n _ F rfl ar_nil ?_
  exact ⟨_, rfl, g, vc_1, cc_1, (Le.refl _), S, hc_1, rfl⟩
end Go.Dc
