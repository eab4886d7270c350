/- Walks: each function comes to what its model says. -/
import Derived.Test.YtgcjgmfdnhimmaaDcTab
import Derived.Test.YtgcjgmfdnhimmaaDcM
import Derived.Test.YtgcjgmfdnhimmaaDcW1
import Derived.Test.YtgcjgmfdnhimmaaDcW14
namespace Go.Dc
open Go Go.Proofs
set_option maxRecDepth 100000
set_option maxHeartbeats 4000000
set_option linter.unusedVariables false
theorem textpatch_walk_ok {g : Gh} {fr : Hl} {w : World} {r : Patch} (mid : (List Middle_textpatch)) (vmid1 : Value) (hmid1 : RepSl g mid vmid1) (q_ : Patch) (vq_1 : Value) (hq_1 : RepSl g q_.Hunks vq_1) (S : St g [] fr w) (hm : textpatch_walk mid q_ = some r) :
  Calls Try.prog 59 [vmid1, .agg #[vq_1]].toArray w (fun en w' => ∃ v, en = .returned v ∧ ∃ (g' : Gh) (v1 : Value), Le g g' ∧ St g' [] fr w' ∧ RepSl g' r.Hunks v1 ∧ .agg #[v1] = v) := by
 unfold textpatch_walk at hm
 refine calls_enter (fn := Try.f59) Try.func59 rfl Try.ntmps59 (lb rfl) ?_
 intro a F
 replace F : Fr 91 a [(0, vmid1), (1, .agg #[vq_1])] := F
 refine wp_seq ?_
 refine wp_region_lit ?_
 refine wl_boxC (wn rfl) rfl rfl rfl F S rfl rfl ?_; clear F a S; rintro b1 a w F S
 refine wl_alloc (wn rfl) rfl tz38 (cs := [nilS]) rfl F S rfl rfl ?_; clear F a S; rintro b2 a w F S
 refine wpList_nil ?_
 refine then_n ?_
 refine wp_seq ?_
 refine wp_region_lit ?_
 refine wl_alloc (wn rfl) rfl tz91 (cs := [nilS, .i6 0, .bool false]) rfl F S rfl rfl ?_; clear F a S; rintro b3 a w F S
 refine wpList_nil ?_
 refine then_n ?_
 refine wp_seq ?_
 refine wp_region_lit ?_
 refine wE (ev_assign rfl) F S rfl fun a F=>?_
 refine wpList_nil ?_
 refine then_n ?_
 refine wp_seq ?_
 refine wp_region_lit ?_
 refine wE (ev_makeFunc (xs := [.tmp 5]) (vs := [bp b3 0]) rfl) F S rfl fun a F=>?_
 refine wE (ev_assign rfl) F S rfl fun a F=>?_
 refine wpList_nil ?_
 refine then_n ?_
 refine wp_cut (fun a w => ∃ (x1 : Int) (x2 : List Hunk) (x3 : Int) (x4 : Bool) (v1 : Value) (c1 : Hl) (g1 : Gh), Fr 91 a [(7, .func (.func 69) #[] #[bp b3 0]), (6, .i6 x1), (5, bp b3 0), (4, bp b2 0), (0, vmid1)] ∧ Le g g1 ∧ St g1 [[bx b3 #[v1, .i6 x3, .bool x4] 91], [bx b2 #[nilS] 38], c1] fr w ∧ OwnN g1 x2 v1 c1 ∧ textpatch_walk.j1 mid x1 x2 x3 x4 = some r) ?_ ?_
 ·refine wp_seq ?_
  refine wp_region_lit ?_
  refine wE (ev_fieldAddr' tu38 tf38_0 (z := 0) ts36 rfl ⟨_, rfl⟩ rfl) F S rfl fun a F=>?_
  refine wE (ev_load1 tu36 rfl rfl (box_ptr (cells := [vq_1]) 2 rfl 0 rfl (lb rfl))) F S rfl fun a F=>?_
  refine wE (ev_lenSh hq_1 rfl tu36) F S rfl fun a F=>?_
  refine wE (ev_move rfl) F S rfl fun a F=>?_
  refine wpList_nil ?_
  refine then_n ?_
  refine wp_block ?_
  obtain ⟨r3, hr5, hm⟩ := bind_some hm
  have hmo3 := hm; clear hm
  refine wp_iter (σ := Int × Int × (List Hunk) × Int × Bool) (ρ := Int × (List Hunk) × Int × Bool) (m := fun s => textpatch_walk.l3 mid q_ s.1 s.2.1 s.2.2.1 s.2.2.2.1 s.2.2.2.2) (I := fun s a w => match s with | (x24, x25, x26, x27, x28) => ∃ (v11 : Value) (c10 : Hl) (g11 : Gh), Fr 91 a [(20, .i6 x24), (19, .i6 (q_.Hunks.length : Int)), (18, vq_1), (7, .func (.func 69) #[] #[bp b3 0]), (6, .i6 x25), (5, bp b3 0), (4, bp b2 0), (0, vmid1)] ∧ Le g g11 ∧ St g11 [[bx b3 #[v11, .i6 x27, .bool x28] 91], [bx b2 #[nilS] 38], c10] fr w ∧ OwnN g11 x26 v11 c10) hr5 ?_ ?_
  ·dsimp only
   replace S : St g [[], [bx b3 #[nilS, .i6 0, .bool false] 91], [bx b2 #[nilS] 38], [bx b1 #[vq_1] 38]] fr w := S
   replace S : St g [[bx b3 #[nilS, .i6 0, .bool false] 91], [bx b2 #[nilS] 38], []] fr w := St.tail [[bx b3 #[nilS, .i6 0, .bool false] 91], [bx b2 #[nilS] 38], []] _ (((S.frontC 0 rfl).frontC 3 rfl).frontC 3 rfl)
   exact ⟨(nilS), [], g, F.sub ⟨rfl, rfl, rfl, rfl, rfl, rfl, rfl, rfl, trivial⟩, (Le.refl _), S, (OwnN.nil _)⟩
  ·clear F S; rintro ⟨x24, x25, x26, x27, x28⟩ a w x29 ⟨v11, c10, g11, F, l11, S, h12⟩ hx3 hfin3
   have hm : textpatch_walk.l3 mid q_ x24 x25 x26 x27 x28 = some x29 := hx3; clear hx3
   unfold textpatch_walk.l3 at hm
   refine wp_seq ?_
   refine wp_region_lit ?_
   refine wE (ev_int rfl rfl (bo_lss _ _ _ _)) F S rfl fun a F=>?_
   refine wpList_nil ?_
   refine then_n ?_
   refine wp_seq ?_
   obtain ⟨hc4, hm⟩ | ⟨hc4, hm⟩ := ite_or hm
   ·refine wp_condT F rfl hc4 ?_
    refine wp_skip ?_
    refine then_n ?_
    refine wp_cut (fun a w => ∃ (x30 : Int) (x31 : List Hunk) (x32 : Int) (x33 : Bool) (v12 : Value) (c11 : Hl) (g12 : Gh), Fr 91 a [(20, .i6 x24), (19, .i6 (q_.Hunks.length : Int)), (18, vq_1), (7, .func (.func 69) #[] #[bp b3 0]), (6, .i6 x30), (5, bp b3 0), (4, bp b2 0), (0, vmid1)] ∧ Le g11 g12 ∧ St g12 [[bx b3 #[v12, .i6 x32, .bool x33] 91], [bx b2 #[nilS] 38], c11] fr w ∧ OwnN g12 x31 v12 c11 ∧ textpatch_walk.j5 x24 x30 x31 x32 x33 = some x29) ?_ ?_
    ·refine wp_block ?_
     refine wp_seq ?_
     refine wp_region_lit ?_
     obtain ⟨y6, hy6, hm⟩ := bind_some hm
     obtain ⟨cs3, hr6, hp3⟩ := elemS (hq_1.mono l11) hy6
     obtain ⟨v13, v14, rfl, h14, h15⟩ := rep_Hunk hr6
     refine wE (ev_idxS (hq_1.mono l11) hy6 tu36 ts60 rfl rfl) F S rfl fun a F=>?_
     refine wE (ev_loadA tu60 rfl (cs := [.i6 y6.At, v13, v14]) ts60 rfl (ptr_mono (cks := [[bx b3 #[v11, .i6 x27, .bool x28] 91], [bx b2 #[nilS] 38], c10]) (fr := fr) hp3 (Le.refl _))) F S rfl fun a F=>?_
     refine wl_alloc (wn rfl) rfl tz60 (cs := [.i6 0, nilS, nilS]) rfl F S rfl rfl ?_; clear F a S; rintro b6 a w F S
     refine wl_storeC (wn rfl) rfl F S rfl rfl (vs := [.i6 y6.At, v13, v14]) rfl ts60 (one_cons rfl (one_cons h14.one (one_cons h15.one one_nil))) (k := 0) rfl (lb rfl) (c' := #[.i6 y6.At, v13, v14]) rfl rfl ?_; clear S; intro w S
     refine wpList_nil ?_
     refine then_n ?_
     refine wp_cut (fun a w => ∃ (x34 : Int) (x35 : List Hunk) (x36 : Int) (x37 : Bool) (v15 : Value) (c12 : Hl) (g13 : Gh), Fr 91 a [(9, bp b6 0), (20, .i6 x24), (19, .i6 (q_.Hunks.length : Int)), (18, vq_1), (7, .func (.func 69) #[] #[bp b3 0]), (6, .i6 x34), (5, bp b3 0), (4, bp b2 0), (0, vmid1)] ∧ Le g11 g13 ∧ St g13 [[bx b6 #[.i6 y6.At, v13, v14] 60], [bx b3 #[v15, .i6 x36, .bool x37] 91], [bx b2 #[nilS] 38], c12] fr w ∧ OwnN g13 x35 v15 c12 ∧ textpatch_walk.j6 mid x24 y6 x34 x35 x36 x37 = some x29) ?_ ?_
     ·refine wp_block ?_
      obtain ⟨r7, hr15, hm⟩ := bind_some hm
      have hmo7 := hm; clear hm
      refine wp_iter (σ := Int × (List Hunk) × Int × Bool) (ρ := Int × (List Hunk) × Int × Bool) (m := fun s => textpatch_walk.l7 mid y6 s.1 s.2.1 s.2.2.1 s.2.2.2) (I := fun s a w => match s with | (x71, x72, x73, x74) => ∃ (v29 : Value) (c24 : Hl) (g25 : Gh), Fr 91 a [(9, bp b6 0), (20, .i6 x24), (19, .i6 (q_.Hunks.length : Int)), (18, vq_1), (7, .func (.func 69) #[] #[bp b3 0]), (6, .i6 x71), (5, bp b3 0), (4, bp b2 0), (0, vmid1)] ∧ Le g11 g25 ∧ St g25 [[bx b6 #[.i6 y6.At, v13, v14] 60], [bx b3 #[v29, .i6 x73, .bool x74] 91], [bx b2 #[nilS] 38], c24] fr w ∧ OwnN g25 x72 v29 c24) hr15 ?_ ?_
      ·dsimp only
       exact ⟨v11, c10, g11, F.sub ⟨rfl, rfl, rfl, rfl, rfl, rfl, rfl, rfl, rfl, trivial⟩, (Le.refl _), S, h12⟩
      ·clear F S; rintro ⟨x71, x72, x73, x74⟩ a w x75 ⟨v29, c24, g25, F, l25, S, h30⟩ hx7 hfin7
       have hm : textpatch_walk.l7 mid y6 x71 x72 x73 x74 = some x75 := hx7; clear hx7
       unfold textpatch_walk.l7 at hm
       refine wp_seq ?_
       refine wp_seq ?_
       refine wp_region_lit ?_
       refine wE (ev_move rfl) F S rfl fun a F=>?_
       refine wE (ev_fieldAddr' tu60 tf60_0 (z := 0) ts3 rfl ⟨_, rfl⟩ rfl) F S rfl fun a F=>?_
       refine wE (ev_load1 tu3 rfl rfl (box_ptr (cells := [.i6 y6.At]) 0 rfl 0 rfl (lb rfl))) F S rfl fun a F=>?_
       refine wE (ev_int rfl rfl (bo_lss _ _ _ _)) F S rfl fun a F=>?_
       refine wpList_nil ?_
       refine then_n ?_
       obtain ⟨hc9, hm⟩ | ⟨hc9, hm⟩ := ite_or hm
       ·refine wp_condT F rfl hc9 ?_
        refine wp_skip ?_
        refine then_n ?_
        refine wp_seq ?_
        refine wp_block ?_
        refine wp_region_lit ?_
        refine wE (ev_move rfl) F S rfl fun a F=>?_
        refine wE (ev_move rfl) F S rfl fun a F=>?_
        refine wE (ev_move rfl) F S rfl fun a F=>?_
        obtain ⟨y15, hy15, hm⟩ := bind_some hm
        obtain ⟨cs9, hr16, hp11⟩ := elemS (hmid1.mono (l11.trans l25)) hy15
        obtain ⟨v30, rfl, h31⟩ := rep_Middle_textpatch hr16
        refine wE (ev_idxS (hmid1.mono (l11.trans l25)) hy15 tu75 ts78 rfl rfl) F S rfl fun a F=>?_
        refine wE (ev_loadA tu78 rfl (cs := [.bool y15.inserted, .string y15.line, v30]) ts78 rfl (ptr_mono (cks := [[bx b6 #[.i6 y6.At, v13, v14] 60], [bx b3 #[v29, .i6 x73, .bool x74] 91], [bx b2 #[nilS] 38], c24]) (fr := fr) hp11 (Le.refl _))) F S rfl fun a F=>?_
        refine wl_call (wn rfl) rfl (xs := [.tmp 34]) (vs := [.agg #[.bool y15.inserted, .string y15.line, v30]]) (cap := [bp b3 0]) (R := fun u2 w => ∃ (x76 : List Hunk) (x77 : Int) (x78 : Bool) (v31 : Value) (c25 : Hl) (g26 : Gh), u2 = .tuple #[] ∧ Le g25 g26 ∧ St g26 [[bx b6 #[.i6 y6.At, v13, v14] 60], [bx b3 #[v31, .i6 x77, .bool x78] 91], [bx b2 #[nilS] 38], c25] fr w ∧ OwnN g26 x76 v31 c25 ∧ textpatch_walk.j12 x71 x76 x77 x78 = some x75) F rfl rfl tc69 (calls_enter (fn := Try.f69) Try.func69 rfl Try.ntmps69 (lb rfl) ?_) rfl rfl ?_
        ·clear F a; intro a F
         replace F : Fr 21 a [(0, .agg #[.bool y15.inserted, .string y15.line, v30]), (1, bp b3 0)] := F
         refine wp_seq ?_
         refine wp_region_lit ?_
         refine wl_boxC (wn rfl) rfl rfl rfl F S rfl rfl ?_; clear F a S; rintro b7 a w F S
         refine wpList_nil ?_
         refine then_n ?_
         refine wp_cut (fun a w => ∃ (x79 : List Hunk) (x80 : Int) (x81 : Bool) (v32 : Value) (c26 : Hl) (g27 : Gh), Fr 21 a [(2, bp b7 0), (1, bp b3 0)] ∧ Le g25 g27 ∧ St g27 [[bx b7 #[.bool y15.inserted, .string y15.line, v30] 78], [bx b3 #[v32, .i6 x80, .bool x81] 91], [bx b6 #[.i6 y6.At, v13, v14] 60], [bx b2 #[nilS] 38], c26] fr w ∧ OwnN g27 x79 v32 c26 ∧ textpatch_walk.j13 x71 y15 x79 x80 x81 = some x75) ?_ ?_
         ·refine wp_seq ?_
          refine wp_region_lit ?_
          refine wE (ev_fieldAddr' tu78 tf78_2 (z := 0) ts31 rfl ⟨_, rfl⟩ rfl) F S rfl fun a F=>?_
          refine wE (ev_load1 tu31 rfl rfl (box_ptr (cells := [v30]) 0 rfl 2 rfl (lb rfl))) F S rfl fun a F=>?_
          refine wE (ev_lenSh h31 rfl tu31) F S rfl fun a F=>?_
          refine wE (ev_move rfl) F S rfl fun a F=>?_
          refine wpList_nil ?_
          refine then_n ?_
          refine wp_block ?_
          obtain ⟨r8, hr17, hm⟩ := bind_some hm
          have hmo8 := hm; clear hm
          refine wp_iter (σ := Int × (List Hunk) × Int × Bool) (ρ := (List Hunk) × Int × Bool) (m := fun s => textpatch_walk.l8 y15 s.1 s.2.1 s.2.2.1 s.2.2.2) (I := fun s a w => match s with | (x82, x83, x84, x85) => ∃ (v35 : Value) (c29 : Hl) (g30 : Gh), Fr 21 a [(8, .i6 x82), (7, .i6 (y15.before.length : Int)), (6, v30), (2, bp b7 0), (1, bp b3 0)] ∧ Le g25 g30 ∧ St g30 [[bx b7 #[.bool y15.inserted, .string y15.line, v30] 78], [bx b3 #[v35, .i6 x84, .bool x85] 91], [bx b6 #[.i6 y6.At, v13, v14] 60], [bx b2 #[nilS] 38], c29] fr w ∧ OwnN g30 x83 v35 c29) hr17 ?_ ?_
          ·dsimp only
           replace S : St g25 [[bx b7 #[.bool y15.inserted, .string y15.line, v30] 78], [bx b3 #[v29, .i6 x73, .bool x74] 91], [bx b6 #[.i6 y6.At, v13, v14] 60], [bx b2 #[nilS] 38], c24] fr w := St.tail [[bx b7 #[.bool y15.inserted, .string y15.line, v30] 78], [bx b3 #[v29, .i6 x73, .bool x74] 91], [bx b6 #[.i6 y6.At, v13, v14] 60], [bx b2 #[nilS] 38], c24] _ (((((S.frontC 4 rfl).frontC 4 rfl).frontC 3 rfl).frontC 5 rfl).frontC 4 rfl)
           exact ⟨v29, c24, g25, F.sub ⟨rfl, rfl, rfl, rfl, rfl, trivial⟩, (Le.refl _), S, h30⟩
          ·clear F S; rintro ⟨x82, x83, x84, x85⟩ a w x86 ⟨v35, c29, g30, F, l30, S, h36⟩ hx8 hfin8
           have hm : textpatch_walk.l8 y15 x82 x83 x84 x85 = some x86 := hx8; clear hx8
           unfold textpatch_walk.l8 at hm
           refine wp_seq ?_
           refine wp_region_lit ?_
           refine wE (ev_int rfl rfl (bo_lss _ _ _ _)) F S rfl fun a F=>?_
           refine wpList_nil ?_
           refine then_n ?_
           refine wp_seq ?_
           obtain ⟨hc11, hm⟩ | ⟨hc11, hm⟩ := ite_or hm
           ·refine wp_condT F rfl hc11 ?_
            refine wp_skip ?_
            refine then_n ?_
            refine wp_seq ?_
            refine wp_block ?_
            refine wp_seq ?_
            refine wp_region_lit ?_
            obtain ⟨y18, hy18, hm⟩ := bind_some hm
            obtain ⟨cs10, hr18, hp12⟩ := elemS (h31.mono l30) hy18
            obtain rfl := rep_str hr18
            refine wE (ev_idxS (h31.mono l30) hy18 tu31 ts9 rfl rfl) F S rfl fun a F=>?_
            refine wE (ev_load1 tu9 rfl rfl (ptr_mono (cks := [[bx b7 #[.bool y15.inserted, .string y15.line, v30] 78], [bx b3 #[v35, .i6 x84, .bool x85] 91], [bx b6 #[.i6 y6.At, v13, v14] 60], [bx b2 #[nilS] 38], c29]) (fr := fr) hp12 (Le.refl _))) F S rfl fun a F=>?_
            refine wE (ev_assign rfl) F S rfl fun a F=>?_
            refine wpList_nil ?_
            refine then_n ?_
            refine wp_region_lit ?_
            refine wE (ev_move rfl) F S rfl fun a F=>?_
            replace S : St g30 [[bx b3 #[v35, .i6 x84, .bool x85] 91], c29, [bx b7 #[.bool y15.inserted, .string y15.line, v30] 78], [bx b6 #[.i6 y6.At, v13, v14] 60], [bx b2 #[nilS] 38]] fr w := (((((S.frontC 3 rfl).frontC 3 rfl).frontC 2 rfl).frontC 7 rfl).frontC 5 rfl)
            obtain ⟨y19, hy19, hm⟩ := bind_some hm
            refine wl_call0 (wn rfl) rfl F rfl (diff_Collector__Delete_ok (fr := (fl [[bx b7 #[.bool y15.inserted, .string y15.line, v30] 78], [bx b6 #[.i6 y6.At, v13, v14] 60], [bx b2 #[nilS] 38]] fr)) b3 ({ hunks := x83, at_ := x84, open_ := x85 } : Collector_diff) v35 c29 h36 y18 S hy19) rfl tc70 rfl rfl ?_; clear F a S
            rintro _ a w ⟨g31, v36, c30, l31, S, h37, rfl⟩ F; replace S : St g31 [[bx b3 #[v36, .i6 y19.at_, .bool y19.open_] 91], c30, [bx b7 #[.bool y15.inserted, .string y15.line, v30] 78], [bx b6 #[.i6 y6.At, v13, v14] 60], [bx b2 #[nilS] 38]] fr w := S
            refine wpList_nil ?_
            refine inb_n ?_
            refine then_n ?_
            refine wp_region_lit ?_
            obtain ⟨z9, hz9, hm⟩ := bind_some hm
            refine wE (ev_int rfl rfl (bo_add hz9)) F S rfl fun a F=>?_
            refine wE (ev_move rfl) F S rfl fun a F=>?_
            refine wpList_nil ?_
            refine then_n ?_
            obtain rfl := sinj hm
            refine ⟨_, rfl, ?_⟩
            dsimp only
            replace S : St g31 [[bx b7 #[.bool y15.inserted, .string y15.line, v30] 78], [bx b3 #[v36, .i6 y19.at_, .bool y19.open_] 91], [bx b6 #[.i6 y6.At, v13, v14] 60], [bx b2 #[nilS] 38], c30] fr w := St.tail [[bx b7 #[.bool y15.inserted, .string y15.line, v30] 78], [bx b3 #[v36, .i6 y19.at_, .bool y19.open_] 91], [bx b6 #[.i6 y6.At, v13, v14] 60], [bx b2 #[nilS] 38], c30] _ (((((S.frontC 1 rfl).frontC 5 rfl).frontC 5 rfl).frontC 3 rfl).frontC 6 rfl)
            exact ⟨v36, c30, g31, F.sub ⟨rfl, rfl, rfl, rfl, rfl, trivial⟩, (l30.trans l31), S, h37⟩
           ·refine wp_condF F rfl hc11 ?_
            refine wp_exit ?_
            refine then_e ?_
            refine then_e ?_
            refine inb_x ?_
            refine then_n ?_
            obtain rfl := sinj hm
            obtain rfl := hfin8 _ rfl
            clear hm
            have hm : (textpatch_walk.j13 x71 y15 x83 x84 x85 : Option (Step (Int × (List Hunk) × Int × Bool) (Int × (List Hunk) × Int × Bool))) = some _ := hmo8
            exact ⟨x83, x84, x85, v35, c29, g30, F.sub ⟨rfl, rfl, trivial⟩, l30, S, h36, hm⟩
         ·clear F S hm; rintro a w ⟨x79, x80, x81, v32, c26, g27, F, l27, S, h33, hm⟩
          refine wp_seq ?_
          refine wp_region_lit ?_
          refine wE (ev_fieldAddr' tu78 tf78_0 (z := 0) ts4 rfl ⟨_, rfl⟩ rfl) F S rfl fun a F=>?_
          refine wE (ev_load1 tu4 rfl rfl (box_ptr (cells := [.bool y15.inserted]) 0 rfl 0 rfl (lb rfl))) F S rfl fun a F=>?_
          refine wpList_nil ?_
          refine then_n ?_
          obtain ⟨hc10, hm⟩ | ⟨hc10, hm⟩ := ite_or hm
          ·refine wp_condT F rfl hc10 ?_
           refine wp_region_lit ?_
           refine wE (ev_fieldAddr' tu78 tf78_1 (z := 0) ts9 rfl ⟨_, rfl⟩ rfl) F S rfl fun a F=>?_
           refine wE (ev_load1 tu9 rfl rfl (box_ptr (cells := [.string y15.line]) 0 rfl 1 rfl (lb rfl))) F S rfl fun a F=>?_
           replace S : St g27 [[bx b3 #[v32, .i6 x80, .bool x81] 91], c26, [bx b7 #[.bool y15.inserted, .string y15.line, v30] 78], [bx b6 #[.i6 y6.At, v13, v14] 60], [bx b2 #[nilS] 38]] fr w := (((((S.frontC 3 rfl).frontC 3 rfl).frontC 2 rfl).frontC 7 rfl).frontC 5 rfl)
           obtain ⟨y16, hy16, hm⟩ := bind_some hm
           refine wl_call0 (wn rfl) rfl F rfl (diff_Collector__Insert_ok (fr := (fl [[bx b7 #[.bool y15.inserted, .string y15.line, v30] 78], [bx b6 #[.i6 y6.At, v13, v14] 60], [bx b2 #[nilS] 38]] fr)) b3 ({ hunks := x79, at_ := x80, open_ := x81 } : Collector_diff) v32 c26 h33 y15.line S hy16) rfl tc71 rfl rfl ?_; clear F a S
           rintro _ a w ⟨g28, v33, c27, l28, S, h34, rfl⟩ F; replace S : St g28 [[bx b3 #[v33, .i6 y16.at_, .bool y16.open_] 91], c27, [bx b7 #[.bool y15.inserted, .string y15.line, v30] 78], [bx b6 #[.i6 y6.At, v13, v14] 60], [bx b2 #[nilS] 38]] fr w := S
           refine wpList_nil ?_
           refine post_n _ F rfl ar_nil ?_
           replace S : St g28 [[bx b6 #[.i6 y6.At, v13, v14] 60], [bx b3 #[v33, .i6 y16.at_, .bool y16.open_] 91], [bx b2 #[nilS] 38], c27] fr w := St.tail [[bx b6 #[.i6 y6.At, v13, v14] 60], [bx b3 #[v33, .i6 y16.at_, .bool y16.open_] 91], [bx b2 #[nilS] 38], c27] _ ((((S.frontC 1 rfl).frontC 5 rfl).frontC 2 rfl).frontC 6 rfl)
           exact ⟨_, rfl, ⟨y16.hunks, y16.at_, y16.open_, v33, c27, g28, rfl, (l27.trans l28), S, h34, hm⟩⟩
          ·refine wp_condF F rfl hc10 ?_
           refine wp_region_lit ?_
           replace S : St g27 [[bx b3 #[v32, .i6 x80, .bool x81] 91], c26, [bx b7 #[.bool y15.inserted, .string y15.line, v30] 78], [bx b6 #[.i6 y6.At, v13, v14] 60], [bx b2 #[nilS] 38]] fr w := (((((S.frontC 3 rfl).frontC 3 rfl).frontC 2 rfl).frontC 7 rfl).frontC 5 rfl)
           obtain ⟨y17, hy17, hm⟩ := bind_some hm
           refine wl_call0 (wn rfl) rfl F rfl (diff_Collector__Keep_ok (fr := (fl [[bx b7 #[.bool y15.inserted, .string y15.line, v30] 78], [bx b6 #[.i6 y6.At, v13, v14] 60], [bx b2 #[nilS] 38]] fr)) b3 ({ hunks := x79, at_ := x80, open_ := x81 } : Collector_diff) v32 c26 h33 1 S hy17) rfl tc72 rfl rfl ?_; clear F a S
           rintro _ a w ⟨g29, v34, c28, l29, S, h35, rfl⟩ F; replace S : St g29 [[bx b3 #[v34, .i6 y17.at_, .bool y17.open_] 91], c28, [bx b7 #[.bool y15.inserted, .string y15.line, v30] 78], [bx b6 #[.i6 y6.At, v13, v14] 60], [bx b2 #[nilS] 38]] fr w := S
           refine wpList_nil ?_
           refine post_n _ F rfl ar_nil ?_
           replace S : St g29 [[bx b6 #[.i6 y6.At, v13, v14] 60], [bx b3 #[v34, .i6 y17.at_, .bool y17.open_] 91], [bx b2 #[nilS] 38], c28] fr w := St.tail [[bx b6 #[.i6 y6.At, v13, v14] 60], [bx b3 #[v34, .i6 y17.at_, .bool y17.open_] 91], [bx b2 #[nilS] 38], c28] _ ((((S.frontC 1 rfl).frontC 5 rfl).frontC 2 rfl).frontC 6 rfl)
           exact ⟨_, rfl, ⟨y17.hunks, y17.at_, y17.open_, v34, c28, g29, rfl, (l27.trans l29), S, h35, hm⟩⟩
        ·clear F S hm; rintro _ a w ⟨x76, x77, x78, v31, c25, g26, rfl, l26, S, h32, hm⟩ F
         replace F := F.sub (e' := [(35, .tuple #[]), (9, bp b6 0), (20, .i6 x24), (19, .i6 (q_.Hunks.length : Int)), (18, vq_1), (7, .func (.func 69) #[] #[bp b3 0]), (6, .i6 x71), (5, bp b3 0), (4, bp b2 0), (0, vmid1)]) ⟨rfl, rfl, rfl, rfl, rfl, rfl, rfl, rfl, rfl, rfl, trivial⟩
         refine wpList_nil ?_
         refine inb_n ?_
         refine then_n ?_
         refine wp_region_lit ?_
         refine wE (ev_move rfl) F S rfl fun a F=>?_
         obtain ⟨z8, hz8, hm⟩ := bind_some hm
         refine wE (ev_int rfl rfl (bo_add hz8)) F S rfl fun a F=>?_
         refine wE (ev_assign rfl) F S rfl fun a F=>?_
         refine wpList_nil ?_
         refine then_n ?_
         obtain rfl := sinj hm
         refine ⟨_, rfl, ?_⟩
         dsimp only
         exact ⟨v31, c25, g26, F.sub ⟨rfl, rfl, rfl, rfl, rfl, rfl, rfl, rfl, rfl, trivial⟩, (l25.trans l26), S, h32⟩
       ·refine wp_condF F rfl hc9 ?_
        refine wp_exit ?_
        refine then_e ?_
        refine then_e ?_
        refine inb_x ?_
        refine then_n ?_
        obtain rfl := sinj hm
        obtain rfl := hfin7 _ rfl
        clear hm
        have hm : (textpatch_walk.j6 mid x24 y6 x71 x72 x73 x74 : Option (Step (Int × Int × (List Hunk) × Int × Bool) (Int × (List Hunk) × Int × Bool))) = some _ := hmo7
        exact ⟨x71, x72, x73, x74, v29, c24, g25, F.sub ⟨rfl, rfl, rfl, rfl, rfl, rfl, rfl, rfl, rfl, trivial⟩, l25, S, h30, hm⟩
     ·clear F S hm; rintro a w ⟨x34, x35, x36, x37, v15, c12, g13, F, l13, S, h16, hm⟩
      refine wp_cut (fun a w => ∃ (x38 : List Hunk) (x39 : Int) (x40 : Bool) (v16 : Value) (c13 : Hl) (g14 : Gh), Fr 91 a [(9, bp b6 0), (20, .i6 x24), (19, .i6 (q_.Hunks.length : Int)), (18, vq_1), (7, .func (.func 69) #[] #[bp b3 0]), (6, .i6 x34), (5, bp b3 0), (4, bp b2 0), (0, vmid1)] ∧ Le g13 g14 ∧ St g14 [[bx b6 #[.i6 y6.At, v13, v14] 60], [bx b3 #[v16, .i6 x39, .bool x40] 91], [bx b2 #[nilS] 38], c13] fr w ∧ OwnN g14 x38 v16 c13 ∧ textpatch_walk.j7 mid x24 y6 x34 x38 x39 x40 = some x29) ?_ ?_
      ·refine wp_seq ?_
       refine wp_region_lit ?_
       refine wE (ev_fieldAddr' tu60 tf60_2 (z := 0) ts31 rfl ⟨_, rfl⟩ rfl) F S rfl fun a F=>?_
       refine wE (ev_load1 tu31 rfl rfl (box_ptr (cells := [v14]) 0 rfl 2 rfl (lb rfl))) F S rfl fun a F=>?_
       refine wE (ev_lenSh h15 rfl tu31) F S rfl fun a F=>?_
       refine wE (ev_move rfl) F S rfl fun a F=>?_
       refine wpList_nil ?_
       refine then_n ?_
       refine wp_block ?_
       obtain ⟨r6, hr13, hm⟩ := bind_some hm
       have hmo6 := hm; clear hm
       refine wp_iter (σ := Int × (List Hunk) × Int × Bool) (ρ := (List Hunk) × Int × Bool) (m := fun s => textpatch_walk.l6 y6 s.1 s.2.1 s.2.2.1 s.2.2.2) (I := fun s a w => match s with | (x66, x67, x68, x69) => ∃ (v27 : Value) (c22 : Hl) (g23 : Gh), Fr 91 a [(39, .i6 x66), (38, .i6 (y6.New.length : Int)), (37, v14), (9, bp b6 0), (20, .i6 x24), (19, .i6 (q_.Hunks.length : Int)), (18, vq_1), (7, .func (.func 69) #[] #[bp b3 0]), (6, .i6 x34), (5, bp b3 0), (4, bp b2 0), (0, vmid1)] ∧ Le g13 g23 ∧ St g23 [[bx b6 #[.i6 y6.At, v13, v14] 60], [bx b3 #[v27, .i6 x68, .bool x69] 91], [bx b2 #[nilS] 38], c22] fr w ∧ OwnN g23 x67 v27 c22) hr13 ?_ ?_
       ·dsimp only
        exact ⟨v15, c12, g13, F.sub ⟨rfl, rfl, rfl, rfl, rfl, rfl, rfl, rfl, rfl, rfl, rfl, rfl, trivial⟩, (Le.refl _), S, h16⟩
       ·clear F S; rintro ⟨x66, x67, x68, x69⟩ a w x70 ⟨v27, c22, g23, F, l23, S, h28⟩ hx6 hfin6
        have hm : textpatch_walk.l6 y6 x66 x67 x68 x69 = some x70 := hx6; clear hx6
        unfold textpatch_walk.l6 at hm
        refine wp_seq ?_
        refine wp_region_lit ?_
        refine wE (ev_int rfl rfl (bo_lss _ _ _ _)) F S rfl fun a F=>?_
        refine wpList_nil ?_
        refine then_n ?_
        refine wp_seq ?_
        obtain ⟨hc8, hm⟩ | ⟨hc8, hm⟩ := ite_or hm
        ·refine wp_condT F rfl hc8 ?_
         refine wp_skip ?_
         refine then_n ?_
         refine wp_seq ?_
         refine wp_block ?_
         refine wp_seq ?_
         refine wp_region_lit ?_
         obtain ⟨y13, hy13, hm⟩ := bind_some hm
         obtain ⟨cs8, hr14, hp10⟩ := elemS (h15.mono (l13.trans l23)) hy13
         obtain rfl := rep_str hr14
         refine wE (ev_idxS (h15.mono (l13.trans l23)) hy13 tu31 ts9 rfl rfl) F S rfl fun a F=>?_
         refine wE (ev_load1 tu9 rfl rfl (ptr_mono (cks := [[bx b6 #[.i6 y6.At, v13, v14] 60], [bx b3 #[v27, .i6 x68, .bool x69] 91], [bx b2 #[nilS] 38], c22]) (fr := fr) hp10 (Le.refl _))) F S rfl fun a F=>?_
         refine wE (ev_assign rfl) F S rfl fun a F=>?_
         refine wpList_nil ?_
         refine then_n ?_
         refine wp_region_lit ?_
         refine wE (ev_move rfl) F S rfl fun a F=>?_
         replace S : St g23 [[bx b3 #[v27, .i6 x68, .bool x69] 91], c22, [bx b6 #[.i6 y6.At, v13, v14] 60], [bx b2 #[nilS] 38]] fr w := ((((S.frontC 2 rfl).frontC 1 rfl).frontC 5 rfl).frontC 4 rfl)
         obtain ⟨y14, hy14, hm⟩ := bind_some hm
         refine wl_call0 (wn rfl) rfl F rfl (diff_Collector__Insert_ok (fr := (fl [[bx b6 #[.i6 y6.At, v13, v14] 60], [bx b2 #[nilS] 38]] fr)) b3 ({ hunks := x67, at_ := x68, open_ := x69 } : Collector_diff) v27 c22 h28 y13 S hy14) rfl tc71 rfl rfl ?_; clear F a S
         rintro _ a w ⟨g24, v28, c23, l24, S, h29, rfl⟩ F; replace S : St g24 [[bx b3 #[v28, .i6 y14.at_, .bool y14.open_] 91], c23, [bx b6 #[.i6 y6.At, v13, v14] 60], [bx b2 #[nilS] 38]] fr w := S
         refine wpList_nil ?_
         refine inb_n ?_
         refine then_n ?_
         refine wp_region_lit ?_
         obtain ⟨z7, hz7, hm⟩ := bind_some hm
         refine wE (ev_int rfl rfl (bo_add hz7)) F S rfl fun a F=>?_
         refine wE (ev_move rfl) F S rfl fun a F=>?_
         refine wpList_nil ?_
         refine then_n ?_
         obtain rfl := sinj hm
         refine ⟨_, rfl, ?_⟩
         dsimp only
         replace S : St g24 [[bx b6 #[.i6 y6.At, v13, v14] 60], [bx b3 #[v28, .i6 y14.at_, .bool y14.open_] 91], [bx b2 #[nilS] 38], c23] fr w := St.tail [[bx b6 #[.i6 y6.At, v13, v14] 60], [bx b3 #[v28, .i6 y14.at_, .bool y14.open_] 91], [bx b2 #[nilS] 38], c23] _ ((((S.frontC 1 rfl).frontC 4 rfl).frontC 2 rfl).frontC 5 rfl)
         exact ⟨v28, c23, g24, F.sub ⟨rfl, rfl, rfl, rfl, rfl, rfl, rfl, rfl, rfl, rfl, rfl, rfl, trivial⟩, (l23.trans l24), S, h29⟩
        ·refine wp_condF F rfl hc8 ?_
         refine wp_exit ?_
         refine then_e ?_
         refine then_e ?_
         refine inb_x ?_
         refine then_n ?_
         obtain rfl := sinj hm
         obtain rfl := hfin6 _ rfl
         clear hm
         have hm : (textpatch_walk.j7 mid x24 y6 x34 x67 x68 x69 : Option (Step (Int × Int × (List Hunk) × Int × Bool) (Int × (List Hunk) × Int × Bool))) = some _ := hmo6
         exact ⟨x67, x68, x69, v27, c22, g23, F.sub ⟨rfl, rfl, rfl, rfl, rfl, rfl, rfl, rfl, rfl, trivial⟩, l23, S, h28, hm⟩
      ·clear F S hm; rintro a w ⟨x38, x39, x40, v16, c13, g14, F, l14, S, h17, hm⟩
       refine wp_seq ?_
       refine wp_region_lit ?_
       refine wE (ev_fieldAddr' tu60 tf60_1 (z := 0) ts31 rfl ⟨_, rfl⟩ rfl) F S rfl fun a F=>?_
       refine wE (ev_load1 tu31 rfl rfl (box_ptr (cells := [v13]) 0 rfl 1 rfl (lb rfl))) F S rfl fun a F=>?_
       refine wE (ev_lenSh h14 rfl tu31) F S rfl fun a F=>?_
       refine wE (ev_move rfl) F S rfl fun a F=>?_
       refine wpList_nil ?_
       refine then_n ?_
       refine wp_cut1 (fun a w => ∃ (x41 : Int) (x42 : List Hunk) (x43 : Int) (x44 : Bool) (v17 : Value) (c14 : Hl) (g15 : Gh), Fr 91 a [(20, .i6 x24), (19, .i6 (q_.Hunks.length : Int)), (18, vq_1), (7, .func (.func 69) #[] #[bp b3 0]), (6, .i6 x41), (5, bp b3 0), (4, bp b2 0), (0, vmid1)] ∧ Le g14 g15 ∧ St g15 [[bx b3 #[v17, .i6 x43, .bool x44] 91], [bx b2 #[nilS] 38], c14] fr w ∧ OwnN g15 x42 v17 c14 ∧ textpatch_walk.j8 x24 x41 x42 x43 x44 = some x29) ?_ ?_
       ·refine wp_block ?_
        obtain ⟨r4, hr7, hm⟩ := bind_some hm
        have hmo4 := hm; clear hm
        refine wp_iter (σ := Int × Int × (List Hunk) × Int × Bool) (ρ := Int × (List Hunk) × Int × Bool) (m := fun s => textpatch_walk.l4 mid y6 s.1 s.2.1 s.2.2.1 s.2.2.2.1 s.2.2.2.2) (I := fun s a w => match s with | (x45, x46, x47, x48, x49) => ∃ (v18 : Value) (c15 : Hl) (g16 : Gh), Fr 91 a [(49, .i6 x45), (48, .i6 (y6.Old.length : Int)), (47, v13), (20, .i6 x24), (19, .i6 (q_.Hunks.length : Int)), (18, vq_1), (7, .func (.func 69) #[] #[bp b3 0]), (6, .i6 x46), (5, bp b3 0), (4, bp b2 0), (0, vmid1)] ∧ Le g14 g16 ∧ St g16 [[bx b3 #[v18, .i6 x48, .bool x49] 91], [bx b2 #[nilS] 38], c15] fr w ∧ OwnN g16 x47 v18 c15) hr7 ?_ ?_
        ·dsimp only
         replace S : St g14 [[bx b3 #[v16, .i6 x39, .bool x40] 91], [bx b2 #[nilS] 38], c13] fr w := St.tail [[bx b3 #[v16, .i6 x39, .bool x40] 91], [bx b2 #[nilS] 38], c13] _ (((S.frontC 3 rfl).frontC 3 rfl).frontC 3 rfl)
         exact ⟨v16, c13, g14, F.sub ⟨rfl, rfl, rfl, rfl, rfl, rfl, rfl, rfl, rfl, rfl, rfl, trivial⟩, (Le.refl _), S, h17⟩
        ·clear F S; rintro ⟨x45, x46, x47, x48, x49⟩ a w x50 ⟨v18, c15, g16, F, l16, S, h19⟩ hx4 hfin4
         have hm : textpatch_walk.l4 mid y6 x45 x46 x47 x48 x49 = some x50 := hx4; clear hx4
         unfold textpatch_walk.l4 at hm
         refine wp_seq ?_
         refine wp_region_lit ?_
         refine wE (ev_int rfl rfl (bo_lss _ _ _ _)) F S rfl fun a F=>?_
         refine wpList_nil ?_
         refine then_n ?_
         refine wp_seq ?_
         obtain ⟨hc5, hm⟩ | ⟨hc5, hm⟩ := ite_or hm
         ·refine wp_condT F rfl hc5 ?_
          refine wp_skip ?_
          refine then_n ?_
          refine wp_cut (fun a w => ∃ (x51 : Int) (x52 : List Hunk) (x53 : Int) (x54 : Bool) (v19 : Value) (c16 : Hl) (g17 : Gh), Fr 91 a [(6, .i6 x51), (49, .i6 x45), (48, .i6 (y6.Old.length : Int)), (47, v13), (20, .i6 x24), (19, .i6 (q_.Hunks.length : Int)), (18, vq_1), (7, .func (.func 69) #[] #[bp b3 0]), (5, bp b3 0), (4, bp b2 0), (0, vmid1)] ∧ Le g16 g17 ∧ St g17 [[bx b3 #[v19, .i6 x53, .bool x54] 91], [bx b2 #[nilS] 38], c16] fr w ∧ OwnN g17 x52 v19 c16 ∧ textpatch_walk.j9 x45 x51 x52 x53 x54 = some x50) ?_ ?_
          ·refine wp_block ?_
           refine wp_seq ?_
           refine wp_region_lit ?_
           obtain ⟨y7, hy7, hm⟩ := bind_some hm
           obtain ⟨cs4, hr8, hp4⟩ := elemS (h14.mono ((l13.trans l14).trans l16)) hy7
           obtain rfl := rep_str hr8
           refine wE (ev_idxS (h14.mono ((l13.trans l14).trans l16)) hy7 tu31 ts9 rfl rfl) F S rfl fun a F=>?_
           refine wE (ev_load1 tu9 rfl rfl (ptr_mono (cks := [[bx b3 #[v18, .i6 x48, .bool x49] 91], [bx b2 #[nilS] 38], c15]) (fr := fr) hp4 (Le.refl _))) F S rfl fun a F=>?_
           refine wE (ev_assign rfl) F S rfl fun a F=>?_
           refine wpList_nil ?_
           refine then_n ?_
           refine wp_cut (fun a w => ∃ (x55 : List Hunk) (x56 : Int) (x57 : Bool) (v20 : Value) (c17 : Hl) (g18 : Gh), Fr 91 a [(13, .string y7), (49, .i6 x45), (48, .i6 (y6.Old.length : Int)), (47, v13), (20, .i6 x24), (19, .i6 (q_.Hunks.length : Int)), (18, vq_1), (7, .func (.func 69) #[] #[bp b3 0]), (6, .i6 x46), (5, bp b3 0), (4, bp b2 0), (0, vmid1)] ∧ Le g16 g18 ∧ St g18 [[bx b3 #[v20, .i6 x56, .bool x57] 91], [bx b2 #[nilS] 38], c17] fr w ∧ OwnN g18 x55 v20 c17 ∧ textpatch_walk.j10 mid x45 x46 y7 x55 x56 x57 = some x50) ?_ ?_
           ·refine wp_seq ?_
            refine wp_region_lit ?_
            refine wE (ev_move rfl) F S rfl fun a F=>?_
            refine wE (ev_move rfl) F S rfl fun a F=>?_
            obtain ⟨y10, hy10, hm⟩ := bind_some hm
            obtain ⟨cs6, hr10, hp7⟩ := elemS (hmid1.mono (((l11.trans l13).trans l14).trans l16)) hy10
            obtain ⟨v24, rfl, h25⟩ := rep_Middle_textpatch hr10
            refine wE (ev_idxS (hmid1.mono (((l11.trans l13).trans l14).trans l16)) hy10 tu75 ts78 rfl rfl) F S rfl fun a F=>?_
            have hp8 := PtrC.field hp7 2 1 (lb rfl)
            have hp8 : PtrC g16 (addP (elemP vmid1 x46 3) 2) [v24] := hp8
            refine wE (ev_fieldAddr' tu78 tf78_2 (z := 0) ts31 rfl hp7.ptr rfl) F S rfl fun a F=>?_
            refine wE (ev_load1 tu31 rfl rfl (ptr_mono (cks := [[bx b3 #[v18, .i6 x48, .bool x49] 91], [bx b2 #[nilS] 38], c15]) (fr := fr) hp8 (Le.refl _))) F S rfl fun a F=>?_
            refine wE (ev_lenSh h25 rfl tu31) F S rfl fun a F=>?_
            refine wE (ev_move rfl) F S rfl fun a F=>?_
            refine wpList_nil ?_
            refine then_n ?_
            refine wp_block ?_
            obtain ⟨r5, hr11, hm⟩ := bind_some hm
            have hmo5 := hm; clear hm
            refine wp_iter (σ := Int × (List Hunk) × Int × Bool) (ρ := (List Hunk) × Int × Bool) (m := fun s => textpatch_walk.l5 y10 s.1 s.2.1 s.2.2.1 s.2.2.2) (I := fun s a w => match s with | (x61, x62, x63, x64) => ∃ (v25 : Value) (c20 : Hl) (g21 : Gh), Fr 91 a [(59, .i6 x61), (58, .i6 (y10.before.length : Int)), (57, v24), (13, .string y7), (49, .i6 x45), (48, .i6 (y6.Old.length : Int)), (47, v13), (20, .i6 x24), (19, .i6 (q_.Hunks.length : Int)), (18, vq_1), (7, .func (.func 69) #[] #[bp b3 0]), (6, .i6 x46), (5, bp b3 0), (4, bp b2 0), (0, vmid1)] ∧ Le g16 g21 ∧ St g21 [[bx b3 #[v25, .i6 x63, .bool x64] 91], [bx b2 #[nilS] 38], c20] fr w ∧ OwnN g21 x62 v25 c20) hr11 ?_ ?_
            ·dsimp only
             exact ⟨v18, c15, g16, F.sub ⟨rfl, rfl, rfl, rfl, rfl, rfl, rfl, rfl, rfl, rfl, rfl, rfl, rfl, rfl, rfl, trivial⟩, (Le.refl _), S, h19⟩
            ·clear F S; rintro ⟨x61, x62, x63, x64⟩ a w x65 ⟨v25, c20, g21, F, l21, S, h26⟩ hx5 hfin5
             have hm : textpatch_walk.l5 y10 x61 x62 x63 x64 = some x65 := hx5; clear hx5
             unfold textpatch_walk.l5 at hm
             refine wp_seq ?_
             refine wp_region_lit ?_
             refine wE (ev_int rfl rfl (bo_lss _ _ _ _)) F S rfl fun a F=>?_
             refine wpList_nil ?_
             refine then_n ?_
             refine wp_seq ?_
             obtain ⟨hc7, hm⟩ | ⟨hc7, hm⟩ := ite_or hm
             ·refine wp_condT F rfl hc7 ?_
              refine wp_skip ?_
              refine then_n ?_
              refine wp_seq ?_
              refine wp_block ?_
              refine wp_seq ?_
              refine wp_region_lit ?_
              obtain ⟨y11, hy11, hm⟩ := bind_some hm
              obtain ⟨cs7, hr12, hp9⟩ := elemS (h25.mono l21) hy11
              obtain rfl := rep_str hr12
              refine wE (ev_idxS (h25.mono l21) hy11 tu31 ts9 rfl rfl) F S rfl fun a F=>?_
              refine wE (ev_load1 tu9 rfl rfl (ptr_mono (cks := [[bx b3 #[v25, .i6 x63, .bool x64] 91], [bx b2 #[nilS] 38], c20]) (fr := fr) hp9 (Le.refl _))) F S rfl fun a F=>?_
              refine wE (ev_assign rfl) F S rfl fun a F=>?_
              refine wpList_nil ?_
              refine then_n ?_
              refine wp_region_lit ?_
              refine wE (ev_move rfl) F S rfl fun a F=>?_
              replace S : St g21 [[bx b3 #[v25, .i6 x63, .bool x64] 91], c20, [bx b2 #[nilS] 38]] fr w := (((S.frontC 1 rfl).frontC 3 rfl).frontC 2 rfl)
              obtain ⟨y12, hy12, hm⟩ := bind_some hm
              refine wl_call0 (wn rfl) rfl F rfl (diff_Collector__Delete_ok (fr := (fl [[bx b2 #[nilS] 38]] fr)) b3 ({ hunks := x62, at_ := x63, open_ := x64 } : Collector_diff) v25 c20 h26 y11 S hy12) rfl tc70 rfl rfl ?_; clear F a S
              rintro _ a w ⟨g22, v26, c21, l22, S, h27, rfl⟩ F; replace S : St g22 [[bx b3 #[v26, .i6 y12.at_, .bool y12.open_] 91], c21, [bx b2 #[nilS] 38]] fr w := S
              refine wpList_nil ?_
              refine inb_n ?_
              refine then_n ?_
              refine wp_region_lit ?_
              obtain ⟨z6, hz6, hm⟩ := bind_some hm
              refine wE (ev_int rfl rfl (bo_add hz6)) F S rfl fun a F=>?_
              refine wE (ev_move rfl) F S rfl fun a F=>?_
              refine wpList_nil ?_
              refine then_n ?_
              obtain rfl := sinj hm
              refine ⟨_, rfl, ?_⟩
              dsimp only
              replace S : St g22 [[bx b3 #[v26, .i6 y12.at_, .bool y12.open_] 91], [bx b2 #[nilS] 38], c21] fr w := St.tail [[bx b3 #[v26, .i6 y12.at_, .bool y12.open_] 91], [bx b2 #[nilS] 38], c21] _ (((S.frontC 1 rfl).frontC 3 rfl).frontC 2 rfl)
              exact ⟨v26, c21, g22, F.sub ⟨rfl, rfl, rfl, rfl, rfl, rfl, rfl, rfl, rfl, rfl, rfl, rfl, rfl, rfl, rfl, trivial⟩, (l21.trans l22), S, h27⟩
             ·refine wp_condF F rfl hc7 ?_
              refine wp_exit ?_
              refine then_e ?_
              refine then_e ?_
              refine inb_x ?_
              refine then_n ?_
              obtain rfl := sinj hm
              obtain rfl := hfin5 _ rfl
              clear hm
              have hm : (textpatch_walk.j10 mid x45 x46 y7 x62 x63 x64 : Option (Step (Int × Int × (List Hunk) × Int × Bool) (Int × (List Hunk) × Int × Bool))) = some _ := hmo5
              exact ⟨x62, x63, x64, v25, c20, g21, F.sub ⟨rfl, rfl, rfl, rfl, rfl, rfl, rfl, rfl, rfl, rfl, rfl, rfl, trivial⟩, l21, S, h26, hm⟩
           ·clear F S hm; rintro a w ⟨x55, x56, x57, v20, c17, g18, F, l18, S, h21, hm⟩
            refine wp_cut (fun a w => ∃ (x58 : List Hunk) (x59 : Int) (x60 : Bool) (v21 : Value) (c18 : Hl) (g19 : Gh), Fr 91 a [(49, .i6 x45), (48, .i6 (y6.Old.length : Int)), (47, v13), (20, .i6 x24), (19, .i6 (q_.Hunks.length : Int)), (18, vq_1), (7, .func (.func 69) #[] #[bp b3 0]), (6, .i6 x46), (5, bp b3 0), (4, bp b2 0), (0, vmid1)] ∧ Le g18 g19 ∧ St g19 [[bx b3 #[v21, .i6 x59, .bool x60] 91], [bx b2 #[nilS] 38], c18] fr w ∧ OwnN g19 x58 v21 c18 ∧ textpatch_walk.j11 x45 x46 x58 x59 x60 = some x50) ?_ ?_
            ·refine wp_seq ?_
             refine wp_region_lit ?_
             refine wE (ev_move rfl) F S rfl fun a F=>?_
             refine wE (ev_move rfl) F S rfl fun a F=>?_
             obtain ⟨y8, hy8, hm⟩ := bind_some hm
             obtain ⟨cs5, hr9, hp5⟩ := elemS (hmid1.mono ((((l11.trans l13).trans l14).trans l16).trans l18)) hy8
             obtain ⟨v22, rfl, h23⟩ := rep_Middle_textpatch hr9
             refine wE (ev_idxS (hmid1.mono ((((l11.trans l13).trans l14).trans l16).trans l18)) hy8 tu75 ts78 rfl rfl) F S rfl fun a F=>?_
             have hp6 := PtrC.field hp5 0 1 (lb rfl)
             have hp6 : PtrC g18 (addP (elemP vmid1 x46 3) 0) [.bool y8.inserted] := hp6
             refine wE (ev_fieldAddr' tu78 tf78_0 (z := 0) ts4 rfl hp5.ptr rfl) F S rfl fun a F=>?_
             refine wE (ev_load1 tu4 rfl rfl (ptr_mono (cks := [[bx b3 #[v20, .i6 x56, .bool x57] 91], [bx b2 #[nilS] 38], c17]) (fr := fr) hp6 (Le.refl _))) F S rfl fun a F=>?_
             refine wE (ev_not rfl) F S rfl fun a F=>?_
             refine wpList_nil ?_
             refine then_n ?_
             obtain ⟨hc6, hm⟩ | ⟨hc6, hm⟩ := ite_or hm
             ·refine wp_condT F rfl hc6 ?_
              refine wp_region_lit ?_
              refine wE (ev_move rfl) F S rfl fun a F=>?_
              replace S : St g18 [[bx b3 #[v20, .i6 x56, .bool x57] 91], c17, [bx b2 #[nilS] 38]] fr w := (((S.frontC 1 rfl).frontC 3 rfl).frontC 2 rfl)
              obtain ⟨y9, hy9, hm⟩ := bind_some hm
              refine wl_call0 (wn rfl) rfl F rfl (diff_Collector__Delete_ok (fr := (fl [[bx b2 #[nilS] 38]] fr)) b3 ({ hunks := x55, at_ := x56, open_ := x57 } : Collector_diff) v20 c17 h21 y7 S hy9) rfl tc70 rfl rfl ?_; clear F a S
              rintro _ a w ⟨g20, v23, c19, l20, S, h24, rfl⟩ F; replace S : St g20 [[bx b3 #[v23, .i6 y9.at_, .bool y9.open_] 91], c19, [bx b2 #[nilS] 38]] fr w := S
              refine wpList_nil ?_
              refine then_n ?_
              replace S : St g20 [[bx b3 #[v23, .i6 y9.at_, .bool y9.open_] 91], [bx b2 #[nilS] 38], c19] fr w := St.tail [[bx b3 #[v23, .i6 y9.at_, .bool y9.open_] 91], [bx b2 #[nilS] 38], c19] _ (((S.frontC 1 rfl).frontC 3 rfl).frontC 2 rfl)
              exact ⟨y9.hunks, y9.at_, y9.open_, v23, c19, g20, F.sub ⟨rfl, rfl, rfl, rfl, rfl, rfl, rfl, rfl, rfl, rfl, rfl, trivial⟩, l20, S, h24, hm⟩
             ·refine wp_condF F rfl hc6 ?_
              refine wp_skip ?_
              refine then_n ?_
              exact ⟨x55, x56, x57, v20, c17, g18, F.sub ⟨rfl, rfl, rfl, rfl, rfl, rfl, rfl, rfl, rfl, rfl, rfl, trivial⟩, (Le.refl _), S, h21, hm⟩
            ·clear F S hm; rintro a w ⟨x58, x59, x60, v21, c18, g19, F, l19, S, h22, hm⟩
             refine wp_region_lit ?_
             refine wE (ev_move rfl) F S rfl fun a F=>?_
             obtain ⟨z5, hz5, hm⟩ := bind_some hm
             refine wE (ev_int rfl rfl (bo_add hz5)) F S rfl fun a F=>?_
             refine wE (ev_assign rfl) F S rfl fun a F=>?_
             refine wpList_nil ?_
             refine inb_n ?_
             refine then_n ?_
             exact ⟨z5, x58, x59, x60, v21, c18, g19, F.sub ⟨rfl, rfl, rfl, rfl, rfl, rfl, rfl, rfl, rfl, rfl, rfl, trivial⟩, (l18.trans l19), S, h22, hm⟩
          ·clear F S hm; rintro a w ⟨x51, x52, x53, x54, v19, c16, g17, F, l17, S, h20, hm⟩
           refine wp_region_lit ?_
           obtain ⟨z4, hz4, hm⟩ := bind_some hm
           refine wE (ev_int rfl rfl (bo_add hz4)) F S rfl fun a F=>?_
           refine wE (ev_move rfl) F S rfl fun a F=>?_
           refine wpList_nil ?_
           refine then_n ?_
           obtain rfl := sinj hm
           refine ⟨_, rfl, ?_⟩
           dsimp only
           exact ⟨v19, c16, g17, F.sub ⟨rfl, rfl, rfl, rfl, rfl, rfl, rfl, rfl, rfl, rfl, rfl, trivial⟩, (l16.trans l17), S, h20⟩
         ·refine wp_condF F rfl hc5 ?_
          refine wp_exit ?_
          refine then_e ?_
          refine then_e ?_
          refine inb_x ?_
          refine then_n ?_
          obtain rfl := sinj hm
          obtain rfl := hfin4 _ rfl
          clear hm
          have hm : (textpatch_walk.j8 x24 x46 x47 x48 x49 : Option (Step (Int × Int × (List Hunk) × Int × Bool) (Int × (List Hunk) × Int × Bool))) = some _ := hmo4
          exact ⟨x46, x47, x48, x49, v18, c15, g16, F.sub ⟨rfl, rfl, rfl, rfl, rfl, rfl, rfl, rfl, trivial⟩, l16, S, h19, hm⟩
       ·clear F S hm; rintro a w ⟨x41, x42, x43, x44, v17, c14, g15, F, l15, S, h18, hm⟩
        refine inb_n ?_
        refine then_n ?_
        exact ⟨x41, x42, x43, x44, v17, c14, g15, F.sub ⟨rfl, rfl, rfl, rfl, rfl, rfl, rfl, rfl, trivial⟩, ((l13.trans l14).trans l15), S, h18, hm⟩
    ·clear F S hm; rintro a w ⟨x30, x31, x32, x33, v12, c11, g12, F, l12, S, h13, hm⟩
     refine wp_region_lit ?_
     obtain ⟨z3, hz3, hm⟩ := bind_some hm
     refine wE (ev_int rfl rfl (bo_add hz3)) F S rfl fun a F=>?_
     refine wE (ev_move rfl) F S rfl fun a F=>?_
     refine wpList_nil ?_
     refine then_n ?_
     obtain rfl := sinj hm
     refine ⟨_, rfl, ?_⟩
     dsimp only
     exact ⟨v12, c11, g12, F.sub ⟨rfl, rfl, rfl, rfl, rfl, rfl, rfl, rfl, trivial⟩, (l11.trans l12), S, h13⟩
   ·refine wp_condF F rfl hc4 ?_
    refine wp_exit ?_
    refine then_e ?_
    refine then_e ?_
    refine inb_x ?_
    refine then_n ?_
    obtain rfl := sinj hm
    obtain rfl := hfin3 _ rfl
    clear hm
    have hm : (textpatch_walk.j1 mid x25 x26 x27 x28 : Option Patch) = some _ := hmo3
    exact ⟨x25, x26, x27, x28, v11, c10, g11, F.sub ⟨rfl, rfl, rfl, rfl, rfl, trivial⟩, l11, S, h12, hm⟩
 ·clear F S hm; rintro a w ⟨x1, x2, x3, x4, v1, c1, g1, F, l1, S, h1, hm⟩
  refine wp_cut (fun a w => ∃ (x5 : List Hunk) (x6 : Int) (x7 : Bool) (v2 : Value) (c2 : Hl) (g2 : Gh), Fr 91 a [(5, bp b3 0), (4, bp b2 0)] ∧ Le g1 g2 ∧ St g2 [[bx b3 #[v2, .i6 x6, .bool x7] 91], [bx b2 #[nilS] 38], c2] fr w ∧ OwnN g2 x5 v2 c2 ∧ textpatch_walk.j2 x5 x6 x7 = some r) ?_ ?_
  ·refine wp_block ?_
   obtain ⟨r1, hr1, hm⟩ := bind_some hm
   have hmo1 := hm; clear hm
   refine wp_iter (σ := Int × (List Hunk) × Int × Bool) (ρ := (List Hunk) × Int × Bool) (m := fun s => textpatch_walk.l1 mid s.1 s.2.1 s.2.2.1 s.2.2.2) (I := fun s a w => match s with | (x8, x9, x10, x11) => ∃ (v3 : Value) (c3 : Hl) (g4 : Gh), Fr 91 a [(7, .func (.func 69) #[] #[bp b3 0]), (6, .i6 x8), (5, bp b3 0), (4, bp b2 0), (0, vmid1)] ∧ Le g1 g4 ∧ St g4 [[bx b3 #[v3, .i6 x10, .bool x11] 91], [bx b2 #[nilS] 38], c3] fr w ∧ OwnN g4 x9 v3 c3) hr1 ?_ ?_
   ·dsimp only
    exact ⟨v1, c1, g1, F.sub ⟨rfl, rfl, rfl, rfl, rfl, trivial⟩, (Le.refl _), S, h1⟩
   ·clear F S; rintro ⟨x8, x9, x10, x11⟩ a w x12 ⟨v3, c3, g4, F, l4, S, h4⟩ hx1 hfin1
    have hm : textpatch_walk.l1 mid x8 x9 x10 x11 = some x12 := hx1; clear hx1
    unfold textpatch_walk.l1 at hm
    refine wp_seq ?_
    refine wp_seq ?_
    refine wp_region_lit ?_
    refine wE (ev_move rfl) F S rfl fun a F=>?_
    refine wE (ev_move rfl) F S rfl fun a F=>?_
    refine wE (ev_lenSh hmid1 rfl tu75) F S rfl fun a F=>?_
    refine wE (ev_int rfl rfl (bo_lss _ _ _ _)) F S rfl fun a F=>?_
    refine wpList_nil ?_
    refine then_n ?_
    obtain ⟨hc1, hm⟩ | ⟨hc1, hm⟩ := ite_or hm
    ·refine wp_condT F rfl hc1 ?_
     refine wp_skip ?_
     refine then_n ?_
     refine wp_seq ?_
     refine wp_block ?_
     refine wp_region_lit ?_
     refine wE (ev_move rfl) F S rfl fun a F=>?_
     refine wE (ev_move rfl) F S rfl fun a F=>?_
     refine wE (ev_move rfl) F S rfl fun a F=>?_
     obtain ⟨y1, hy1, hm⟩ := bind_some hm
     obtain ⟨cs1, hr2, hp1⟩ := elemS (hmid1.mono (l1.trans l4)) hy1
     obtain ⟨v4, rfl, h5⟩ := rep_Middle_textpatch hr2
     refine wE (ev_idxS (hmid1.mono (l1.trans l4)) hy1 tu75 ts78 rfl rfl) F S rfl fun a F=>?_
     refine wE (ev_loadA tu78 rfl (cs := [.bool y1.inserted, .string y1.line, v4]) ts78 rfl (ptr_mono (cks := [[bx b3 #[v3, .i6 x10, .bool x11] 91], [bx b2 #[nilS] 38], c3]) (fr := fr) hp1 (Le.refl _))) F S rfl fun a F=>?_
     refine wl_call (wn rfl) rfl (xs := [.tmp 88]) (vs := [.agg #[.bool y1.inserted, .string y1.line, v4]]) (cap := [bp b3 0]) (R := fun u1 w => ∃ (x13 : List Hunk) (x14 : Int) (x15 : Bool) (v5 : Value) (c4 : Hl) (g5 : Gh), u1 = .tuple #[] ∧ Le g4 g5 ∧ St g5 [[bx b3 #[v5, .i6 x14, .bool x15] 91], [bx b2 #[nilS] 38], c4] fr w ∧ OwnN g5 x13 v5 c4 ∧ textpatch_walk.j3 x8 x13 x14 x15 = some x12) F rfl rfl tc69 (calls_enter (fn := Try.f69) Try.func69 rfl Try.ntmps69 (lb rfl) ?_) rfl rfl ?_
     ·clear F a; intro a F
      replace F : Fr 21 a [(0, .agg #[.bool y1.inserted, .string y1.line, v4]), (1, bp b3 0)] := F
      refine wp_seq ?_
      refine wp_region_lit ?_
      refine wl_boxC (wn rfl) rfl rfl rfl F S rfl rfl ?_; clear F a S; rintro b5 a w F S
      refine wpList_nil ?_
      refine then_n ?_
      refine wp_cut (fun a w => ∃ (x16 : List Hunk) (x17 : Int) (x18 : Bool) (v6 : Value) (c5 : Hl) (g6 : Gh), Fr 21 a [(2, bp b5 0), (1, bp b3 0)] ∧ Le g4 g6 ∧ St g6 [[bx b5 #[.bool y1.inserted, .string y1.line, v4] 78], [bx b3 #[v6, .i6 x17, .bool x18] 91], [bx b2 #[nilS] 38], c5] fr w ∧ OwnN g6 x16 v6 c5 ∧ textpatch_walk.j4 x8 y1 x16 x17 x18 = some x12) ?_ ?_
      ·refine wp_seq ?_
       refine wp_region_lit ?_
       refine wE (ev_fieldAddr' tu78 tf78_2 (z := 0) ts31 rfl ⟨_, rfl⟩ rfl) F S rfl fun a F=>?_
       refine wE (ev_load1 tu31 rfl rfl (box_ptr (cells := [v4]) 0 rfl 2 rfl (lb rfl))) F S rfl fun a F=>?_
       refine wE (ev_lenSh h5 rfl tu31) F S rfl fun a F=>?_
       refine wE (ev_move rfl) F S rfl fun a F=>?_
       refine wpList_nil ?_
       refine then_n ?_
       refine wp_block ?_
       obtain ⟨r2, hr3, hm⟩ := bind_some hm
       have hmo2 := hm; clear hm
       refine wp_iter (σ := Int × (List Hunk) × Int × Bool) (ρ := (List Hunk) × Int × Bool) (m := fun s => textpatch_walk.l2 y1 s.1 s.2.1 s.2.2.1 s.2.2.2) (I := fun s a w => match s with | (x19, x20, x21, x22) => ∃ (v9 : Value) (c8 : Hl) (g9 : Gh), Fr 21 a [(8, .i6 x19), (7, .i6 (y1.before.length : Int)), (6, v4), (2, bp b5 0), (1, bp b3 0)] ∧ Le g4 g9 ∧ St g9 [[bx b5 #[.bool y1.inserted, .string y1.line, v4] 78], [bx b3 #[v9, .i6 x21, .bool x22] 91], [bx b2 #[nilS] 38], c8] fr w ∧ OwnN g9 x20 v9 c8) hr3 ?_ ?_
       ·dsimp only
        exact ⟨v3, c3, g4, F.sub ⟨rfl, rfl, rfl, rfl, rfl, trivial⟩, (Le.refl _), S, h4⟩
       ·clear F S; rintro ⟨x19, x20, x21, x22⟩ a w x23 ⟨v9, c8, g9, F, l9, S, h10⟩ hx2 hfin2
        have hm : textpatch_walk.l2 y1 x19 x20 x21 x22 = some x23 := hx2; clear hx2
        unfold textpatch_walk.l2 at hm
        refine wp_seq ?_
        refine wp_region_lit ?_
        refine wE (ev_int rfl rfl (bo_lss _ _ _ _)) F S rfl fun a F=>?_
        refine wpList_nil ?_
        refine then_n ?_
        refine wp_seq ?_
        obtain ⟨hc3, hm⟩ | ⟨hc3, hm⟩ := ite_or hm
        ·refine wp_condT F rfl hc3 ?_
         refine wp_skip ?_
         refine then_n ?_
         refine wp_seq ?_
         refine wp_block ?_
         refine wp_seq ?_
         refine wp_region_lit ?_
         obtain ⟨y4, hy4, hm⟩ := bind_some hm
         obtain ⟨cs2, hr4, hp2⟩ := elemS (h5.mono l9) hy4
         obtain rfl := rep_str hr4
         refine wE (ev_idxS (h5.mono l9) hy4 tu31 ts9 rfl rfl) F S rfl fun a F=>?_
         refine wE (ev_load1 tu9 rfl rfl (ptr_mono (cks := [[bx b5 #[.bool y1.inserted, .string y1.line, v4] 78], [bx b3 #[v9, .i6 x21, .bool x22] 91], [bx b2 #[nilS] 38], c8]) (fr := fr) hp2 (Le.refl _))) F S rfl fun a F=>?_
         refine wE (ev_assign rfl) F S rfl fun a F=>?_
         refine wpList_nil ?_
         refine then_n ?_
         refine wp_region_lit ?_
         refine wE (ev_move rfl) F S rfl fun a F=>?_
         replace S : St g9 [[bx b3 #[v9, .i6 x21, .bool x22] 91], c8, [bx b5 #[.bool y1.inserted, .string y1.line, v4] 78], [bx b2 #[nilS] 38]] fr w := ((((S.frontC 2 rfl).frontC 1 rfl).frontC 5 rfl).frontC 4 rfl)
         obtain ⟨y5, hy5, hm⟩ := bind_some hm
         refine wl_call0 (wn rfl) rfl F rfl (diff_Collector__Delete_ok (fr := (fl [[bx b5 #[.bool y1.inserted, .string y1.line, v4] 78], [bx b2 #[nilS] 38]] fr)) b3 ({ hunks := x20, at_ := x21, open_ := x22 } : Collector_diff) v9 c8 h10 y4 S hy5) rfl tc70 rfl rfl ?_; clear F a S
         rintro _ a w ⟨g10, v10, c9, l10, S, h11, rfl⟩ F; replace S : St g10 [[bx b3 #[v10, .i6 y5.at_, .bool y5.open_] 91], c9, [bx b5 #[.bool y1.inserted, .string y1.line, v4] 78], [bx b2 #[nilS] 38]] fr w := S
         refine wpList_nil ?_
         refine inb_n ?_
         refine then_n ?_
         refine wp_region_lit ?_
         obtain ⟨z2, hz2, hm⟩ := bind_some hm
         refine wE (ev_int rfl rfl (bo_add hz2)) F S rfl fun a F=>?_
         refine wE (ev_move rfl) F S rfl fun a F=>?_
         refine wpList_nil ?_
         refine then_n ?_
         obtain rfl := sinj hm
         refine ⟨_, rfl, ?_⟩
         dsimp only
         replace S : St g10 [[bx b5 #[.bool y1.inserted, .string y1.line, v4] 78], [bx b3 #[v10, .i6 y5.at_, .bool y5.open_] 91], [bx b2 #[nilS] 38], c9] fr w := St.tail [[bx b5 #[.bool y1.inserted, .string y1.line, v4] 78], [bx b3 #[v10, .i6 y5.at_, .bool y5.open_] 91], [bx b2 #[nilS] 38], c9] _ ((((S.frontC 1 rfl).frontC 4 rfl).frontC 2 rfl).frontC 5 rfl)
         exact ⟨v10, c9, g10, F.sub ⟨rfl, rfl, rfl, rfl, rfl, trivial⟩, (l9.trans l10), S, h11⟩
        ·refine wp_condF F rfl hc3 ?_
         refine wp_exit ?_
         refine then_e ?_
         refine then_e ?_
         refine inb_x ?_
         refine then_n ?_
         obtain rfl := sinj hm
         obtain rfl := hfin2 _ rfl
         clear hm
         have hm : (textpatch_walk.j4 x8 y1 x20 x21 x22 : Option (Step (Int × (List Hunk) × Int × Bool) ((List Hunk) × Int × Bool))) = some _ := hmo2
         exact ⟨x20, x21, x22, v9, c8, g9, F.sub ⟨rfl, rfl, trivial⟩, l9, S, h10, hm⟩
      ·clear F S hm; rintro a w ⟨x16, x17, x18, v6, c5, g6, F, l6, S, h7, hm⟩
       refine wp_seq ?_
       refine wp_region_lit ?_
       refine wE (ev_fieldAddr' tu78 tf78_0 (z := 0) ts4 rfl ⟨_, rfl⟩ rfl) F S rfl fun a F=>?_
       refine wE (ev_load1 tu4 rfl rfl (box_ptr (cells := [.bool y1.inserted]) 0 rfl 0 rfl (lb rfl))) F S rfl fun a F=>?_
       refine wpList_nil ?_
       refine then_n ?_
       obtain ⟨hc2, hm⟩ | ⟨hc2, hm⟩ := ite_or hm
       ·refine wp_condT F rfl hc2 ?_
        refine wp_region_lit ?_
        refine wE (ev_fieldAddr' tu78 tf78_1 (z := 0) ts9 rfl ⟨_, rfl⟩ rfl) F S rfl fun a F=>?_
        refine wE (ev_load1 tu9 rfl rfl (box_ptr (cells := [.string y1.line]) 0 rfl 1 rfl (lb rfl))) F S rfl fun a F=>?_
        replace S : St g6 [[bx b3 #[v6, .i6 x17, .bool x18] 91], c5, [bx b5 #[.bool y1.inserted, .string y1.line, v4] 78], [bx b2 #[nilS] 38]] fr w := ((((S.frontC 2 rfl).frontC 1 rfl).frontC 5 rfl).frontC 4 rfl)
        obtain ⟨y2, hy2, hm⟩ := bind_some hm
        refine wl_call0 (wn rfl) rfl F rfl (diff_Collector__Insert_ok (fr := (fl [[bx b5 #[.bool y1.inserted, .string y1.line, v4] 78], [bx b2 #[nilS] 38]] fr)) b3 ({ hunks := x16, at_ := x17, open_ := x18 } : Collector_diff) v6 c5 h7 y1.line S hy2) rfl tc71 rfl rfl ?_; clear F a S
        rintro _ a w ⟨g7, v7, c6, l7, S, h8, rfl⟩ F; replace S : St g7 [[bx b3 #[v7, .i6 y2.at_, .bool y2.open_] 91], c6, [bx b5 #[.bool y1.inserted, .string y1.line, v4] 78], [bx b2 #[nilS] 38]] fr w := S
        refine wpList_nil ?_
        refine post_n _ F rfl ar_nil ?_
        replace S : St g7 [[bx b3 #[v7, .i6 y2.at_, .bool y2.open_] 91], [bx b2 #[nilS] 38], c6] fr w := St.tail [[bx b3 #[v7, .i6 y2.at_, .bool y2.open_] 91], [bx b2 #[nilS] 38], c6] _ (((S.frontC 1 rfl).frontC 4 rfl).frontC 2 rfl)
        exact ⟨_, rfl, ⟨y2.hunks, y2.at_, y2.open_, v7, c6, g7, rfl, (l6.trans l7), S, h8, hm⟩⟩
       ·refine wp_condF F rfl hc2 ?_
        refine wp_region_lit ?_
        replace S : St g6 [[bx b3 #[v6, .i6 x17, .bool x18] 91], c5, [bx b5 #[.bool y1.inserted, .string y1.line, v4] 78], [bx b2 #[nilS] 38]] fr w := ((((S.frontC 2 rfl).frontC 1 rfl).frontC 5 rfl).frontC 4 rfl)
        obtain ⟨y3, hy3, hm⟩ := bind_some hm
        refine wl_call0 (wn rfl) rfl F rfl (diff_Collector__Keep_ok (fr := (fl [[bx b5 #[.bool y1.inserted, .string y1.line, v4] 78], [bx b2 #[nilS] 38]] fr)) b3 ({ hunks := x16, at_ := x17, open_ := x18 } : Collector_diff) v6 c5 h7 1 S hy3) rfl tc72 rfl rfl ?_; clear F a S
        rintro _ a w ⟨g8, v8, c7, l8, S, h9, rfl⟩ F; replace S : St g8 [[bx b3 #[v8, .i6 y3.at_, .bool y3.open_] 91], c7, [bx b5 #[.bool y1.inserted, .string y1.line, v4] 78], [bx b2 #[nilS] 38]] fr w := S
        refine wpList_nil ?_
        refine post_n _ F rfl ar_nil ?_
        replace S : St g8 [[bx b3 #[v8, .i6 y3.at_, .bool y3.open_] 91], [bx b2 #[nilS] 38], c7] fr w := St.tail [[bx b3 #[v8, .i6 y3.at_, .bool y3.open_] 91], [bx b2 #[nilS] 38], c7] _ (((S.frontC 1 rfl).frontC 4 rfl).frontC 2 rfl)
        exact ⟨_, rfl, ⟨y3.hunks, y3.at_, y3.open_, v8, c7, g8, rfl, (l6.trans l8), S, h9, hm⟩⟩
     ·clear F S hm; rintro _ a w ⟨x13, x14, x15, v5, c4, g5, rfl, l5, S, h6, hm⟩ F
      replace F := F.sub (e' := [(89, .tuple #[]), (7, .func (.func 69) #[] #[bp b3 0]), (6, .i6 x8), (5, bp b3 0), (4, bp b2 0), (0, vmid1)]) ⟨rfl, rfl, rfl, rfl, rfl, rfl, trivial⟩
      refine wpList_nil ?_
      refine inb_n ?_
      refine then_n ?_
      refine wp_region_lit ?_
      refine wE (ev_move rfl) F S rfl fun a F=>?_
      obtain ⟨z1, hz1, hm⟩ := bind_some hm
      refine wE (ev_int rfl rfl (bo_add hz1)) F S rfl fun a F=>?_
      refine wE (ev_assign rfl) F S rfl fun a F=>?_
      refine wpList_nil ?_
      refine then_n ?_
      obtain rfl := sinj hm
      refine ⟨_, rfl, ?_⟩
      dsimp only
      exact ⟨v5, c4, g5, F.sub ⟨rfl, rfl, rfl, rfl, rfl, trivial⟩, (l4.trans l5), S, h6⟩
    ·refine wp_condF F rfl hc1 ?_
     refine wp_exit ?_
     refine then_e ?_
     refine then_e ?_
     refine inb_x ?_
     refine then_n ?_
     obtain rfl := sinj hm
     obtain rfl := hfin1 _ rfl
     clear hm
     have hm : (textpatch_walk.j2 x9 x10 x11 : Option Patch) = some _ := hmo1
     exact ⟨x9, x10, x11, v3, c3, g4, F.sub ⟨rfl, rfl, trivial⟩, l4, S, h4, hm⟩
  ·clear F S hm; rintro a w ⟨x5, x6, x7, v2, c2, g2, F, l2, S, h2, hm⟩
   refine wp_seq ?_
   refine wp_region_lit ?_
   replace F := F.sub (e' := [(5, bp b3 0), (4, bp b2 0)]) ⟨rfl, rfl, trivial⟩
   refine wl_callK (wn rfl) rfl (xs := [.tmp 5]) (vs := [bp b3 0]) (cap := []) (e' := [(4, bp b2 0)]) ⟨rfl, trivial⟩ F rfl rfl tc73 rfl rfl (calls_enter (fn := Try.f73) Try.func73 rfl Try.ntmps73 (lb rfl) ?_); clear F a; intro a F
   replace F : Fr 8 a [(0, bp b3 0)] := F
   refine wp_seq ?_
   refine wp_region_lit ?_
   refine wl_alloc (wn rfl) rfl tz38 (cs := [nilS]) rfl F S rfl rfl ?_; clear F a S; rintro b4 a w F S
   refine wpList_nil ?_
   refine then_n ?_
   refine wp_seq ?_
   refine wp_region_lit ?_
   refine wE (ev_move rfl) F S rfl fun a F=>?_
   refine wE (ev_nil rfl) F S rfl fun a F=>?_
   refine wE (ev_fieldAddr' tu91 tf91_0 (z := 0) ts36 rfl ⟨_, rfl⟩ rfl) F S rfl fun a F=>?_
   refine wE (ev_load1 tu36 rfl rfl (box_ptr (cells := [v2]) 1 rfl 0 rfl (lb rfl))) F S rfl fun a F=>?_
   refine wE (ev_build (parts := [(0, .tmp 6)]) (vs := [(0, v2)]) rfl (fun w => tb38_0 v2 (OwnN.isSl h2) w)) F S rfl fun a F=>?_
   refine wl_storeC (wn rfl) rfl F S rfl rfl (vs := [v2]) rfl ts38 (one_cons (OwnN.one h2) one_nil) (k := 0) rfl (lb rfl) (c' := #[v2]) rfl rfl ?_; clear S; intro w S
   refine wpList_nil ?_
   refine then_n ?_
   refine wp_ret ?_
   refine post_r _ F rfl (ar_cons (resA rfl tu38 rfl (box_ptr (cells := [v2]) 0 rfl 0 rfl (lb rfl) w S) ts38) ar_nil) ?_
   refine ⟨_, rfl, ?_⟩; clear F a; intro a F
   replace F : Fr 91 a [(90, .agg #[v2]), (4, bp b2 0)] := F
   refine wl_storeC (wn rfl) rfl F S rfl rfl (vs := [v2]) rfl ts38 (one_cons (OwnN.one h2) one_nil) (k := 2) rfl (lb rfl) (c' := #[v2]) rfl rfl ?_; clear S; intro w S
   refine wpList_nil ?_
   refine then_n ?_
   refine wp_ret ?_
   obtain rfl := sinj hm
   obtain ⟨g3, l3, S, h3⟩ : ∃ gz, Le g2 gz ∧ St gz [[bx b4 #[v2] 38], [bx b3 #[v2, .i6 x6, .bool x7] 91], [bx b2 #[v2] 38]] fr w ∧ RepSl gz x5 v2 := ⟨_, Le.add _ _, S.freeze 3 rfl, OwnN.freeze (S.front 3 rfl) h2⟩
   refine post_r _ F rfl (ar_cons (resA rfl tu38 rfl (box_ptr (cells := [v2]) 2 rfl 0 rfl (lb rfl) w S) ts38) ar_nil) ?_
   replace S : St g3 [] fr w := St.tail [] _ S
   exact ⟨_, rfl, g3, v2, ((l1.trans l2).trans l3), S, h3, rfl⟩

theorem textpatch_Compose_ok {g : Gh} {fr : Hl} {w : World} {r : Patch × Fault} (p_ : Patch) (vp_1 : Value) (hp_1 : RepSl g p_.Hunks vp_1) (q_ : Patch) (vq_1 : Value) (hq_1 : RepSl g q_.Hunks vq_1) (S : St g [] fr w) (hm : textpatch_Compose p_ q_ = some r) :
  Calls Try.prog 42 [.agg #[vp_1], .agg #[vq_1]].toArray w (fun en w' => ∃ v, en = .returned v ∧ ∃ (g' : Gh) (v1 : Value), Le g g' ∧ St g' [] fr w' ∧ RepSl g' r.1.Hunks v1 ∧ .tuple #[.agg #[v1], .agg #[.i6 r.2.Code, .i6 r.2.Index]] = v) := by
 unfold textpatch_Compose at hm
 refine calls_enter (fn := Try.f42) Try.func42 rfl Try.ntmps42 (lb rfl) ?_
 intro a F
 replace F : Fr 73 a [(0, .agg #[vp_1]), (1, .agg #[vq_1])] := F
 refine wp_seq ?_
 refine wp_region_lit ?_
 refine wl_boxC (wn rfl) rfl rfl rfl F S rfl rfl ?_; clear F a S; rintro b1 a w F S
 refine wl_boxC (wn rfl) rfl rfl rfl F S rfl rfl ?_; clear F a S; rintro b2 a w F S
 refine wl_alloc (wn rfl) rfl tz38 (cs := [nilS]) rfl F S rfl rfl ?_; clear F a S; rintro b3 a w F S
 refine wl_alloc (wn rfl) rfl tz24 (cs := [.i6 0, .i6 0]) rfl F S rfl rfl ?_; clear F a S; rintro b4 a w F S
 refine wpList_nil ?_
 refine then_n ?_
 refine wp_seq ?_
 refine wp_seq ?_
 refine wp_region_lit ?_
 refine wE (ev_loadA tu38 rfl (cs := [vp_1]) ts38 rfl (box_ptr (cells := [vp_1]) 3 rfl 0 rfl (lb rfl))) F S rfl fun a F=>?_
 obtain ⟨y1, hy1, hm⟩ := bind_some hm
 refine wl_call0 (wn rfl) rfl F rfl (textpatch_Validate_ok (fr := (fl [[bx b4 #[.i6 0, .i6 0] 24], [bx b3 #[nilS] 38], [bx b2 #[vq_1] 38], [bx b1 #[vp_1] 38]] fr)) p_ vp_1 hp_1 S hy1) rfl tc37 rfl rfl ?_; clear F a S
 rintro _ a w ⟨g1, l1, S, rfl⟩ F; replace S : St g1 [[bx b4 #[.i6 0, .i6 0] 24], [bx b3 #[nilS] 38], [bx b2 #[vq_1] 38], [bx b1 #[vp_1] 38]] fr w := S
 refine wl_alloc (wn rfl) rfl tz24 (cs := [.i6 0, .i6 0]) rfl F S rfl rfl ?_; clear F a S; rintro b5 a w F S
 refine wl_storeC (wn rfl) rfl F S rfl rfl (vs := [.i6 y1.Code, .i6 y1.Index]) rfl ts24 (one_cons rfl (one_cons rfl one_nil)) (k := 0) rfl (lb rfl) (c' := #[.i6 y1.Code, .i6 y1.Index]) rfl rfl ?_; clear S; intro w S
 refine wpList_nil ?_
 refine then_n ?_
 refine wp_seq ?_
 refine wp_region_lit ?_
 refine wE (ev_loadA tu24 rfl (cs := [.i6 y1.Code, .i6 y1.Index]) ts24 rfl (box_ptr (cells := [.i6 y1.Code, .i6 y1.Index]) 0 rfl 0 rfl (lb rfl))) F S rfl fun a F=>?_
 refine wE (ev_build (parts := []) (vs := []) rfl (fun w => tb24_  w)) F S rfl fun a F=>?_
 refine wE (ev_neS tu24 tqa24 tqb24 tqc24 (xs := [.i6 y1.Code, .i6 y1.Index]) (ys := [.i6 0, .i6 0]) rfl rfl ⟨_, _, rfl, by decide, ⟨_, _, rfl, rfl, leaf_int tu3⟩, ⟨_, _, rfl, by decide, ⟨_, _, rfl, rfl, leaf_int tu3⟩, rfl⟩⟩) F S rfl fun a F=>?_
 refine wpList_nil ?_
 refine then_n ?_
 obtain ⟨hc1, hm⟩ | ⟨hc1, hm⟩ := ite_or hm
 ·refine wp_condT F rfl hc1 ?_
  refine wp_seq ?_
  refine wp_dv [] mo S ?_; clear S; intro ok1 w S
  refine dv_et ok1 0 rfl (ev_build (parts := []) (vs := []) rfl (fun w => tb38_  w)) F rfl fun a F=>?_
  refine dv_ev ok1 1 rfl (ev_loadA tu24 rfl (cs := [.i6 y1.Code, .i6 y1.Index]) ts24 rfl (box_ptr (cells := [.i6 y1.Code, .i6 y1.Index]) 0 rfl 0 rfl (lb rfl))) F S rfl fun a F=>?_
  refine dv_op ok1 2 rfl [(1, .agg #[.i6 y1.Code, .i6 y1.Index])] ?_
  refine wl_storeC (wn rfl) rfl F S rfl rfl (vs := [nilS]) rfl ts38 (one_cons rfl one_nil) (k := 2) rfl (lb rfl) (c' := #[nilS]) rfl rfl ?_; clear S; intro w S
  refine dv_nx ⟨yl_ev rfl rfl (ev_loadA tu24 rfl (cs := [.i6 y1.Code, .i6 y1.Index]) ts24 rfl (box_ptr (cells := [.i6 y1.Code, .i6 y1.Index]) 0 rfl 0 rfl (lb rfl))) F S, trivial⟩ ?_
  refine dv_op ok1 3 rfl [] ?_
  refine wl_storeC (wn rfl) rfl F S rfl rfl (vs := [.i6 y1.Code, .i6 y1.Index]) rfl ts24 (one_cons rfl (one_cons rfl one_nil)) (k := 1) rfl (lb rfl) (c' := #[.i6 y1.Code, .i6 y1.Index]) rfl rfl ?_; clear S; intro w S
  refine dv_nx trivial ?_
  refine dv_fin ok1 ?_
  refine then_n ?_
  refine wp_ret ?_
  refine then_r ?_
  obtain rfl := sinj hm
  refine post_r _ F rfl (ar_cons (resA rfl tu38 rfl (box_ptr (cells := [nilS]) 2 rfl 0 rfl (lb rfl) w S) ts38) (ar_cons (resA rfl tu24 rfl (box_ptr (cells := [.i6 y1.Code, .i6 y1.Index]) 1 rfl 0 rfl (lb rfl) w S) ts24) ar_nil)) ?_
  replace S : St g1 [] fr w := St.tail [] _ S
  exact ⟨_, rfl, g1, (nilS), l1, S, (RepSl.nil _), rfl⟩
 ·refine wp_condF F rfl hc1 ?_
  refine wp_skip ?_
  refine then_n ?_
  refine wp_seq ?_
  refine wp_seq ?_
  refine wp_region_lit ?_
  refine wE (ev_loadA tu38 rfl (cs := [vq_1]) ts38 rfl (box_ptr (cells := [vq_1]) 3 rfl 0 rfl (lb rfl))) F S rfl fun a F=>?_
  obtain ⟨y2, hy2, hm⟩ := bind_some hm
  refine wl_call0 (wn rfl) rfl F rfl (textpatch_Second_ok (fr := (fl [[bx b5 #[.i6 y1.Code, .i6 y1.Index] 24], [bx b4 #[.i6 0, .i6 0] 24], [bx b3 #[nilS] 38], [bx b2 #[vq_1] 38], [bx b1 #[vp_1] 38]] fr)) q_ vq_1 (hq_1.mono l1) (-2) S hy2) rfl tc45 rfl rfl ?_; clear F a S
  rintro _ a w ⟨g2, l2, S, rfl⟩ F; replace S : St g2 [[bx b5 #[.i6 y1.Code, .i6 y1.Index] 24], [bx b4 #[.i6 0, .i6 0] 24], [bx b3 #[nilS] 38], [bx b2 #[vq_1] 38], [bx b1 #[vp_1] 38]] fr w := S
  refine wl_alloc (wn rfl) rfl tz24 (cs := [.i6 0, .i6 0]) rfl F S rfl rfl ?_; clear F a S; rintro b6 a w F S
  refine wl_storeC (wn rfl) rfl F S rfl rfl (vs := [.i6 y2.Code, .i6 y2.Index]) rfl ts24 (one_cons rfl (one_cons rfl one_nil)) (k := 0) rfl (lb rfl) (c' := #[.i6 y2.Code, .i6 y2.Index]) rfl rfl ?_; clear S; intro w S
  refine wpList_nil ?_
  refine then_n ?_
  refine wp_seq ?_
  refine wp_region_lit ?_
  refine wE (ev_loadA tu24 rfl (cs := [.i6 y2.Code, .i6 y2.Index]) ts24 rfl (box_ptr (cells := [.i6 y2.Code, .i6 y2.Index]) 0 rfl 0 rfl (lb rfl))) F S rfl fun a F=>?_
  refine wE (ev_build (parts := []) (vs := []) rfl (fun w => tb24_  w)) F S rfl fun a F=>?_
  refine wE (ev_neS tu24 tqa24 tqb24 tqc24 (xs := [.i6 y2.Code, .i6 y2.Index]) (ys := [.i6 0, .i6 0]) rfl rfl ⟨_, _, rfl, by decide, ⟨_, _, rfl, rfl, leaf_int tu3⟩, ⟨_, _, rfl, by decide, ⟨_, _, rfl, rfl, leaf_int tu3⟩, rfl⟩⟩) F S rfl fun a F=>?_
  refine wpList_nil ?_
  refine then_n ?_
  obtain ⟨hc2, hm⟩ | ⟨hc2, hm⟩ := ite_or hm
  ·refine wp_condT F rfl hc2 ?_
   refine wp_seq ?_
   refine wp_dv [] mo S ?_; clear S; intro ok2 w S
   refine dv_et ok2 0 rfl (ev_build (parts := []) (vs := []) rfl (fun w => tb38_  w)) F rfl fun a F=>?_
   refine dv_ev ok2 1 rfl (ev_loadA tu24 rfl (cs := [.i6 y2.Code, .i6 y2.Index]) ts24 rfl (box_ptr (cells := [.i6 y2.Code, .i6 y2.Index]) 0 rfl 0 rfl (lb rfl))) F S rfl fun a F=>?_
   refine dv_op ok2 2 rfl [(1, .agg #[.i6 y2.Code, .i6 y2.Index])] ?_
   refine wl_storeC (wn rfl) rfl F S rfl rfl (vs := [nilS]) rfl ts38 (one_cons rfl one_nil) (k := 3) rfl (lb rfl) (c' := #[nilS]) rfl rfl ?_; clear S; intro w S
   refine dv_nx ⟨yl_ev rfl rfl (ev_loadA tu24 rfl (cs := [.i6 y2.Code, .i6 y2.Index]) ts24 rfl (box_ptr (cells := [.i6 y2.Code, .i6 y2.Index]) 0 rfl 0 rfl (lb rfl))) F S, trivial⟩ ?_
   refine dv_op ok2 3 rfl [] ?_
   refine wl_storeC (wn rfl) rfl F S rfl rfl (vs := [.i6 y2.Code, .i6 y2.Index]) rfl ts24 (one_cons rfl (one_cons rfl one_nil)) (k := 2) rfl (lb rfl) (c' := #[.i6 y2.Code, .i6 y2.Index]) rfl rfl ?_; clear S; intro w S
   refine dv_nx trivial ?_
   refine dv_fin ok2 ?_
   refine then_n ?_
   refine wp_ret ?_
   refine then_r ?_
   obtain rfl := sinj hm
   refine post_r _ F rfl (ar_cons (resA rfl tu38 rfl (box_ptr (cells := [nilS]) 3 rfl 0 rfl (lb rfl) w S) ts38) (ar_cons (resA rfl tu24 rfl (box_ptr (cells := [.i6 y2.Code, .i6 y2.Index]) 2 rfl 0 rfl (lb rfl) w S) ts24) ar_nil)) ?_
   replace S : St g2 [] fr w := St.tail [] _ S
   exact ⟨_, rfl, g2, (nilS), (l1.trans l2), S, (RepSl.nil _), rfl⟩
  ·refine wp_condF F rfl hc2 ?_
   refine wp_skip ?_
   refine then_n ?_
   refine wp_seq ?_
   refine wp_region_lit ?_
   refine wE (ev_loadA tu38 rfl (cs := [vp_1]) ts38 rfl (box_ptr (cells := [vp_1]) 5 rfl 0 rfl (lb rfl))) F S rfl fun a F=>?_
   obtain ⟨y3, hy3, hm⟩ := bind_some hm
   refine wl_call0 (wn rfl) rfl F rfl (textpatch_midway_ok (fr := (fl [[bx b6 #[.i6 y2.Code, .i6 y2.Index] 24], [bx b5 #[.i6 y1.Code, .i6 y1.Index] 24], [bx b4 #[.i6 0, .i6 0] 24], [bx b3 #[nilS] 38], [bx b2 #[vq_1] 38], [bx b1 #[vp_1] 38]] fr)) p_ vp_1 (hp_1.mono (l1.trans l2)) S hy3) rfl tc58 rfl rfl ?_; clear F a S
   rintro _ a w ⟨g3, v1, c1, l3, S, h1, rfl⟩ F; replace S : St g3 [c1, [bx b6 #[.i6 y2.Code, .i6 y2.Index] 24], [bx b5 #[.i6 y1.Code, .i6 y1.Index] 24], [bx b4 #[.i6 0, .i6 0] 24], [bx b3 #[nilS] 38], [bx b2 #[vq_1] 38], [bx b1 #[vp_1] 38]] fr w := S
   refine wE (ev_assign rfl) F S rfl fun a F=>?_
   refine wpList_nil ?_
   refine then_n ?_
   refine wp_cut (fun a w => ∃ (g4 : Gh), Fr 73 a [(8, v1), (5, bp b4 0), (4, bp b3 0), (3, bp b2 0)] ∧ Le g3 g4 ∧ St g4 [c1, [bx b4 #[.i6 0, .i6 0] 24], [bx b3 #[nilS] 38], [bx b2 #[vq_1] 38]] fr w ∧ textpatch_Compose.j1 q_ y3 = some r) ?_ ?_
   ·refine wp_seq ?_
    refine wp_region_lit ?_
    refine wE (ev_fieldAddr' tu38 tf38_0 (z := 0) ts36 rfl ⟨_, rfl⟩ rfl) F S rfl fun a F=>?_
    refine wE (ev_load1 tu36 rfl rfl (box_ptr (cells := [vq_1]) 5 rfl 0 rfl (lb rfl))) F S rfl fun a F=>?_
    refine wE (ev_lenSh hq_1 rfl tu36) F S rfl fun a F=>?_
    refine wE (ev_move rfl) F S rfl fun a F=>?_
    refine wpList_nil ?_
    refine then_n ?_
    refine wp_block ?_
    obtain ⟨r1, hr1, hm⟩ := bind_some hm
    have hmo1 := hm; clear hm
    refine wp_iter (σ := Int) (ρ := (Patch × Fault) ⊕ Unit) (m := fun s => textpatch_Compose.l1 q_ y3 s) (I := fun x1 a w => ∃ (g8 : Gh), Fr 73 a [(33, .i6 x1), (32, .i6 (q_.Hunks.length : Int)), (31, vq_1), (8, v1), (5, bp b4 0), (4, bp b3 0), (3, bp b2 0)] ∧ Le g3 g8 ∧ St g8 [c1, [bx b4 #[.i6 0, .i6 0] 24], [bx b3 #[nilS] 38], [bx b2 #[vq_1] 38]] fr w) hr1 ?_ ?_
    ·replace S : St g3 [c1, [bx b4 #[.i6 0, .i6 0] 24], [bx b3 #[nilS] 38], [bx b2 #[vq_1] 38]] fr w := St.tail [c1, [bx b4 #[.i6 0, .i6 0] 24], [bx b3 #[nilS] 38], [bx b2 #[vq_1] 38]] _ ((((S.frontC 5 rfl).frontC 5 rfl).frontC 5 rfl).frontC 3 rfl)
     exact ⟨g3, F.sub ⟨rfl, rfl, rfl, rfl, rfl, rfl, rfl, trivial⟩, (Le.refl _), S⟩
    ·clear F S; rintro x1 a w x2 ⟨g8, F, l8, S⟩ hx1 hfin1
     have hm : textpatch_Compose.l1 q_ y3 x1 = some x2 := hx1; clear hx1
     unfold textpatch_Compose.l1 at hm
     refine wp_seq ?_
     refine wp_region_lit ?_
     refine wE (ev_int rfl rfl (bo_lss _ _ _ _)) F S rfl fun a F=>?_
     refine wpList_nil ?_
     refine then_n ?_
     refine wp_seq ?_
     obtain ⟨hc3, hm⟩ | ⟨hc3, hm⟩ := ite_or hm
     ·refine wp_condT F rfl hc3 ?_
      refine wp_skip ?_
      refine then_n ?_
      refine wp_cut (fun a w => ∃ (g9 : Gh), Fr 73 a [(33, .i6 x1), (32, .i6 (q_.Hunks.length : Int)), (31, vq_1), (8, v1), (5, bp b4 0), (4, bp b3 0), (3, bp b2 0)] ∧ Le g8 g9 ∧ St g9 [c1, [bx b4 #[.i6 0, .i6 0] 24], [bx b3 #[nilS] 38], [bx b2 #[vq_1] 38]] fr w ∧ textpatch_Compose.j2 x1 = some x2) ?_ ?_
      ·refine wp_block ?_
       refine wp_seq ?_
       refine wp_region_lit ?_
       refine wE (ev_move rfl) F S rfl fun a F=>?_
       obtain ⟨y6, hy6, hm⟩ := bind_some hm
       obtain ⟨cs1, hr2, hp1⟩ := elemS (hq_1.mono (((l1.trans l2).trans l3).trans l8)) hy6
       obtain ⟨v4, v5, rfl, h5, h6⟩ := rep_Hunk hr2
       refine wE (ev_idxS (hq_1.mono (((l1.trans l2).trans l3).trans l8)) hy6 tu36 ts60 rfl rfl) F S rfl fun a F=>?_
       refine wE (ev_loadA tu60 rfl (cs := [.i6 y6.At, v4, v5]) ts60 rfl (ptr_mono (cks := [c1, [bx b4 #[.i6 0, .i6 0] 24], [bx b3 #[nilS] 38], [bx b2 #[vq_1] 38]]) (fr := fr) hp1 (Le.refl _))) F S rfl fun a F=>?_
       refine wl_alloc (wn rfl) rfl tz60 (cs := [.i6 0, nilS, nilS]) rfl F S rfl rfl ?_; clear F a S; rintro b7 a w F S
       refine wE (ev_assign rfl) F S rfl fun a F=>?_
       refine wl_storeC (wn rfl) rfl F S rfl rfl (vs := [.i6 y6.At, v4, v5]) rfl ts60 (one_cons rfl (one_cons h5.one (one_cons h6.one one_nil))) (k := 0) rfl (lb rfl) (c' := #[.i6 y6.At, v4, v5]) rfl rfl ?_; clear S; intro w S
       refine wpList_nil ?_
       refine then_n ?_
       refine wp_seq ?_
       refine wp_region_lit ?_
       refine wE (ev_fieldAddr' tu60 tf60_1 (z := 0) ts31 rfl ⟨_, rfl⟩ rfl) F S rfl fun a F=>?_
       refine wE (ev_load1 tu31 rfl rfl (box_ptr (cells := [v4]) 0 rfl 1 rfl (lb rfl))) F S rfl fun a F=>?_
       refine wE (ev_lenSh h5 rfl tu31) F S rfl fun a F=>?_
       refine wE (ev_move rfl) F S rfl fun a F=>?_
       refine wpList_nil ?_
       refine then_n ?_
       refine wp_cut1 (fun a w => ∃ (g10 : Gh), Fr 73 a [(33, .i6 x1), (32, .i6 (q_.Hunks.length : Int)), (31, vq_1), (8, v1), (5, bp b4 0), (4, bp b3 0), (3, bp b2 0)] ∧ Le g8 g10 ∧ St g10 [c1, [bx b4 #[.i6 0, .i6 0] 24], [bx b3 #[nilS] 38], [bx b2 #[vq_1] 38]] fr w ∧ textpatch_Compose.j3 x1 = some x2) ?_ ?_
       ·refine wp_block ?_
        obtain ⟨r2, hr3, hm⟩ := bind_some hm
        have hmo2 := hm; clear hm
        refine wp_iter (σ := Int) (ρ := (Patch × Fault) ⊕ Unit) (m := fun s => textpatch_Compose.l2 y3 x1 y6 s) (I := fun x3 a w => ∃ (g11 : Gh), Fr 73 a [(41, .i6 x3), (40, .i6 (y6.Old.length : Int)), (39, v4), (9, .i6 x1), (10, bp b7 0), (33, .i6 x1), (32, .i6 (q_.Hunks.length : Int)), (31, vq_1), (8, v1), (5, bp b4 0), (4, bp b3 0), (3, bp b2 0)] ∧ Le g8 g11 ∧ St g11 [[bx b7 #[.i6 y6.At, v4, v5] 60], c1, [bx b4 #[.i6 0, .i6 0] 24], [bx b3 #[nilS] 38], [bx b2 #[vq_1] 38]] fr w) hr3 ?_ ?_
        ·exact ⟨g8, F.sub ⟨rfl, rfl, rfl, rfl, rfl, rfl, rfl, rfl, rfl, rfl, rfl, rfl, trivial⟩, (Le.refl _), S⟩
        ·clear F S; rintro x3 a w x4 ⟨g11, F, l11, S⟩ hx2 hfin2
         have hm : textpatch_Compose.l2 y3 x1 y6 x3 = some x4 := hx2; clear hx2
         unfold textpatch_Compose.l2 at hm
         refine wp_seq ?_
         refine wp_region_lit ?_
         refine wE (ev_int rfl rfl (bo_lss _ _ _ _)) F S rfl fun a F=>?_
         refine wpList_nil ?_
         refine then_n ?_
         refine wp_seq ?_
         obtain ⟨hc4, hm⟩ | ⟨hc4, hm⟩ := ite_or hm
         ·refine wp_condT F rfl hc4 ?_
          refine wp_skip ?_
          refine then_n ?_
          refine wp_seq ?_
          refine wp_block ?_
          refine wp_seq ?_
          refine wp_region_lit ?_
          refine wE (ev_move rfl) F S rfl fun a F=>?_
          obtain ⟨y7, hy7, hm⟩ := bind_some hm
          obtain ⟨cs2, hr4, hp2⟩ := elemS (h5.mono l11) hy7
          obtain rfl := rep_str hr4
          refine wE (ev_idxS (h5.mono l11) hy7 tu31 ts9 rfl rfl) F S rfl fun a F=>?_
          refine wE (ev_load1 tu9 rfl rfl (ptr_mono (cks := [[bx b7 #[.i6 y6.At, v4, v5] 60], c1, [bx b4 #[.i6 0, .i6 0] 24], [bx b3 #[nilS] 38], [bx b2 #[vq_1] 38]]) (fr := fr) hp2 (Le.refl _))) F S rfl fun a F=>?_
          refine wE (ev_assign rfl) F S rfl fun a F=>?_
          refine wE (ev_assign rfl) F S rfl fun a F=>?_
          refine wpList_nil ?_
          refine then_n ?_
          refine wp_seq ?_
          refine wp_region_lit ?_
          refine wE (ev_move rfl) F S rfl fun a F=>?_
          refine wE (ev_fieldAddr' tu60 tf60_0 (z := 0) ts3 rfl ⟨_, rfl⟩ rfl) F S rfl fun a F=>?_
          refine wE (ev_load1 tu3 rfl rfl (box_ptr (cells := [.i6 y6.At]) 0 rfl 0 rfl (lb rfl))) F S rfl fun a F=>?_
          refine wE (ev_move rfl) F S rfl fun a F=>?_
          obtain ⟨z2, hz2, hm⟩ := bind_some hm
          refine wE (ev_int rfl rfl (bo_add hz2)) F S rfl fun a F=>?_
          obtain ⟨y8, hy8, hm⟩ := bind_some hm
          refine wE (ev_idxO (h1.mono (l8.trans l11)) hy8 tu75 ts78 rfl rfl) F S rfl fun a F=>?_
          obtain ⟨cs3, hr5, hq1⟩ := elemO (h1.mono (l8.trans l11)) hy8
          obtain ⟨v6, rfl, h7⟩ := rep_Middle_textpatch hr5
          refine wE (ev_loadA tu78 rfl (cs := [.bool y8.inserted, .string y8.line, v6]) ts78 rfl (hq1 _ _ 1 rfl)) F S rfl fun a F=>?_
          refine wl_alloc (wn rfl) rfl tz78 (cs := [.bool false, .string ByteArray.empty, nilS]) rfl F S rfl rfl ?_; clear F a S; rintro b8 a w F S
          refine wl_storeC (wn rfl) rfl F S rfl rfl (vs := [.bool y8.inserted, .string y8.line, v6]) rfl ts78 (one_cons rfl (one_cons rfl (one_cons h7.one one_nil))) (k := 0) rfl (lb rfl) (c' := #[.bool y8.inserted, .string y8.line, v6]) rfl rfl ?_; clear S; intro w S
          refine wpList_nil ?_
          refine then_n ?_
          refine wp_seq ?_
          refine wp_region_lit ?_
          refine wE (ev_fieldAddr' tu78 tf78_0 (z := 0) ts4 rfl ⟨_, rfl⟩ rfl) F S rfl fun a F=>?_
          refine wE (ev_load1 tu4 rfl rfl (box_ptr (cells := [.bool y8.inserted]) 0 rfl 0 rfl (lb rfl))) F S rfl fun a F=>?_
          refine wE (ev_move rfl) F S rfl fun a F=>?_
          obtain ⟨x5, hx3, hm⟩ := bind_some hm
          refine wl_cut 5 (fun a w' => w = w' ∧ Fr 73 a [(60, .bool x5), (41, .i6 x3), (40, .i6 (y6.Old.length : Int)), (39, v4), (9, .i6 x1), (10, bp b7 0), (33, .i6 x1), (32, .i6 (q_.Hunks.length : Int)), (31, vq_1), (8, v1), (5, bp b4 0), (4, bp b3 0), (3, bp b2 0)]) ?_ ?_
          ·clear hm; obtain ⟨hc5, hm⟩ | ⟨hc5, hm⟩ := ite_or hx3
           ·refine wl_ev (wg F rfl rfl rfl rfl hc5) (ev_fieldAddr' tu78 tf78_1 (z := 0) ts9 rfl ⟨_, rfl⟩ rfl) F S rfl rfl ?_; clear F a; intro a F
            refine wl_ev (wg F rfl rfl rfl rfl hc5) (ev_load1 tu9 rfl rfl (box_ptr (cells := [.string y8.line]) 0 rfl 1 rfl (lb rfl))) F S rfl rfl ?_; clear F a; intro a F
            refine wl_ev (wg F rfl rfl rfl rfl hc5) (ev_move rfl) F S rfl rfl ?_; clear F a; intro a F
            refine wl_ev (wg F rfl rfl rfl rfl hc5) (ev_str rfl rfl (bs_neq _ _ _)) F S rfl rfl ?_; clear F a; intro a F
            refine wE (ev_pickT rfl hc5 rfl) F S rfl fun a F=>?_
            obtain rfl := sinj hm
            refine wpList_nil (then_n ?_); exact ⟨rfl, F.sub ⟨rfl, rfl, rfl, rfl, rfl, rfl, rfl, rfl, rfl, rfl, rfl, rfl, rfl, trivial⟩⟩
           ·refine wl_skip rfl rfl rfl rfl (ne_tf hc5) F rfl rfl ?_; clear F a; intro a F
            refine wl_skip rfl rfl rfl rfl (ne_tf hc5) F rfl rfl ?_; clear F a; intro a F
            refine wl_skip rfl rfl rfl rfl (ne_tf hc5) F rfl rfl ?_; clear F a; intro a F
            refine wl_skip rfl rfl rfl rfl (ne_tf hc5) F rfl rfl ?_; clear F a; intro a F
            refine wE (ev_pickF rfl hc5 rfl) F S rfl fun a F=>?_
            obtain rfl := sinj hm
            refine wpList_nil (then_n ?_); exact ⟨rfl, F.sub ⟨rfl, rfl, rfl, rfl, rfl, rfl, rfl, rfl, rfl, rfl, rfl, rfl, rfl, trivial⟩⟩
          clear F; rintro a w' ⟨rfl, F⟩
          refine wpList_nil ?_
          refine then_n ?_
          obtain ⟨hc6, hm⟩ | ⟨hc6, hm⟩ := ite_or hm
          ·refine wp_condT F rfl hc6 ?_
           refine wp_seq ?_
           refine wp_region_lit ?_
           refine wE (ev_build (parts := []) (vs := []) rfl (fun w => tb38_  w)) F S rfl fun a F=>?_
           refine wE (ev_move rfl) F S rfl fun a F=>?_
           obtain ⟨z3, hz3, hm⟩ := bind_some hm
           refine wE (ev_int rfl rfl (bo_sub hz3)) F S rfl fun a F=>?_
           refine wE (ev_build (parts := [(0, .const (.i6 19)), (1, .tmp 63)]) (vs := [(0, .i6 19), (1, .i6 z3)]) rfl (fun w => tb24_0_1 19 z3 w)) F S rfl fun a F=>?_
           refine wl_storeC (wn rfl) rfl F S rfl rfl (vs := [nilS]) rfl ts38 (one_cons rfl one_nil) (k := 4) rfl (lb rfl) (c' := #[nilS]) rfl rfl ?_; clear S; intro w S
           refine wl_storeC (wn rfl) rfl F S rfl rfl (vs := [.i6 19, .i6 z3]) rfl ts24 (one_cons rfl (one_cons rfl one_nil)) (k := 3) rfl (lb rfl) (c' := #[.i6 19, .i6 z3]) rfl rfl ?_; clear S; intro w S
           refine wpList_nil ?_
           refine then_n ?_
           refine wp_ret ?_
           refine inb_r ?_
           refine then_r ?_
           refine then_r ?_
           refine inb_r ?_
           refine then_r ?_
           refine inb_r ?_
           refine then_r ?_
           refine then_r ?_
           refine inb_r ?_
           refine then_r ?_
           obtain rfl := sinj hm
           obtain rfl := hfin2 _ rfl
           clear hm
           have hm : (some (Step.done (Sum.inl (({ Hunks := [] } : Patch), ({ Code := 19, Index := z3 } : Fault)))) : Option (Step Int ((Patch × Fault) ⊕ Unit))) = some _ := hmo2
           obtain rfl := sinj hm
           obtain rfl := hfin1 _ rfl
           clear hm
           have hm : (some (({ Hunks := [] } : Patch), ({ Code := 19, Index := z3 } : Fault)) : Option (Patch × Fault)) = some _ := hmo1
           obtain rfl := sinj hm
           refine post_r _ F rfl (ar_cons (resA rfl tu38 rfl (box_ptr (cells := [nilS]) 4 rfl 0 rfl (lb rfl) w S) ts38) (ar_cons (resA rfl tu24 rfl (box_ptr (cells := [.i6 19, .i6 z3]) 3 rfl 0 rfl (lb rfl) w S) ts24) ar_nil)) ?_
           replace S : St g11 [] fr w := St.tail [] _ S
           exact ⟨_, rfl, g11, (nilS), ((((l1.trans l2).trans l3).trans l8).trans l11), S, (RepSl.nil _), rfl⟩
          ·refine wp_condF F rfl hc6 ?_
           refine wp_skip ?_
           refine inb_n ?_
           refine then_n ?_
           refine wp_region_lit ?_
           obtain ⟨z4, hz4, hm⟩ := bind_some hm
           refine wE (ev_int rfl rfl (bo_add hz4)) F S rfl fun a F=>?_
           refine wE (ev_move rfl) F S rfl fun a F=>?_
           refine wpList_nil ?_
           refine then_n ?_
           obtain rfl := sinj hm
           refine ⟨_, rfl, ?_⟩
           replace S : St g11 [[bx b7 #[.i6 y6.At, v4, v5] 60], c1, [bx b4 #[.i6 0, .i6 0] 24], [bx b3 #[nilS] 38], [bx b2 #[vq_1] 38]] fr w := St.tail [[bx b7 #[.i6 y6.At, v4, v5] 60], c1, [bx b4 #[.i6 0, .i6 0] 24], [bx b3 #[nilS] 38], [bx b2 #[vq_1] 38]] _ (((((S.frontC 5 rfl).frontC 5 rfl).frontC 5 rfl).frontC 5 rfl).frontC 5 rfl)
           exact ⟨g11, F.sub ⟨rfl, rfl, rfl, rfl, rfl, rfl, rfl, rfl, rfl, rfl, rfl, rfl, trivial⟩, l11, S⟩
         ·refine wp_condF F rfl hc4 ?_
          refine wp_exit ?_
          refine then_e ?_
          refine then_e ?_
          refine inb_x ?_
          refine then_n ?_
          obtain rfl := sinj hm
          obtain rfl := hfin2 _ rfl
          clear hm
          have hm : (textpatch_Compose.j3 x1 : Option (Step Int ((Patch × Fault) ⊕ Unit))) = some _ := hmo2
          replace S : St g11 [c1, [bx b4 #[.i6 0, .i6 0] 24], [bx b3 #[nilS] 38], [bx b2 #[vq_1] 38]] fr w := St.tail [c1, [bx b4 #[.i6 0, .i6 0] 24], [bx b3 #[nilS] 38], [bx b2 #[vq_1] 38]] _ ((((S.frontC 4 rfl).frontC 4 rfl).frontC 4 rfl).frontC 4 rfl)
          exact ⟨g11, F.sub ⟨rfl, rfl, rfl, rfl, rfl, rfl, rfl, trivial⟩, l11, S, hm⟩
       ·clear F S hm; rintro a w ⟨g10, F, l10, S, hm⟩
        refine inb_n ?_
        refine then_n ?_
        exact ⟨g10, F.sub ⟨rfl, rfl, rfl, rfl, rfl, rfl, rfl, trivial⟩, l10, S, hm⟩
      ·clear F S hm; rintro a w ⟨g9, F, l9, S, hm⟩
       refine wp_region_lit ?_
       obtain ⟨z1, hz1, hm⟩ := bind_some hm
       refine wE (ev_int rfl rfl (bo_add hz1)) F S rfl fun a F=>?_
       refine wE (ev_move rfl) F S rfl fun a F=>?_
       refine wpList_nil ?_
       refine then_n ?_
       obtain rfl := sinj hm
       refine ⟨_, rfl, ?_⟩
       exact ⟨g9, F.sub ⟨rfl, rfl, rfl, rfl, rfl, rfl, rfl, trivial⟩, (l8.trans l9), S⟩
     ·refine wp_condF F rfl hc3 ?_
      refine wp_exit ?_
      refine then_e ?_
      refine then_e ?_
      refine inb_x ?_
      refine then_n ?_
      obtain rfl := sinj hm
      obtain rfl := hfin1 _ rfl
      clear hm
      have hm : (textpatch_Compose.j1 q_ y3 : Option (Patch × Fault)) = some _ := hmo1
      exact ⟨g8, F.sub ⟨rfl, rfl, rfl, rfl, trivial⟩, l8, S, hm⟩
   ·clear F S hm; rintro a w ⟨g4, F, l4, S, hm⟩
    refine wp_seq ?_
    refine wp_region_lit ?_
    refine wE (ev_move rfl) F S rfl fun a F=>?_
    refine wE (ev_loadA tu38 rfl (cs := [vq_1]) ts38 rfl (box_ptr (cells := [vq_1]) 3 rfl 0 rfl (lb rfl))) F S rfl fun a F=>?_
    obtain ⟨g5, l5, S, h2⟩ : ∃ gz, Le g4 gz ∧ St gz [[bx b4 #[.i6 0, .i6 0] 24], [bx b3 #[nilS] 38], [bx b2 #[vq_1] 38]] fr w ∧ RepSl gz y3 v1 := ⟨_, Le.add _ _, S.freeze 0 rfl, OwnS.freeze (S.front 0 rfl) (h1.mono l4)⟩
    obtain ⟨y4, hy4, hm⟩ := bind_some hm
    refine wl_call0 (wn rfl) rfl F rfl (textpatch_walk_ok (fr := (fl [[bx b4 #[.i6 0, .i6 0] 24], [bx b3 #[nilS] 38], [bx b2 #[vq_1] 38]] fr)) y3 v1 h2 q_ vq_1 (hq_1.mono ((((l1.trans l2).trans l3).trans l4).trans l5)) S hy4) rfl tc59 rfl rfl ?_; clear F a S
    rintro _ a w ⟨g6, v2, l6, S, h3, rfl⟩ F; replace S : St g6 [[bx b4 #[.i6 0, .i6 0] 24], [bx b3 #[nilS] 38], [bx b2 #[vq_1] 38]] fr w := S
    obtain ⟨y5, hy5, hm⟩ := bind_some hm
    refine wl_call0 (wn rfl) rfl F rfl (textpatch_Made_ok (fr := (fl [[bx b4 #[.i6 0, .i6 0] 24], [bx b3 #[nilS] 38], [bx b2 #[vq_1] 38]] fr)) y4 v2 h3 S hy5) rfl tc35 rfl rfl ?_; clear F a S
    rintro _ a w ⟨g7, v3, l7, S, h4, rfl⟩ F; replace S : St g7 [[bx b4 #[.i6 0, .i6 0] 24], [bx b3 #[nilS] 38], [bx b2 #[vq_1] 38]] fr w := S
    refine wE (ev_extract rfl rfl) F S rfl fun a F=>?_
    refine wE (ev_extract rfl rfl) F S rfl fun a F=>?_
    refine wl_storeC (wn rfl) rfl F S rfl rfl (vs := [v3]) rfl ts38 (one_cons h4.one one_nil) (k := 1) rfl (lb rfl) (c' := #[v3]) rfl rfl ?_; clear S; intro w S
    refine wl_storeC (wn rfl) rfl F S rfl rfl (vs := [.i6 y5.2.Code, .i6 y5.2.Index]) rfl ts24 (one_cons rfl (one_cons rfl one_nil)) (k := 0) rfl (lb rfl) (c' := #[.i6 y5.2.Code, .i6 y5.2.Index]) rfl rfl ?_; clear S; intro w S
    refine wpList_nil ?_
    refine then_n ?_
    refine wp_ret ?_
    obtain rfl := sinj hm
    refine post_r _ F rfl (ar_cons (resA rfl tu38 rfl (box_ptr (cells := [v3]) 1 rfl 0 rfl (lb rfl) w S) ts38) (ar_cons (resA rfl tu24 rfl (box_ptr (cells := [.i6 y5.2.Code, .i6 y5.2.Index]) 0 rfl 0 rfl (lb rfl) w S) ts24) ar_nil)) ?_
    replace S : St g7 [] fr w := St.tail [] _ S
    exact ⟨_, rfl, g7, v3, ((((((l1.trans l2).trans l3).trans l4).trans l5).trans l6).trans l7), S, h4, rfl⟩
end Go.Dc
