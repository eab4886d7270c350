/- Walks: each function comes to what its model says. -/
import Derived.Test.YtgcjgmfdnhimmaaDcTab
import Derived.Test.YtgcjgmfdnhimmaaDcM
import Derived.Test.YtgcjgmfdnhimmaaDcW17
namespace Go.Dc
open Go Go.Proofs
set_option maxRecDepth 100000
set_option maxHeartbeats 4000000
set_option linter.unusedVariables false
theorem textpatch_walk_ok {g : Gh} {fr : Hl} {w : World} {r : Patch} (mid : (List Middle_textpatch)) (vmid1 : Value) (hmid1 : RepSl g mid vmid1) (q_ : Patch) (vq_1 : Value) (hq_1 : RepSl g q_.Hunks vq_1) (S : St g [] fr w) (hm : textpatch_walk mid q_ = some r) :
  Calls Try.prog 59 [vmid1, .agg #[vq_1]].toArray w (fun en w' => ∃ v, en = .returned v ∧ ∃ (g' : Gh) (v1 : Value), Le g g' ∧ St g' [] fr w' ∧ RepSl g' r.Hunks v1 ∧ .agg #[v1] = v) := by
 unfold textpatch_walk at hm
 refine calls_enter (fn := Try.f59) Try.func59 rfl Try.ntmps59 (lb rfl) ?_
 intro a F
 replace F : Fr 91 a [(0, vmid1), (1, .agg #[vq_1])] := F
 refine wp_seq ?_
 refine wp_region_lit ?_
 refine wl_boxC (wn rfl) rfl rfl rfl F S rfl rfl ?_; clear F a S; rintro b1 a w F S
 refine wl_alloc (wn rfl) rfl tz38 (cs := [nilS]) rfl F S rfl rfl ?_; clear F a S; rintro b2 a w F S
 refine wpList_nil ?_
 replace F := F.sub (e' := [(4, bp b2 0), (3, bp b1 0), (0, vmid1)]) ⟨rfl, rfl, rfl, trivial⟩
 refine then_n ?_
 refine wp_seq ?_
 refine wp_region_lit ?_
 refine wl_alloc (wn rfl) rfl tz91 (cs := [nilS, .int .i64 0, .bool false]) rfl F S rfl rfl ?_; clear F a S; rintro b3 a w F S
 refine wpList_nil ?_
 refine then_n ?_
 refine wp_seq ?_
 refine wp_region_lit ?_
 refine wl_ev (wn rfl) (ev_assign rfl) F S rfl rfl ?_; clear F a; intro a F
 refine wpList_nil ?_
 refine then_n ?_
 refine wp_seq ?_
 refine wp_region_lit ?_
 refine wl_ev (wn rfl) (ev_makeFunc (xs := [.tmp 5]) (vs := [bp b3 0]) rfl) F S rfl rfl ?_; clear F a; intro a F
 refine wl_ev (wn rfl) (ev_assign rfl) F S rfl rfl ?_; clear F a; intro a F
 refine wpList_nil ?_
 replace F := F.sub (e' := [(7, .func (.func 69) #[] #[bp b3 0]), (6, .int .i64 0), (5, bp b3 0), (4, bp b2 0), (3, bp b1 0), (0, vmid1)]) ⟨rfl, rfl, rfl, rfl, rfl, rfl, trivial⟩
 refine then_n ?_
 refine wp_cut (fun a w => ∃ (x1 : Int) (x2 : List Hunk) (x3 : Int) (x4 : Bool) (v1 : Value) (c1 : Hl) (g1 : Gh), Fr 91 a [(7, .func (.func 69) #[] #[bp b3 0]), (6, .int .i64 x1), (5, bp b3 0), (4, bp b2 0), (0, vmid1)] ∧ Le g g1 ∧ St g1 [[(b3, .cells #[v1, .int .i64 x3, .bool x4] 91 (0, 0))], [(b2, .cells #[nilS] 38 (0, 0))], c1] fr w ∧ OwnN g1 x2 v1 c1 ∧ textpatch_walk.j1 mid x1 x2 x3 x4 = some r) ?_ ?_
 ·refine wp_seq ?_
  refine wp_region_lit ?_
  refine wl_ev (wn rfl) (ev_fieldAddr' tu38 tf38_0 (z := 0) ts36 rfl ⟨_, rfl⟩ rfl) F S rfl rfl ?_; clear F a; intro a F
  refine wl_ev (wn rfl) (ev_load1 tu36 rfl rfl (box_ptr (cells := [vq_1]) 2 rfl 0 rfl (lb rfl))) F S rfl rfl ?_; clear F a; intro a F
  refine wl_ev (wn rfl) (ev_lenSh hq_1 rfl tu36) F S rfl rfl ?_; clear F a; intro a F
  refine wl_ev (wn rfl) (ev_move rfl) F S rfl rfl ?_; clear F a; intro a F
  refine wpList_nil ?_
  replace F := F.sub (e' := [(20, .int .i64 0), (19, .int .i64 (q_.Hunks.length : Int)), (18, vq_1), (7, .func (.func 69) #[] #[bp b3 0]), (6, .int .i64 0), (5, bp b3 0), (4, bp b2 0), (0, vmid1)]) ⟨rfl, rfl, rfl, rfl, rfl, rfl, rfl, rfl, trivial⟩
  refine then_n ?_
  refine wp_block ?_
  obtain ⟨r3, hr5, hm⟩ := bind_some hm
  have hmo3 := hm; clear hm
  refine wp_iter (σ := Int × Int × (List Hunk) × Int × Bool) (ρ := Int × (List Hunk) × Int × Bool) (m := fun s => textpatch_walk.l3 mid q_ s.1 s.2.1 s.2.2.1 s.2.2.2.1 s.2.2.2.2) (I := fun s a w => match s with | (x24, x25, x26, x27, x28) => ∃ (v11 : Value) (c10 : Hl) (g11 : Gh), Fr 91 a [(20, .int .i64 x24), (19, .int .i64 (q_.Hunks.length : Int)), (18, vq_1), (7, .func (.func 69) #[] #[bp b3 0]), (6, .int .i64 x25), (5, bp b3 0), (4, bp b2 0), (0, vmid1)] ∧ Le g g11 ∧ St g11 [[(b3, .cells #[v11, .int .i64 x27, .bool x28] 91 (0, 0))], [(b2, .cells #[nilS] 38 (0, 0))], c10] fr w ∧ OwnN g11 x26 v11 c10) hr5 ?_ ?_
  ·dsimp only
   replace S : St g [[], [(b3, .cells #[nilS, .int .i64 0, .bool false] 91 (0, 0))], [(b2, .cells #[nilS] 38 (0, 0))], [(b1, .cells #[vq_1] 38 (0, 0))]] fr w := S
   replace S : St g [[(b3, .cells #[nilS, .int .i64 0, .bool false] 91 (0, 0))], [(b2, .cells #[nilS] 38 (0, 0))], []] fr w := St.tail [[(b3, .cells #[nilS, .int .i64 0, .bool false] 91 (0, 0))], [(b2, .cells #[nilS] 38 (0, 0))], []] _ (((S.frontC 0 rfl).frontC 3 rfl).frontC 3 rfl)
   exact ⟨(nilS), [], g, F.sub ⟨rfl, rfl, rfl, rfl, rfl, rfl, rfl, rfl, trivial⟩, (Le.refl _), S, (OwnN.nil _)⟩
  ·clear F S; rintro ⟨x24, x25, x26, x27, x28⟩ a w x29 ⟨v11, c10, g11, F, l11, S, h12⟩ hx3 hfin3
   have hm : textpatch_walk.l3 mid q_ x24 x25 x26 x27 x28 = some x29 := hx3; clear hx3
   unfold textpatch_walk.l3 at hm
   refine wp_seq ?_
   refine wp_region_lit ?_
   refine wl_ev (wn rfl) (ev_int rfl rfl (bo_lss _ _ _ _)) F S rfl rfl ?_; clear F a; intro a F
   refine wpList_nil ?_
   refine then_n ?_
   refine wp_seq ?_
   obtain ⟨hc4, hm⟩ | ⟨hc4, hm⟩ := ite_or hm
   ·refine wp_condT F rfl hc4 ?_
    refine wp_skip ?_
    refine then_n ?_
    refine wp_cut (fun a w => ∃ (x30 : Int) (x31 : List Hunk) (x32 : Int) (x33 : Bool) (v12 : Value) (c11 : Hl) (g12 : Gh), Fr 91 a [(20, .int .i64 x24), (19, .int .i64 (q_.Hunks.length : Int)), (18, vq_1), (7, .func (.func 69) #[] #[bp b3 0]), (6, .int .i64 x30), (5, bp b3 0), (4, bp b2 0), (0, vmid1)] ∧ Le g11 g12 ∧ St g12 [[(b3, .cells #[v12, .int .i64 x32, .bool x33] 91 (0, 0))], [(b2, .cells #[nilS] 38 (0, 0))], c11] fr w ∧ OwnN g12 x31 v12 c11 ∧ textpatch_walk.j5 x24 x30 x31 x32 x33 = some x29) ?_ ?_
    ·refine wp_block ?_
     refine wp_seq ?_
     refine wp_region_lit ?_
     obtain ⟨y6, hy6, hm⟩ := bind_some hm
     obtain ⟨cs3, hr6, hp3⟩ := elemS (hq_1.mono l11) hy6
     obtain ⟨v13, v14, rfl, h14, h15⟩ := rep_Hunk hr6
     refine wl_ev (wn rfl) (ev_idxS (hq_1.mono l11) hy6 tu36 ts60 rfl rfl) F S rfl rfl ?_; clear F a; intro a F
     refine wl_ev (wn rfl) (ev_loadA tu60 rfl (cs := [.int .i64 y6.At, v13, v14]) ts60 rfl (ptr_mono (cks := [[(b3, .cells #[v11, .int .i64 x27, .bool x28] 91 (0, 0))], [(b2, .cells #[nilS] 38 (0, 0))], c10]) (fr := fr) hp3 (Le.refl _))) F S rfl rfl ?_; clear F a; intro a F
     refine wl_alloc (wn rfl) rfl tz60 (cs := [.int .i64 0, nilS, nilS]) rfl F S rfl rfl ?_; clear F a S; rintro b6 a w F S
     refine wl_storeC (wn rfl) rfl F S rfl rfl (vs := [.int .i64 y6.At, v13, v14]) rfl ts60 (one_cons rfl (one_cons h14.one (one_cons h15.one one_nil))) (k := 0) rfl (lb rfl) (c' := #[.int .i64 y6.At, v13, v14]) rfl rfl ?_; clear S; intro w S
     replace S : St g11 [[(b6, .cells #[.int .i64 y6.At, v13, v14] 60 (0, 0))], [(b3, .cells #[v11, .int .i64 x27, .bool x28] 91 (0, 0))], [(b2, .cells #[nilS] 38 (0, 0))], c10] fr w := S
     refine wpList_nil ?_
     replace F := F.sub (e' := [(9, bp b6 0), (20, .int .i64 x24), (19, .int .i64 (q_.Hunks.length : Int)), (18, vq_1), (7, .func (.func 69) #[] #[bp b3 0]), (6, .int .i64 x25), (5, bp b3 0), (4, bp b2 0), (0, vmid1)]) ⟨rfl, rfl, rfl, rfl, rfl, rfl, rfl, rfl, rfl, trivial⟩
     refine then_n ?_
     refine wp_cut (fun a w => ∃ (x34 : Int) (x35 : List Hunk) (x36 : Int) (x37 : Bool) (v15 : Value) (c12 : Hl) (g13 : Gh), Fr 91 a [(9, bp b6 0), (20, .int .i64 x24), (19, .int .i64 (q_.Hunks.length : Int)), (18, vq_1), (7, .func (.func 69) #[] #[bp b3 0]), (6, .int .i64 x34), (5, bp b3 0), (4, bp b2 0), (0, vmid1)] ∧ Le g11 g13 ∧ St g13 [[(b6, .cells #[.int .i64 y6.At, v13, v14] 60 (0, 0))], [(b3, .cells #[v15, .int .i64 x36, .bool x37] 91 (0, 0))], [(b2, .cells #[nilS] 38 (0, 0))], c12] fr w ∧ OwnN g13 x35 v15 c12 ∧ textpatch_walk.j6 mid x24 y6 x34 x35 x36 x37 = some x29) ?_ ?_
     ·refine wp_block ?_
      obtain ⟨r7, hr15, hm⟩ := bind_some hm
      have hmo7 := hm; clear hm
      refine wp_iter (σ := Int × (List Hunk) × Int × Bool) (ρ := Int × (List Hunk) × Int × Bool) (m := fun s => textpatch_walk.l7 mid y6 s.1 s.2.1 s.2.2.1 s.2.2.2) (I := fun s a w => match s with | (x71, x72, x73, x74) => ∃ (v29 : Value) (c24 : Hl) (g25 : Gh), Fr 91 a [(9, bp b6 0), (20, .int .i64 x24), (19, .int .i64 (q_.Hunks.length : Int)), (18, vq_1), (7, .func (.func 69) #[] #[bp b3 0]), (6, .int .i64 x71), (5, bp b3 0), (4, bp b2 0), (0, vmid1)] ∧ Le g11 g25 ∧ St g25 [[(b6, .cells #[.int .i64 y6.At, v13, v14] 60 (0, 0))], [(b3, .cells #[v29, .int .i64 x73, .bool x74] 91 (0, 0))], [(b2, .cells #[nilS] 38 (0, 0))], c24] fr w ∧ OwnN g25 x72 v29 c24) hr15 ?_ ?_
      ·dsimp only
       exact ⟨v11, c10, g11, F.sub ⟨rfl, rfl, rfl, rfl, rfl, rfl, rfl, rfl, rfl, trivial⟩, (Le.refl _), S, h12⟩
      ·clear F S; rintro ⟨x71, x72, x73, x74⟩ a w x75 ⟨v29, c24, g25, F, l25, S, h30⟩ hx7 hfin7
       have hm : textpatch_walk.l7 mid y6 x71 x72 x73 x74 = some x75 := hx7; clear hx7
       unfold textpatch_walk.l7 at hm
       refine wp_seq ?_
       refine wp_seq ?_
       refine wp_region_lit ?_
       refine wl_ev (wn rfl) (ev_move rfl) F S rfl rfl ?_; clear F a; intro a F
       refine wl_ev (wn rfl) (ev_fieldAddr' tu60 tf60_0 (z := 0) ts3 rfl ⟨_, rfl⟩ rfl) F S rfl rfl ?_; clear F a; intro a F
       refine wl_ev (wn rfl) (ev_load1 tu3 rfl rfl (box_ptr (cells := [.int .i64 y6.At]) 0 rfl 0 rfl (lb rfl))) F S rfl rfl ?_; clear F a; intro a F
       refine wl_ev (wn rfl) (ev_int rfl rfl (bo_lss _ _ _ _)) F S rfl rfl ?_; clear F a; intro a F
       refine wpList_nil ?_
       replace F := F.sub (e' := [(27, .bool (decide (x71 < y6.At))), (9, bp b6 0), (20, .int .i64 x24), (19, .int .i64 (q_.Hunks.length : Int)), (18, vq_1), (7, .func (.func 69) #[] #[bp b3 0]), (6, .int .i64 x71), (5, bp b3 0), (4, bp b2 0), (0, vmid1)]) ⟨rfl, rfl, rfl, rfl, rfl, rfl, rfl, rfl, rfl, rfl, trivial⟩
       refine then_n ?_
       obtain ⟨hc9, hm⟩ | ⟨hc9, hm⟩ := ite_or hm
       ·refine wp_condT F rfl hc9 ?_
        refine wp_skip ?_
        refine then_n ?_
        refine wp_seq ?_
        refine wp_block ?_
        refine wp_region_lit ?_
        refine wl_ev (wn rfl) (ev_move rfl) F S rfl rfl ?_; clear F a; intro a F
        refine wl_ev (wn rfl) (ev_move rfl) F S rfl rfl ?_; clear F a; intro a F
        refine wl_ev (wn rfl) (ev_move rfl) F S rfl rfl ?_; clear F a; intro a F
        obtain ⟨y15, hy15, hm⟩ := bind_some hm
        obtain ⟨cs9, hr16, hp11⟩ := elemS (hmid1.mono (l11.trans l25)) hy15
        obtain ⟨v30, rfl, h31⟩ := rep_Middle_textpatch hr16
        refine wl_ev (wn rfl) (ev_idxS (hmid1.mono (l11.trans l25)) hy15 tu75 ts78 rfl rfl) F S rfl rfl ?_; clear F a; intro a F
        refine wl_ev (wn rfl) (ev_loadA tu78 rfl (cs := [.bool y15.inserted, .string y15.line, v30]) ts78 rfl (ptr_mono (cks := [[(b6, .cells #[.int .i64 y6.At, v13, v14] 60 (0, 0))], [(b3, .cells #[v29, .int .i64 x73, .bool x74] 91 (0, 0))], [(b2, .cells #[nilS] 38 (0, 0))], c24]) (fr := fr) hp11 (Le.refl _))) F S rfl rfl ?_; clear F a; intro a F
        refine wl_call (wn rfl) rfl (xs := [.tmp 34]) (vs := [.agg #[.bool y15.inserted, .string y15.line, v30]]) (cap := [bp b3 0]) (R := fun u2 w => ∃ (x76 : List Hunk) (x77 : Int) (x78 : Bool) (v31 : Value) (c25 : Hl) (g26 : Gh), u2 = .tuple #[] ∧ Le g25 g26 ∧ St g26 [[(b6, .cells #[.int .i64 y6.At, v13, v14] 60 (0, 0))], [(b3, .cells #[v31, .int .i64 x77, .bool x78] 91 (0, 0))], [(b2, .cells #[nilS] 38 (0, 0))], c25] fr w ∧ OwnN g26 x76 v31 c25 ∧ textpatch_walk.j12 x71 x76 x77 x78 = some x75) F rfl rfl tc69 (calls_enter (fn := Try.f69) Try.func69 rfl Try.ntmps69 (lb rfl) ?_) rfl rfl ?_
        ·clear F a; intro a F
         replace F : Fr 21 a [(0, .agg #[.bool y15.inserted, .string y15.line, v30]), (1, bp b3 0)] := F
         refine wp_seq ?_
         refine wp_region_lit ?_
         refine wl_boxC (wn rfl) rfl rfl rfl F S rfl rfl ?_; clear F a S; rintro b7 a w F S
         refine wpList_nil ?_
         replace F := F.sub (e' := [(2, bp b7 0), (1, bp b3 0)]) ⟨rfl, rfl, trivial⟩
         refine then_n ?_
         refine wp_cut (fun a w => ∃ (x79 : List Hunk) (x80 : Int) (x81 : Bool) (v32 : Value) (c26 : Hl) (g27 : Gh), Fr 21 a [(2, bp b7 0), (1, bp b3 0)] ∧ Le g25 g27 ∧ St g27 [[(b7, .cells #[.bool y15.inserted, .string y15.line, v30] 78 (0, 0))], [(b3, .cells #[v32, .int .i64 x80, .bool x81] 91 (0, 0))], [(b6, .cells #[.int .i64 y6.At, v13, v14] 60 (0, 0))], [(b2, .cells #[nilS] 38 (0, 0))], c26] fr w ∧ OwnN g27 x79 v32 c26 ∧ textpatch_walk.j13 x71 y15 x79 x80 x81 = some x75) ?_ ?_
         ·refine wp_seq ?_
          refine wp_region_lit ?_
          refine wl_ev (wn rfl) (ev_fieldAddr' tu78 tf78_2 (z := 0) ts31 rfl ⟨_, rfl⟩ rfl) F S rfl rfl ?_; clear F a; intro a F
          refine wl_ev (wn rfl) (ev_load1 tu31 rfl rfl (box_ptr (cells := [v30]) 0 rfl 2 rfl (lb rfl))) F S rfl rfl ?_; clear F a; intro a F
          refine wl_ev (wn rfl) (ev_lenSh h31 rfl tu31) F S rfl rfl ?_; clear F a; intro a F
          refine wl_ev (wn rfl) (ev_move rfl) F S rfl rfl ?_; clear F a; intro a F
          refine wpList_nil ?_
          replace F := F.sub (e' := [(8, .int .i64 0), (7, .int .i64 (y15.before.length : Int)), (6, v30), (2, bp b7 0), (1, bp b3 0)]) ⟨rfl, rfl, rfl, rfl, rfl, trivial⟩
          refine then_n ?_
          refine wp_block ?_
          obtain ⟨r8, hr17, hm⟩ := bind_some hm
          have hmo8 := hm; clear hm
          refine wp_iter (σ := Int × (List Hunk) × Int × Bool) (ρ := (List Hunk) × Int × Bool) (m := fun s => textpatch_walk.l8 y15 s.1 s.2.1 s.2.2.1 s.2.2.2) (I := fun s a w => match s with | (x82, x83, x84, x85) => ∃ (v35 : Value) (c29 : Hl) (g30 : Gh), Fr 21 a [(8, .int .i64 x82), (7, .int .i64 (y15.before.length : Int)), (6, v30), (2, bp b7 0), (1, bp b3 0)] ∧ Le g25 g30 ∧ St g30 [[(b7, .cells #[.bool y15.inserted, .string y15.line, v30] 78 (0, 0))], [(b3, .cells #[v35, .int .i64 x84, .bool x85] 91 (0, 0))], [(b6, .cells #[.int .i64 y6.At, v13, v14] 60 (0, 0))], [(b2, .cells #[nilS] 38 (0, 0))], c29] fr w ∧ OwnN g30 x83 v35 c29) hr17 ?_ ?_
          ·dsimp only
           replace S : St g25 [[(b7, .cells #[.bool y15.inserted, .string y15.line, v30] 78 (0, 0))], [(b3, .cells #[v29, .int .i64 x73, .bool x74] 91 (0, 0))], [(b6, .cells #[.int .i64 y6.At, v13, v14] 60 (0, 0))], [(b2, .cells #[nilS] 38 (0, 0))], c24] fr w := St.tail [[(b7, .cells #[.bool y15.inserted, .string y15.line, v30] 78 (0, 0))], [(b3, .cells #[v29, .int .i64 x73, .bool x74] 91 (0, 0))], [(b6, .cells #[.int .i64 y6.At, v13, v14] 60 (0, 0))], [(b2, .cells #[nilS] 38 (0, 0))], c24] _ (((((S.frontC 4 rfl).frontC 4 rfl).frontC 3 rfl).frontC 5 rfl).frontC 4 rfl)
           exact ⟨v29, c24, g25, F.sub ⟨rfl, rfl, rfl, rfl, rfl, trivial⟩, (Le.refl _), S, h30⟩
          ·clear F S; rintro ⟨x82, x83, x84, x85⟩ a w x86 ⟨v35, c29, g30, F, l30, S, h36⟩ hx8 hfin8
           have hm : textpatch_walk.l8 y15 x82 x83 x84 x85 = some x86 := hx8; clear hx8
           unfold textpatch_walk.l8 at hm
           refine wp_seq ?_
           refine wp_region_lit ?_
           refine wl_ev (wn rfl) (ev_int rfl rfl (bo_lss _ _ _ _)) F S rfl rfl ?_; clear F a; intro a F
           refine wpList_nil ?_
           refine then_n ?_
           refine wp_seq ?_
           obtain ⟨hc11, hm⟩ | ⟨hc11, hm⟩ := ite_or hm
           ·refine wp_condT F rfl hc11 ?_
            refine wp_skip ?_
            refine then_n ?_
            refine wp_seq ?_
            refine wp_block ?_
            refine wp_seq ?_
            refine wp_region_lit ?_
            obtain ⟨y18, hy18, hm⟩ := bind_some hm
            obtain ⟨cs10, hr18, hp12⟩ := elemS (h31.mono l30) hy18
            obtain rfl := rep_str hr18
            refine wl_ev (wn rfl) (ev_idxS (h31.mono l30) hy18 tu31 ts9 rfl rfl) F S rfl rfl ?_; clear F a; intro a F
            refine wl_ev (wn rfl) (ev_load1 tu9 rfl rfl (ptr_mono (cks := [[(b7, .cells #[.bool y15.inserted, .string y15.line, v30] 78 (0, 0))], [(b3, .cells #[v35, .int .i64 x84, .bool x85] 91 (0, 0))], [(b6, .cells #[.int .i64 y6.At, v13, v14] 60 (0, 0))], [(b2, .cells #[nilS] 38 (0, 0))], c29]) (fr := fr) hp12 (Le.refl _))) F S rfl rfl ?_; clear F a; intro a F
            refine wl_ev (wn rfl) (ev_assign rfl) F S rfl rfl ?_; clear F a; intro a F
            refine wpList_nil ?_
            replace F := F.sub (e' := [(4, .string y18), (8, .int .i64 x82), (7, .int .i64 (y15.before.length : Int)), (6, v30), (2, bp b7 0), (1, bp b3 0)]) ⟨rfl, rfl, rfl, rfl, rfl, rfl, trivial⟩
            refine then_n ?_
            refine wp_region_lit ?_
            refine wl_ev (wn rfl) (ev_move rfl) F S rfl rfl ?_; clear F a; intro a F
            replace S : St g30 [[(b3, .cells #[v35, .int .i64 x84, .bool x85] 91 (0, 0))], c29, [(b7, .cells #[.bool y15.inserted, .string y15.line, v30] 78 (0, 0))], [(b6, .cells #[.int .i64 y6.At, v13, v14] 60 (0, 0))], [(b2, .cells #[nilS] 38 (0, 0))]] fr w := (((((S.frontC 3 rfl).frontC 3 rfl).frontC 2 rfl).frontC 7 rfl).frontC 5 rfl)
            obtain ⟨y19, hy19, hm⟩ := bind_some hm
            refine wl_call (wn rfl) rfl (xs := [.tmp 1, .tmp 12]) (vs := [bp b3 0, .string y18]) (cap := []) F rfl rfl tc70 (diff_Collector__Delete_ok (g := g30) (fr := (fl [[(b7, .cells #[.bool y15.inserted, .string y15.line, v30] 78 (0, 0))], [(b6, .cells #[.int .i64 y6.At, v13, v14] 60 (0, 0))], [(b2, .cells #[nilS] 38 (0, 0))]] fr)) (w := w) b3 ({ hunks := x83, at_ := x84, open_ := x85 } : Collector_diff) v35 c29 h36 y18 S hy19) rfl rfl ?_; clear F a S
            rintro _ a w ⟨g31, v36, c30, l31, S, h37, rfl⟩ F; replace S : St g31 [[(b3, .cells #[v36, .int .i64 y19.at_, .bool y19.open_] 91 (0, 0))], c30, [(b7, .cells #[.bool y15.inserted, .string y15.line, v30] 78 (0, 0))], [(b6, .cells #[.int .i64 y6.At, v13, v14] 60 (0, 0))], [(b2, .cells #[nilS] 38 (0, 0))]] fr w := S
            refine wpList_nil ?_
            replace F := F.sub (e' := [(8, .int .i64 x82), (7, .int .i64 (y15.before.length : Int)), (6, v30), (2, bp b7 0), (1, bp b3 0)]) ⟨rfl, rfl, rfl, rfl, rfl, trivial⟩
            refine inb_n ?_
            refine then_n ?_
            refine wp_region_lit ?_
            obtain ⟨z9, hz9, hm⟩ := bind_some hm
            refine wl_ev (wn rfl) (ev_int rfl rfl (bo_add hz9)) F S rfl rfl ?_; clear F a; intro a F
            refine wl_ev (wn rfl) (ev_move rfl) F S rfl rfl ?_; clear F a; intro a F
            refine wpList_nil ?_
            replace F := F.sub (e' := [(8, .int .i64 z9), (7, .int .i64 (y15.before.length : Int)), (6, v30), (2, bp b7 0), (1, bp b3 0)]) ⟨rfl, rfl, rfl, rfl, rfl, trivial⟩
            refine then_n ?_
            obtain rfl := sinj hm
            refine ⟨_, rfl, ?_⟩
            dsimp only
            replace S : St g31 [[(b7, .cells #[.bool y15.inserted, .string y15.line, v30] 78 (0, 0))], [(b3, .cells #[v36, .int .i64 y19.at_, .bool y19.open_] 91 (0, 0))], [(b6, .cells #[.int .i64 y6.At, v13, v14] 60 (0, 0))], [(b2, .cells #[nilS] 38 (0, 0))], c30] fr w := St.tail [[(b7, .cells #[.bool y15.inserted, .string y15.line, v30] 78 (0, 0))], [(b3, .cells #[v36, .int .i64 y19.at_, .bool y19.open_] 91 (0, 0))], [(b6, .cells #[.int .i64 y6.At, v13, v14] 60 (0, 0))], [(b2, .cells #[nilS] 38 (0, 0))], c30] _ (((((S.frontC 1 rfl).frontC 5 rfl).frontC 5 rfl).frontC 3 rfl).frontC 6 rfl)
            exact ⟨v36, c30, g31, F.sub ⟨rfl, rfl, rfl, rfl, rfl, trivial⟩, (l30.trans l31), S, h37⟩
           ·refine wp_condF F rfl hc11 ?_
            refine wp_exit ?_
            refine then_e ?_
            refine then_e ?_
            refine inb_x ?_
            refine then_n ?_
            obtain rfl := sinj hm
            obtain rfl := hfin8 _ rfl
            clear hm
            have hm : (textpatch_walk.j13 x71 y15 x83 x84 x85 : Option (Step (Int × (List Hunk) × Int × Bool) (Int × (List Hunk) × Int × Bool))) = some _ := hmo8
            exact ⟨x83, x84, x85, v35, c29, g30, F.sub ⟨rfl, rfl, trivial⟩, l30, S, h36, hm⟩
         ·clear F S hm; rintro a w ⟨x79, x80, x81, v32, c26, g27, F, l27, S, h33, hm⟩
          refine wp_seq ?_
          refine wp_region_lit ?_
          refine wl_ev (wn rfl) (ev_fieldAddr' tu78 tf78_0 (z := 0) ts4 rfl ⟨_, rfl⟩ rfl) F S rfl rfl ?_; clear F a; intro a F
          refine wl_ev (wn rfl) (ev_load1 tu4 rfl rfl (box_ptr (cells := [.bool y15.inserted]) 0 rfl 0 rfl (lb rfl))) F S rfl rfl ?_; clear F a; intro a F
          refine wpList_nil ?_
          replace F := F.sub (e' := [(16, .bool y15.inserted), (2, bp b7 0), (1, bp b3 0)]) ⟨rfl, rfl, rfl, trivial⟩
          refine then_n ?_
          obtain ⟨hc10, hm⟩ | ⟨hc10, hm⟩ := ite_or hm
          ·refine wp_condT F rfl hc10 ?_
           refine wp_region_lit ?_
           refine wl_ev (wn rfl) (ev_fieldAddr' tu78 tf78_1 (z := 0) ts9 rfl ⟨_, rfl⟩ rfl) F S rfl rfl ?_; clear F a; intro a F
           refine wl_ev (wn rfl) (ev_load1 tu9 rfl rfl (box_ptr (cells := [.string y15.line]) 0 rfl 1 rfl (lb rfl))) F S rfl rfl ?_; clear F a; intro a F
           replace S : St g27 [[(b3, .cells #[v32, .int .i64 x80, .bool x81] 91 (0, 0))], c26, [(b7, .cells #[.bool y15.inserted, .string y15.line, v30] 78 (0, 0))], [(b6, .cells #[.int .i64 y6.At, v13, v14] 60 (0, 0))], [(b2, .cells #[nilS] 38 (0, 0))]] fr w := (((((S.frontC 3 rfl).frontC 3 rfl).frontC 2 rfl).frontC 7 rfl).frontC 5 rfl)
           obtain ⟨y16, hy16, hm⟩ := bind_some hm
           refine wl_call (wn rfl) rfl (xs := [.tmp 1, .tmp 18]) (vs := [bp b3 0, .string y15.line]) (cap := []) F rfl rfl tc71 (diff_Collector__Insert_ok (g := g27) (fr := (fl [[(b7, .cells #[.bool y15.inserted, .string y15.line, v30] 78 (0, 0))], [(b6, .cells #[.int .i64 y6.At, v13, v14] 60 (0, 0))], [(b2, .cells #[nilS] 38 (0, 0))]] fr)) (w := w) b3 ({ hunks := x79, at_ := x80, open_ := x81 } : Collector_diff) v32 c26 h33 y15.line S hy16) rfl rfl ?_; clear F a S
           rintro _ a w ⟨g28, v33, c27, l28, S, h34, rfl⟩ F; replace S : St g28 [[(b3, .cells #[v33, .int .i64 y16.at_, .bool y16.open_] 91 (0, 0))], c27, [(b7, .cells #[.bool y15.inserted, .string y15.line, v30] 78 (0, 0))], [(b6, .cells #[.int .i64 y6.At, v13, v14] 60 (0, 0))], [(b2, .cells #[nilS] 38 (0, 0))]] fr w := S
           refine wpList_nil ?_
           replace F := F.sub (e' := []) trivial
           refine post_n (fn := Try.f69) (rs := []) [] F rfl ar_nil ?_
           replace S : St g28 [[(b6, .cells #[.int .i64 y6.At, v13, v14] 60 (0, 0))], [(b3, .cells #[v33, .int .i64 y16.at_, .bool y16.open_] 91 (0, 0))], [(b2, .cells #[nilS] 38 (0, 0))], c27] fr w := St.tail [[(b6, .cells #[.int .i64 y6.At, v13, v14] 60 (0, 0))], [(b3, .cells #[v33, .int .i64 y16.at_, .bool y16.open_] 91 (0, 0))], [(b2, .cells #[nilS] 38 (0, 0))], c27] _ ((((S.frontC 1 rfl).frontC 5 rfl).frontC 2 rfl).frontC 6 rfl)
           exact ⟨_, rfl, ⟨y16.hunks, y16.at_, y16.open_, v33, c27, g28, rfl, (l27.trans l28), S, h34, hm⟩⟩
          ·refine wp_condF F rfl hc10 ?_
           refine wp_region_lit ?_
           replace S : St g27 [[(b3, .cells #[v32, .int .i64 x80, .bool x81] 91 (0, 0))], c26, [(b7, .cells #[.bool y15.inserted, .string y15.line, v30] 78 (0, 0))], [(b6, .cells #[.int .i64 y6.At, v13, v14] 60 (0, 0))], [(b2, .cells #[nilS] 38 (0, 0))]] fr w := (((((S.frontC 3 rfl).frontC 3 rfl).frontC 2 rfl).frontC 7 rfl).frontC 5 rfl)
           obtain ⟨y17, hy17, hm⟩ := bind_some hm
           refine wl_call (wn rfl) rfl (xs := [.tmp 1, .const (.int .i64 1)]) (vs := [bp b3 0, .int .i64 1]) (cap := []) F rfl rfl tc72 (diff_Collector__Keep_ok (g := g27) (fr := (fl [[(b7, .cells #[.bool y15.inserted, .string y15.line, v30] 78 (0, 0))], [(b6, .cells #[.int .i64 y6.At, v13, v14] 60 (0, 0))], [(b2, .cells #[nilS] 38 (0, 0))]] fr)) (w := w) b3 ({ hunks := x79, at_ := x80, open_ := x81 } : Collector_diff) v32 c26 h33 1 S hy17) rfl rfl ?_; clear F a S
           rintro _ a w ⟨g29, v34, c28, l29, S, h35, rfl⟩ F; replace S : St g29 [[(b3, .cells #[v34, .int .i64 y17.at_, .bool y17.open_] 91 (0, 0))], c28, [(b7, .cells #[.bool y15.inserted, .string y15.line, v30] 78 (0, 0))], [(b6, .cells #[.int .i64 y6.At, v13, v14] 60 (0, 0))], [(b2, .cells #[nilS] 38 (0, 0))]] fr w := S
           refine wpList_nil ?_
           replace F := F.sub (e' := []) trivial
           refine post_n (fn := Try.f69) (rs := []) [] F rfl ar_nil ?_
           replace S : St g29 [[(b6, .cells #[.int .i64 y6.At, v13, v14] 60 (0, 0))], [(b3, .cells #[v34, .int .i64 y17.at_, .bool y17.open_] 91 (0, 0))], [(b2, .cells #[nilS] 38 (0, 0))], c28] fr w := St.tail [[(b6, .cells #[.int .i64 y6.At, v13, v14] 60 (0, 0))], [(b3, .cells #[v34, .int .i64 y17.at_, .bool y17.open_] 91 (0, 0))], [(b2, .cells #[nilS] 38 (0, 0))], c28] _ ((((S.frontC 1 rfl).frontC 5 rfl).frontC 2 rfl).frontC 6 rfl)
           exact ⟨_, rfl, ⟨y17.hunks, y17.at_, y17.open_, v34, c28, g29, rfl, (l27.trans l29), S, h35, hm⟩⟩
        ·clear F S hm; rintro _ a w ⟨x76, x77, x78, v31, c25, g26, rfl, l26, S, h32, hm⟩ F
         replace F := F.sub (e' := [(35, .tuple #[]), (9, bp b6 0), (20, .int .i64 x24), (19, .int .i64 (q_.Hunks.length : Int)), (18, vq_1), (7, .func (.func 69) #[] #[bp b3 0]), (6, .int .i64 x71), (5, bp b3 0), (4, bp b2 0), (0, vmid1)]) ⟨rfl, rfl, rfl, rfl, rfl, rfl, rfl, rfl, rfl, rfl, trivial⟩
         refine wpList_nil ?_
         replace F := F.sub (e' := [(9, bp b6 0), (20, .int .i64 x24), (19, .int .i64 (q_.Hunks.length : Int)), (18, vq_1), (7, .func (.func 69) #[] #[bp b3 0]), (6, .int .i64 x71), (5, bp b3 0), (4, bp b2 0), (0, vmid1)]) ⟨rfl, rfl, rfl, rfl, rfl, rfl, rfl, rfl, rfl, trivial⟩
         refine inb_n ?_
         refine then_n ?_
         refine wp_region_lit ?_
         refine wl_ev (wn rfl) (ev_move rfl) F S rfl rfl ?_; clear F a; intro a F
         obtain ⟨z8, hz8, hm⟩ := bind_some hm
         refine wl_ev (wn rfl) (ev_int rfl rfl (bo_add hz8)) F S rfl rfl ?_; clear F a; intro a F
         refine wl_ev (wn rfl) (ev_assign rfl) F S rfl rfl ?_; clear F a; intro a F
         refine wpList_nil ?_
         replace F := F.sub (e' := [(6, .int .i64 z8), (9, bp b6 0), (20, .int .i64 x24), (19, .int .i64 (q_.Hunks.length : Int)), (18, vq_1), (7, .func (.func 69) #[] #[bp b3 0]), (5, bp b3 0), (4, bp b2 0), (0, vmid1)]) ⟨rfl, rfl, rfl, rfl, rfl, rfl, rfl, rfl, rfl, trivial⟩
         refine then_n ?_
         obtain rfl := sinj hm
         refine ⟨_, rfl, ?_⟩
         dsimp only
         exact ⟨v31, c25, g26, F.sub ⟨rfl, rfl, rfl, rfl, rfl, rfl, rfl, rfl, rfl, trivial⟩, (l25.trans l26), S, h32⟩
       ·refine wp_condF F rfl hc9 ?_
        refine wp_exit ?_
        refine then_e ?_
        refine then_e ?_
        refine inb_x ?_
        refine then_n ?_
        obtain rfl := sinj hm
        obtain rfl := hfin7 _ rfl
        clear hm
        have hm : (textpatch_walk.j6 mid x24 y6 x71 x72 x73 x74 : Option (Step (Int × Int × (List Hunk) × Int × Bool) (Int × (List Hunk) × Int × Bool))) = some _ := hmo7
        exact ⟨x71, x72, x73, x74, v29, c24, g25, F.sub ⟨rfl, rfl, rfl, rfl, rfl, rfl, rfl, rfl, rfl, trivial⟩, l25, S, h30, hm⟩
     ·clear F S hm; rintro a w ⟨x34, x35, x36, x37, v15, c12, g13, F, l13, S, h16, hm⟩
      refine wp_cut (fun a w => ∃ (x38 : List Hunk) (x39 : Int) (x40 : Bool) (v16 : Value) (c13 : Hl) (g14 : Gh), Fr 91 a [(9, bp b6 0), (20, .int .i64 x24), (19, .int .i64 (q_.Hunks.length : Int)), (18, vq_1), (7, .func (.func 69) #[] #[bp b3 0]), (6, .int .i64 x34), (5, bp b3 0), (4, bp b2 0), (0, vmid1)] ∧ Le g13 g14 ∧ St g14 [[(b6, .cells #[.int .i64 y6.At, v13, v14] 60 (0, 0))], [(b3, .cells #[v16, .int .i64 x39, .bool x40] 91 (0, 0))], [(b2, .cells #[nilS] 38 (0, 0))], c13] fr w ∧ OwnN g14 x38 v16 c13 ∧ textpatch_walk.j7 mid x24 y6 x34 x38 x39 x40 = some x29) ?_ ?_
      ·refine wp_seq ?_
       refine wp_region_lit ?_
       refine wl_ev (wn rfl) (ev_fieldAddr' tu60 tf60_2 (z := 0) ts31 rfl ⟨_, rfl⟩ rfl) F S rfl rfl ?_; clear F a; intro a F
       refine wl_ev (wn rfl) (ev_load1 tu31 rfl rfl (box_ptr (cells := [v14]) 0 rfl 2 rfl (lb rfl))) F S rfl rfl ?_; clear F a; intro a F
       refine wl_ev (wn rfl) (ev_lenSh h15 rfl tu31) F S rfl rfl ?_; clear F a; intro a F
       refine wl_ev (wn rfl) (ev_move rfl) F S rfl rfl ?_; clear F a; intro a F
       refine wpList_nil ?_
       replace F := F.sub (e' := [(39, .int .i64 0), (38, .int .i64 (y6.New.length : Int)), (37, v14), (9, bp b6 0), (20, .int .i64 x24), (19, .int .i64 (q_.Hunks.length : Int)), (18, vq_1), (7, .func (.func 69) #[] #[bp b3 0]), (6, .int .i64 x34), (5, bp b3 0), (4, bp b2 0), (0, vmid1)]) ⟨rfl, rfl, rfl, rfl, rfl, rfl, rfl, rfl, rfl, rfl, rfl, rfl, trivial⟩
       refine then_n ?_
       refine wp_block ?_
       obtain ⟨r6, hr13, hm⟩ := bind_some hm
       have hmo6 := hm; clear hm
       refine wp_iter (σ := Int × (List Hunk) × Int × Bool) (ρ := (List Hunk) × Int × Bool) (m := fun s => textpatch_walk.l6 y6 s.1 s.2.1 s.2.2.1 s.2.2.2) (I := fun s a w => match s with | (x66, x67, x68, x69) => ∃ (v27 : Value) (c22 : Hl) (g23 : Gh), Fr 91 a [(39, .int .i64 x66), (38, .int .i64 (y6.New.length : Int)), (37, v14), (9, bp b6 0), (20, .int .i64 x24), (19, .int .i64 (q_.Hunks.length : Int)), (18, vq_1), (7, .func (.func 69) #[] #[bp b3 0]), (6, .int .i64 x34), (5, bp b3 0), (4, bp b2 0), (0, vmid1)] ∧ Le g13 g23 ∧ St g23 [[(b6, .cells #[.int .i64 y6.At, v13, v14] 60 (0, 0))], [(b3, .cells #[v27, .int .i64 x68, .bool x69] 91 (0, 0))], [(b2, .cells #[nilS] 38 (0, 0))], c22] fr w ∧ OwnN g23 x67 v27 c22) hr13 ?_ ?_
       ·dsimp only
        exact ⟨v15, c12, g13, F.sub ⟨rfl, rfl, rfl, rfl, rfl, rfl, rfl, rfl, rfl, rfl, rfl, rfl, trivial⟩, (Le.refl _), S, h16⟩
       ·clear F S; rintro ⟨x66, x67, x68, x69⟩ a w x70 ⟨v27, c22, g23, F, l23, S, h28⟩ hx6 hfin6
        have hm : textpatch_walk.l6 y6 x66 x67 x68 x69 = some x70 := hx6; clear hx6
        unfold textpatch_walk.l6 at hm
        refine wp_seq ?_
        refine wp_region_lit ?_
        refine wl_ev (wn rfl) (ev_int rfl rfl (bo_lss _ _ _ _)) F S rfl rfl ?_; clear F a; intro a F
        refine wpList_nil ?_
        refine then_n ?_
        refine wp_seq ?_
        obtain ⟨hc8, hm⟩ | ⟨hc8, hm⟩ := ite_or hm
        ·refine wp_condT F rfl hc8 ?_
         refine wp_skip ?_
         refine then_n ?_
         refine wp_seq ?_
         refine wp_block ?_
         refine wp_seq ?_
         refine wp_region_lit ?_
         obtain ⟨y13, hy13, hm⟩ := bind_some hm
         obtain ⟨cs8, hr14, hp10⟩ := elemS (h15.mono (l13.trans l23)) hy13
         obtain rfl := rep_str hr14
         refine wl_ev (wn rfl) (ev_idxS (h15.mono (l13.trans l23)) hy13 tu31 ts9 rfl rfl) F S rfl rfl ?_; clear F a; intro a F
         refine wl_ev (wn rfl) (ev_load1 tu9 rfl rfl (ptr_mono (cks := [[(b6, .cells #[.int .i64 y6.At, v13, v14] 60 (0, 0))], [(b3, .cells #[v27, .int .i64 x68, .bool x69] 91 (0, 0))], [(b2, .cells #[nilS] 38 (0, 0))], c22]) (fr := fr) hp10 (Le.refl _))) F S rfl rfl ?_; clear F a; intro a F
         refine wl_ev (wn rfl) (ev_assign rfl) F S rfl rfl ?_; clear F a; intro a F
         refine wpList_nil ?_
         replace F := F.sub (e' := [(11, .string y13), (39, .int .i64 x66), (38, .int .i64 (y6.New.length : Int)), (37, v14), (9, bp b6 0), (20, .int .i64 x24), (19, .int .i64 (q_.Hunks.length : Int)), (18, vq_1), (7, .func (.func 69) #[] #[bp b3 0]), (6, .int .i64 x34), (5, bp b3 0), (4, bp b2 0), (0, vmid1)]) ⟨rfl, rfl, rfl, rfl, rfl, rfl, rfl, rfl, rfl, rfl, rfl, rfl, rfl, trivial⟩
         refine then_n ?_
         refine wp_region_lit ?_
         refine wl_ev (wn rfl) (ev_move rfl) F S rfl rfl ?_; clear F a; intro a F
         replace S : St g23 [[(b3, .cells #[v27, .int .i64 x68, .bool x69] 91 (0, 0))], c22, [(b6, .cells #[.int .i64 y6.At, v13, v14] 60 (0, 0))], [(b2, .cells #[nilS] 38 (0, 0))]] fr w := ((((S.frontC 2 rfl).frontC 1 rfl).frontC 5 rfl).frontC 4 rfl)
         obtain ⟨y14, hy14, hm⟩ := bind_some hm
         refine wl_call (wn rfl) rfl (xs := [.tmp 5, .tmp 43]) (vs := [bp b3 0, .string y13]) (cap := []) F rfl rfl tc71 (diff_Collector__Insert_ok (g := g23) (fr := (fl [[(b6, .cells #[.int .i64 y6.At, v13, v14] 60 (0, 0))], [(b2, .cells #[nilS] 38 (0, 0))]] fr)) (w := w) b3 ({ hunks := x67, at_ := x68, open_ := x69 } : Collector_diff) v27 c22 h28 y13 S hy14) rfl rfl ?_; clear F a S
         rintro _ a w ⟨g24, v28, c23, l24, S, h29, rfl⟩ F; replace S : St g24 [[(b3, .cells #[v28, .int .i64 y14.at_, .bool y14.open_] 91 (0, 0))], c23, [(b6, .cells #[.int .i64 y6.At, v13, v14] 60 (0, 0))], [(b2, .cells #[nilS] 38 (0, 0))]] fr w := S
         refine wpList_nil ?_
         replace F := F.sub (e' := [(39, .int .i64 x66), (38, .int .i64 (y6.New.length : Int)), (37, v14), (9, bp b6 0), (20, .int .i64 x24), (19, .int .i64 (q_.Hunks.length : Int)), (18, vq_1), (7, .func (.func 69) #[] #[bp b3 0]), (6, .int .i64 x34), (5, bp b3 0), (4, bp b2 0), (0, vmid1)]) ⟨rfl, rfl, rfl, rfl, rfl, rfl, rfl, rfl, rfl, rfl, rfl, rfl, trivial⟩
         refine inb_n ?_
         refine then_n ?_
         refine wp_region_lit ?_
         obtain ⟨z7, hz7, hm⟩ := bind_some hm
         refine wl_ev (wn rfl) (ev_int rfl rfl (bo_add hz7)) F S rfl rfl ?_; clear F a; intro a F
         refine wl_ev (wn rfl) (ev_move rfl) F S rfl rfl ?_; clear F a; intro a F
         refine wpList_nil ?_
         replace F := F.sub (e' := [(39, .int .i64 z7), (38, .int .i64 (y6.New.length : Int)), (37, v14), (9, bp b6 0), (20, .int .i64 x24), (19, .int .i64 (q_.Hunks.length : Int)), (18, vq_1), (7, .func (.func 69) #[] #[bp b3 0]), (6, .int .i64 x34), (5, bp b3 0), (4, bp b2 0), (0, vmid1)]) ⟨rfl, rfl, rfl, rfl, rfl, rfl, rfl, rfl, rfl, rfl, rfl, rfl, trivial⟩
         refine then_n ?_
         obtain rfl := sinj hm
         refine ⟨_, rfl, ?_⟩
         dsimp only
         replace S : St g24 [[(b6, .cells #[.int .i64 y6.At, v13, v14] 60 (0, 0))], [(b3, .cells #[v28, .int .i64 y14.at_, .bool y14.open_] 91 (0, 0))], [(b2, .cells #[nilS] 38 (0, 0))], c23] fr w := St.tail [[(b6, .cells #[.int .i64 y6.At, v13, v14] 60 (0, 0))], [(b3, .cells #[v28, .int .i64 y14.at_, .bool y14.open_] 91 (0, 0))], [(b2, .cells #[nilS] 38 (0, 0))], c23] _ ((((S.frontC 1 rfl).frontC 4 rfl).frontC 2 rfl).frontC 5 rfl)
         exact ⟨v28, c23, g24, F.sub ⟨rfl, rfl, rfl, rfl, rfl, rfl, rfl, rfl, rfl, rfl, rfl, rfl, trivial⟩, (l23.trans l24), S, h29⟩
        ·refine wp_condF F rfl hc8 ?_
         refine wp_exit ?_
         refine then_e ?_
         refine then_e ?_
         refine inb_x ?_
         refine then_n ?_
         obtain rfl := sinj hm
         obtain rfl := hfin6 _ rfl
         clear hm
         have hm : (textpatch_walk.j7 mid x24 y6 x34 x67 x68 x69 : Option (Step (Int × Int × (List Hunk) × Int × Bool) (Int × (List Hunk) × Int × Bool))) = some _ := hmo6
         exact ⟨x67, x68, x69, v27, c22, g23, F.sub ⟨rfl, rfl, rfl, rfl, rfl, rfl, rfl, rfl, rfl, trivial⟩, l23, S, h28, hm⟩
      ·clear F S hm; rintro a w ⟨x38, x39, x40, v16, c13, g14, F, l14, S, h17, hm⟩
       refine wp_seq ?_
       refine wp_region_lit ?_
       refine wl_ev (wn rfl) (ev_fieldAddr' tu60 tf60_1 (z := 0) ts31 rfl ⟨_, rfl⟩ rfl) F S rfl rfl ?_; clear F a; intro a F
       refine wl_ev (wn rfl) (ev_load1 tu31 rfl rfl (box_ptr (cells := [v13]) 0 rfl 1 rfl (lb rfl))) F S rfl rfl ?_; clear F a; intro a F
       refine wl_ev (wn rfl) (ev_lenSh h14 rfl tu31) F S rfl rfl ?_; clear F a; intro a F
       refine wl_ev (wn rfl) (ev_move rfl) F S rfl rfl ?_; clear F a; intro a F
       refine wpList_nil ?_
       replace F := F.sub (e' := [(49, .int .i64 0), (48, .int .i64 (y6.Old.length : Int)), (47, v13), (20, .int .i64 x24), (19, .int .i64 (q_.Hunks.length : Int)), (18, vq_1), (7, .func (.func 69) #[] #[bp b3 0]), (6, .int .i64 x34), (5, bp b3 0), (4, bp b2 0), (0, vmid1)]) ⟨rfl, rfl, rfl, rfl, rfl, rfl, rfl, rfl, rfl, rfl, rfl, trivial⟩
       refine then_n ?_
       refine wp_cut1 (fun a w => ∃ (x41 : Int) (x42 : List Hunk) (x43 : Int) (x44 : Bool) (v17 : Value) (c14 : Hl) (g15 : Gh), Fr 91 a [(20, .int .i64 x24), (19, .int .i64 (q_.Hunks.length : Int)), (18, vq_1), (7, .func (.func 69) #[] #[bp b3 0]), (6, .int .i64 x41), (5, bp b3 0), (4, bp b2 0), (0, vmid1)] ∧ Le g14 g15 ∧ St g15 [[(b3, .cells #[v17, .int .i64 x43, .bool x44] 91 (0, 0))], [(b2, .cells #[nilS] 38 (0, 0))], c14] fr w ∧ OwnN g15 x42 v17 c14 ∧ textpatch_walk.j8 x24 x41 x42 x43 x44 = some x29) ?_ ?_
       ·refine wp_block ?_
        obtain ⟨r4, hr7, hm⟩ := bind_some hm
        have hmo4 := hm; clear hm
        refine wp_iter (σ := Int × Int × (List Hunk) × Int × Bool) (ρ := Int × (List Hunk) × Int × Bool) (m := fun s => textpatch_walk.l4 mid y6 s.1 s.2.1 s.2.2.1 s.2.2.2.1 s.2.2.2.2) (I := fun s a w => match s with | (x45, x46, x47, x48, x49) => ∃ (v18 : Value) (c15 : Hl) (g16 : Gh), Fr 91 a [(49, .int .i64 x45), (48, .int .i64 (y6.Old.length : Int)), (47, v13), (20, .int .i64 x24), (19, .int .i64 (q_.Hunks.length : Int)), (18, vq_1), (7, .func (.func 69) #[] #[bp b3 0]), (6, .int .i64 x46), (5, bp b3 0), (4, bp b2 0), (0, vmid1)] ∧ Le g14 g16 ∧ St g16 [[(b3, .cells #[v18, .int .i64 x48, .bool x49] 91 (0, 0))], [(b2, .cells #[nilS] 38 (0, 0))], c15] fr w ∧ OwnN g16 x47 v18 c15) hr7 ?_ ?_
        ·dsimp only
         replace S : St g14 [[(b3, .cells #[v16, .int .i64 x39, .bool x40] 91 (0, 0))], [(b2, .cells #[nilS] 38 (0, 0))], c13] fr w := St.tail [[(b3, .cells #[v16, .int .i64 x39, .bool x40] 91 (0, 0))], [(b2, .cells #[nilS] 38 (0, 0))], c13] _ (((S.frontC 3 rfl).frontC 3 rfl).frontC 3 rfl)
         exact ⟨v16, c13, g14, F.sub ⟨rfl, rfl, rfl, rfl, rfl, rfl, rfl, rfl, rfl, rfl, rfl, trivial⟩, (Le.refl _), S, h17⟩
        ·clear F S; rintro ⟨x45, x46, x47, x48, x49⟩ a w x50 ⟨v18, c15, g16, F, l16, S, h19⟩ hx4 hfin4
         have hm : textpatch_walk.l4 mid y6 x45 x46 x47 x48 x49 = some x50 := hx4; clear hx4
         unfold textpatch_walk.l4 at hm
         refine wp_seq ?_
         refine wp_region_lit ?_
         refine wl_ev (wn rfl) (ev_int rfl rfl (bo_lss _ _ _ _)) F S rfl rfl ?_; clear F a; intro a F
         refine wpList_nil ?_
         refine then_n ?_
         refine wp_seq ?_
         obtain ⟨hc5, hm⟩ | ⟨hc5, hm⟩ := ite_or hm
         ·refine wp_condT F rfl hc5 ?_
          refine wp_skip ?_
          refine then_n ?_
          refine wp_cut (fun a w => ∃ (x51 : Int) (x52 : List Hunk) (x53 : Int) (x54 : Bool) (v19 : Value) (c16 : Hl) (g17 : Gh), Fr 91 a [(6, .int .i64 x51), (49, .int .i64 x45), (48, .int .i64 (y6.Old.length : Int)), (47, v13), (20, .int .i64 x24), (19, .int .i64 (q_.Hunks.length : Int)), (18, vq_1), (7, .func (.func 69) #[] #[bp b3 0]), (5, bp b3 0), (4, bp b2 0), (0, vmid1)] ∧ Le g16 g17 ∧ St g17 [[(b3, .cells #[v19, .int .i64 x53, .bool x54] 91 (0, 0))], [(b2, .cells #[nilS] 38 (0, 0))], c16] fr w ∧ OwnN g17 x52 v19 c16 ∧ textpatch_walk.j9 x45 x51 x52 x53 x54 = some x50) ?_ ?_
          ·refine wp_block ?_
           refine wp_seq ?_
           refine wp_region_lit ?_
           obtain ⟨y7, hy7, hm⟩ := bind_some hm
           obtain ⟨cs4, hr8, hp4⟩ := elemS (h14.mono ((l13.trans l14).trans l16)) hy7
           obtain rfl := rep_str hr8
           refine wl_ev (wn rfl) (ev_idxS (h14.mono ((l13.trans l14).trans l16)) hy7 tu31 ts9 rfl rfl) F S rfl rfl ?_; clear F a; intro a F
           refine wl_ev (wn rfl) (ev_load1 tu9 rfl rfl (ptr_mono (cks := [[(b3, .cells #[v18, .int .i64 x48, .bool x49] 91 (0, 0))], [(b2, .cells #[nilS] 38 (0, 0))], c15]) (fr := fr) hp4 (Le.refl _))) F S rfl rfl ?_; clear F a; intro a F
           refine wl_ev (wn rfl) (ev_assign rfl) F S rfl rfl ?_; clear F a; intro a F
           refine wpList_nil ?_
           replace F := F.sub (e' := [(13, .string y7), (49, .int .i64 x45), (48, .int .i64 (y6.Old.length : Int)), (47, v13), (20, .int .i64 x24), (19, .int .i64 (q_.Hunks.length : Int)), (18, vq_1), (7, .func (.func 69) #[] #[bp b3 0]), (6, .int .i64 x46), (5, bp b3 0), (4, bp b2 0), (0, vmid1)]) ⟨rfl, rfl, rfl, rfl, rfl, rfl, rfl, rfl, rfl, rfl, rfl, rfl, trivial⟩
           refine then_n ?_
           refine wp_cut (fun a w => ∃ (x55 : List Hunk) (x56 : Int) (x57 : Bool) (v20 : Value) (c17 : Hl) (g18 : Gh), Fr 91 a [(13, .string y7), (49, .int .i64 x45), (48, .int .i64 (y6.Old.length : Int)), (47, v13), (20, .int .i64 x24), (19, .int .i64 (q_.Hunks.length : Int)), (18, vq_1), (7, .func (.func 69) #[] #[bp b3 0]), (6, .int .i64 x46), (5, bp b3 0), (4, bp b2 0), (0, vmid1)] ∧ Le g16 g18 ∧ St g18 [[(b3, .cells #[v20, .int .i64 x56, .bool x57] 91 (0, 0))], [(b2, .cells #[nilS] 38 (0, 0))], c17] fr w ∧ OwnN g18 x55 v20 c17 ∧ textpatch_walk.j10 mid x45 x46 y7 x55 x56 x57 = some x50) ?_ ?_
           ·refine wp_seq ?_
            refine wp_region_lit ?_
            refine wl_ev (wn rfl) (ev_move rfl) F S rfl rfl ?_; clear F a; intro a F
            refine wl_ev (wn rfl) (ev_move rfl) F S rfl rfl ?_; clear F a; intro a F
            obtain ⟨y10, hy10, hm⟩ := bind_some hm
            obtain ⟨cs6, hr10, hp7⟩ := elemS (hmid1.mono (((l11.trans l13).trans l14).trans l16)) hy10
            obtain ⟨v24, rfl, h25⟩ := rep_Middle_textpatch hr10
            refine wl_ev (wn rfl) (ev_idxS (hmid1.mono (((l11.trans l13).trans l14).trans l16)) hy10 tu75 ts78 rfl rfl) F S rfl rfl ?_; clear F a; intro a F
            have hp8 := PtrC.field hp7 2 1 (lb rfl)
            have hp8 : PtrC g16 (addP (elemP vmid1 x46 3) 2) [v24] := hp8
            refine wl_ev (wn rfl) (ev_fieldAddr' tu78 tf78_2 (z := 0) ts31 rfl hp7.ptr rfl) F S rfl rfl ?_; clear F a; intro a F
            refine wl_ev (wn rfl) (ev_load1 tu31 rfl rfl (ptr_mono (cks := [[(b3, .cells #[v18, .int .i64 x48, .bool x49] 91 (0, 0))], [(b2, .cells #[nilS] 38 (0, 0))], c15]) (fr := fr) hp8 (Le.refl _))) F S rfl rfl ?_; clear F a; intro a F
            refine wl_ev (wn rfl) (ev_lenSh h25 rfl tu31) F S rfl rfl ?_; clear F a; intro a F
            refine wl_ev (wn rfl) (ev_move rfl) F S rfl rfl ?_; clear F a; intro a F
            refine wpList_nil ?_
            replace F := F.sub (e' := [(59, .int .i64 0), (58, .int .i64 (y10.before.length : Int)), (57, v24), (13, .string y7), (49, .int .i64 x45), (48, .int .i64 (y6.Old.length : Int)), (47, v13), (20, .int .i64 x24), (19, .int .i64 (q_.Hunks.length : Int)), (18, vq_1), (7, .func (.func 69) #[] #[bp b3 0]), (6, .int .i64 x46), (5, bp b3 0), (4, bp b2 0), (0, vmid1)]) ⟨rfl, rfl, rfl, rfl, rfl, rfl, rfl, rfl, rfl, rfl, rfl, rfl, rfl, rfl, rfl, trivial⟩
            refine then_n ?_
            refine wp_block ?_
            obtain ⟨r5, hr11, hm⟩ := bind_some hm
            have hmo5 := hm; clear hm
            refine wp_iter (σ := Int × (List Hunk) × Int × Bool) (ρ := (List Hunk) × Int × Bool) (m := fun s => textpatch_walk.l5 y10 s.1 s.2.1 s.2.2.1 s.2.2.2) (I := fun s a w => match s with | (x61, x62, x63, x64) => ∃ (v25 : Value) (c20 : Hl) (g21 : Gh), Fr 91 a [(59, .int .i64 x61), (58, .int .i64 (y10.before.length : Int)), (57, v24), (13, .string y7), (49, .int .i64 x45), (48, .int .i64 (y6.Old.length : Int)), (47, v13), (20, .int .i64 x24), (19, .int .i64 (q_.Hunks.length : Int)), (18, vq_1), (7, .func (.func 69) #[] #[bp b3 0]), (6, .int .i64 x46), (5, bp b3 0), (4, bp b2 0), (0, vmid1)] ∧ Le g16 g21 ∧ St g21 [[(b3, .cells #[v25, .int .i64 x63, .bool x64] 91 (0, 0))], [(b2, .cells #[nilS] 38 (0, 0))], c20] fr w ∧ OwnN g21 x62 v25 c20) hr11 ?_ ?_
            ·dsimp only
             exact ⟨v18, c15, g16, F.sub ⟨rfl, rfl, rfl, rfl, rfl, rfl, rfl, rfl, rfl, rfl, rfl, rfl, rfl, rfl, rfl, trivial⟩, (Le.refl _), S, h19⟩
            ·clear F S; rintro ⟨x61, x62, x63, x64⟩ a w x65 ⟨v25, c20, g21, F, l21, S, h26⟩ hx5 hfin5
             have hm : textpatch_walk.l5 y10 x61 x62 x63 x64 = some x65 := hx5; clear hx5
             unfold textpatch_walk.l5 at hm
             refine wp_seq ?_
             refine wp_region_lit ?_
             refine wl_ev (wn rfl) (ev_int rfl rfl (bo_lss _ _ _ _)) F S rfl rfl ?_; clear F a; intro a F
             refine wpList_nil ?_
             refine then_n ?_
             refine wp_seq ?_
             obtain ⟨hc7, hm⟩ | ⟨hc7, hm⟩ := ite_or hm
             ·refine wp_condT F rfl hc7 ?_
              refine wp_skip ?_
              refine then_n ?_
              refine wp_seq ?_
              refine wp_block ?_
              refine wp_seq ?_
              refine wp_region_lit ?_
              obtain ⟨y11, hy11, hm⟩ := bind_some hm
              obtain ⟨cs7, hr12, hp9⟩ := elemS (h25.mono l21) hy11
              obtain rfl := rep_str hr12
              refine wl_ev (wn rfl) (ev_idxS (h25.mono l21) hy11 tu31 ts9 rfl rfl) F S rfl rfl ?_; clear F a; intro a F
              refine wl_ev (wn rfl) (ev_load1 tu9 rfl rfl (ptr_mono (cks := [[(b3, .cells #[v25, .int .i64 x63, .bool x64] 91 (0, 0))], [(b2, .cells #[nilS] 38 (0, 0))], c20]) (fr := fr) hp9 (Le.refl _))) F S rfl rfl ?_; clear F a; intro a F
              refine wl_ev (wn rfl) (ev_assign rfl) F S rfl rfl ?_; clear F a; intro a F
              refine wpList_nil ?_
              replace F := F.sub (e' := [(15, .string y11), (59, .int .i64 x61), (58, .int .i64 (y10.before.length : Int)), (57, v24), (13, .string y7), (49, .int .i64 x45), (48, .int .i64 (y6.Old.length : Int)), (47, v13), (20, .int .i64 x24), (19, .int .i64 (q_.Hunks.length : Int)), (18, vq_1), (7, .func (.func 69) #[] #[bp b3 0]), (6, .int .i64 x46), (5, bp b3 0), (4, bp b2 0), (0, vmid1)]) ⟨rfl, rfl, rfl, rfl, rfl, rfl, rfl, rfl, rfl, rfl, rfl, rfl, rfl, rfl, rfl, rfl, trivial⟩
              refine then_n ?_
              refine wp_region_lit ?_
              refine wl_ev (wn rfl) (ev_move rfl) F S rfl rfl ?_; clear F a; intro a F
              replace S : St g21 [[(b3, .cells #[v25, .int .i64 x63, .bool x64] 91 (0, 0))], c20, [(b2, .cells #[nilS] 38 (0, 0))]] fr w := (((S.frontC 1 rfl).frontC 3 rfl).frontC 2 rfl)
              obtain ⟨y12, hy12, hm⟩ := bind_some hm
              refine wl_call (wn rfl) rfl (xs := [.tmp 5, .tmp 63]) (vs := [bp b3 0, .string y11]) (cap := []) F rfl rfl tc70 (diff_Collector__Delete_ok (g := g21) (fr := (fl [[(b2, .cells #[nilS] 38 (0, 0))]] fr)) (w := w) b3 ({ hunks := x62, at_ := x63, open_ := x64 } : Collector_diff) v25 c20 h26 y11 S hy12) rfl rfl ?_; clear F a S
              rintro _ a w ⟨g22, v26, c21, l22, S, h27, rfl⟩ F; replace S : St g22 [[(b3, .cells #[v26, .int .i64 y12.at_, .bool y12.open_] 91 (0, 0))], c21, [(b2, .cells #[nilS] 38 (0, 0))]] fr w := S
              refine wpList_nil ?_
              replace F := F.sub (e' := [(59, .int .i64 x61), (58, .int .i64 (y10.before.length : Int)), (57, v24), (13, .string y7), (49, .int .i64 x45), (48, .int .i64 (y6.Old.length : Int)), (47, v13), (20, .int .i64 x24), (19, .int .i64 (q_.Hunks.length : Int)), (18, vq_1), (7, .func (.func 69) #[] #[bp b3 0]), (6, .int .i64 x46), (5, bp b3 0), (4, bp b2 0), (0, vmid1)]) ⟨rfl, rfl, rfl, rfl, rfl, rfl, rfl, rfl, rfl, rfl, rfl, rfl, rfl, rfl, rfl, trivial⟩
              refine inb_n ?_
              refine then_n ?_
              refine wp_region_lit ?_
              obtain ⟨z6, hz6, hm⟩ := bind_some hm
              refine wl_ev (wn rfl) (ev_int rfl rfl (bo_add hz6)) F S rfl rfl ?_; clear F a; intro a F
              refine wl_ev (wn rfl) (ev_move rfl) F S rfl rfl ?_; clear F a; intro a F
              refine wpList_nil ?_
              replace F := F.sub (e' := [(59, .int .i64 z6), (58, .int .i64 (y10.before.length : Int)), (57, v24), (13, .string y7), (49, .int .i64 x45), (48, .int .i64 (y6.Old.length : Int)), (47, v13), (20, .int .i64 x24), (19, .int .i64 (q_.Hunks.length : Int)), (18, vq_1), (7, .func (.func 69) #[] #[bp b3 0]), (6, .int .i64 x46), (5, bp b3 0), (4, bp b2 0), (0, vmid1)]) ⟨rfl, rfl, rfl, rfl, rfl, rfl, rfl, rfl, rfl, rfl, rfl, rfl, rfl, rfl, rfl, trivial⟩
              refine then_n ?_
              obtain rfl := sinj hm
              refine ⟨_, rfl, ?_⟩
              dsimp only
              replace S : St g22 [[(b3, .cells #[v26, .int .i64 y12.at_, .bool y12.open_] 91 (0, 0))], [(b2, .cells #[nilS] 38 (0, 0))], c21] fr w := St.tail [[(b3, .cells #[v26, .int .i64 y12.at_, .bool y12.open_] 91 (0, 0))], [(b2, .cells #[nilS] 38 (0, 0))], c21] _ (((S.frontC 1 rfl).frontC 3 rfl).frontC 2 rfl)
              exact ⟨v26, c21, g22, F.sub ⟨rfl, rfl, rfl, rfl, rfl, rfl, rfl, rfl, rfl, rfl, rfl, rfl, rfl, rfl, rfl, trivial⟩, (l21.trans l22), S, h27⟩
             ·refine wp_condF F rfl hc7 ?_
              refine wp_exit ?_
              refine then_e ?_
              refine then_e ?_
              refine inb_x ?_
              refine then_n ?_
              obtain rfl := sinj hm
              obtain rfl := hfin5 _ rfl
              clear hm
              have hm : (textpatch_walk.j10 mid x45 x46 y7 x62 x63 x64 : Option (Step (Int × Int × (List Hunk) × Int × Bool) (Int × (List Hunk) × Int × Bool))) = some _ := hmo5
              exact ⟨x62, x63, x64, v25, c20, g21, F.sub ⟨rfl, rfl, rfl, rfl, rfl, rfl, rfl, rfl, rfl, rfl, rfl, rfl, trivial⟩, l21, S, h26, hm⟩
           ·clear F S hm; rintro a w ⟨x55, x56, x57, v20, c17, g18, F, l18, S, h21, hm⟩
            refine wp_cut (fun a w => ∃ (x58 : List Hunk) (x59 : Int) (x60 : Bool) (v21 : Value) (c18 : Hl) (g19 : Gh), Fr 91 a [(49, .int .i64 x45), (48, .int .i64 (y6.Old.length : Int)), (47, v13), (20, .int .i64 x24), (19, .int .i64 (q_.Hunks.length : Int)), (18, vq_1), (7, .func (.func 69) #[] #[bp b3 0]), (6, .int .i64 x46), (5, bp b3 0), (4, bp b2 0), (0, vmid1)] ∧ Le g18 g19 ∧ St g19 [[(b3, .cells #[v21, .int .i64 x59, .bool x60] 91 (0, 0))], [(b2, .cells #[nilS] 38 (0, 0))], c18] fr w ∧ OwnN g19 x58 v21 c18 ∧ textpatch_walk.j11 x45 x46 x58 x59 x60 = some x50) ?_ ?_
            ·refine wp_seq ?_
             refine wp_region_lit ?_
             refine wl_ev (wn rfl) (ev_move rfl) F S rfl rfl ?_; clear F a; intro a F
             refine wl_ev (wn rfl) (ev_move rfl) F S rfl rfl ?_; clear F a; intro a F
             obtain ⟨y8, hy8, hm⟩ := bind_some hm
             obtain ⟨cs5, hr9, hp5⟩ := elemS (hmid1.mono ((((l11.trans l13).trans l14).trans l16).trans l18)) hy8
             obtain ⟨v22, rfl, h23⟩ := rep_Middle_textpatch hr9
             refine wl_ev (wn rfl) (ev_idxS (hmid1.mono ((((l11.trans l13).trans l14).trans l16).trans l18)) hy8 tu75 ts78 rfl rfl) F S rfl rfl ?_; clear F a; intro a F
             have hp6 := PtrC.field hp5 0 1 (lb rfl)
             have hp6 : PtrC g18 (addP (elemP vmid1 x46 3) 0) [.bool y8.inserted] := hp6
             refine wl_ev (wn rfl) (ev_fieldAddr' tu78 tf78_0 (z := 0) ts4 rfl hp5.ptr rfl) F S rfl rfl ?_; clear F a; intro a F
             refine wl_ev (wn rfl) (ev_load1 tu4 rfl rfl (ptr_mono (cks := [[(b3, .cells #[v20, .int .i64 x56, .bool x57] 91 (0, 0))], [(b2, .cells #[nilS] 38 (0, 0))], c17]) (fr := fr) hp6 (Le.refl _))) F S rfl rfl ?_; clear F a; intro a F
             refine wl_ev (wn rfl) (ev_not rfl) F S rfl rfl ?_; clear F a; intro a F
             refine wpList_nil ?_
             replace F := F.sub (e' := [(71, .bool !y8.inserted), (13, .string y7), (49, .int .i64 x45), (48, .int .i64 (y6.Old.length : Int)), (47, v13), (20, .int .i64 x24), (19, .int .i64 (q_.Hunks.length : Int)), (18, vq_1), (7, .func (.func 69) #[] #[bp b3 0]), (6, .int .i64 x46), (5, bp b3 0), (4, bp b2 0), (0, vmid1)]) ⟨rfl, rfl, rfl, rfl, rfl, rfl, rfl, rfl, rfl, rfl, rfl, rfl, rfl, trivial⟩
             refine then_n ?_
             obtain ⟨hc6, hm⟩ | ⟨hc6, hm⟩ := ite_or hm
             ·refine wp_condT F rfl hc6 ?_
              refine wp_region_lit ?_
              refine wl_ev (wn rfl) (ev_move rfl) F S rfl rfl ?_; clear F a; intro a F
              replace S : St g18 [[(b3, .cells #[v20, .int .i64 x56, .bool x57] 91 (0, 0))], c17, [(b2, .cells #[nilS] 38 (0, 0))]] fr w := (((S.frontC 1 rfl).frontC 3 rfl).frontC 2 rfl)
              obtain ⟨y9, hy9, hm⟩ := bind_some hm
              refine wl_call (wn rfl) rfl (xs := [.tmp 5, .tmp 72]) (vs := [bp b3 0, .string y7]) (cap := []) F rfl rfl tc70 (diff_Collector__Delete_ok (g := g18) (fr := (fl [[(b2, .cells #[nilS] 38 (0, 0))]] fr)) (w := w) b3 ({ hunks := x55, at_ := x56, open_ := x57 } : Collector_diff) v20 c17 h21 y7 S hy9) rfl rfl ?_; clear F a S
              rintro _ a w ⟨g20, v23, c19, l20, S, h24, rfl⟩ F; replace S : St g20 [[(b3, .cells #[v23, .int .i64 y9.at_, .bool y9.open_] 91 (0, 0))], c19, [(b2, .cells #[nilS] 38 (0, 0))]] fr w := S
              refine wpList_nil ?_
              replace F := F.sub (e' := [(49, .int .i64 x45), (48, .int .i64 (y6.Old.length : Int)), (47, v13), (20, .int .i64 x24), (19, .int .i64 (q_.Hunks.length : Int)), (18, vq_1), (7, .func (.func 69) #[] #[bp b3 0]), (6, .int .i64 x46), (5, bp b3 0), (4, bp b2 0), (0, vmid1)]) ⟨rfl, rfl, rfl, rfl, rfl, rfl, rfl, rfl, rfl, rfl, rfl, trivial⟩
              refine then_n ?_
              replace S : St g20 [[(b3, .cells #[v23, .int .i64 y9.at_, .bool y9.open_] 91 (0, 0))], [(b2, .cells #[nilS] 38 (0, 0))], c19] fr w := St.tail [[(b3, .cells #[v23, .int .i64 y9.at_, .bool y9.open_] 91 (0, 0))], [(b2, .cells #[nilS] 38 (0, 0))], c19] _ (((S.frontC 1 rfl).frontC 3 rfl).frontC 2 rfl)
              exact ⟨y9.hunks, y9.at_, y9.open_, v23, c19, g20, F.sub ⟨rfl, rfl, rfl, rfl, rfl, rfl, rfl, rfl, rfl, rfl, rfl, trivial⟩, l20, S, h24, hm⟩
             ·refine wp_condF F rfl hc6 ?_
              refine wp_skip ?_
              refine then_n ?_
              exact ⟨x55, x56, x57, v20, c17, g18, F.sub ⟨rfl, rfl, rfl, rfl, rfl, rfl, rfl, rfl, rfl, rfl, rfl, trivial⟩, (Le.refl _), S, h21, hm⟩
            ·clear F S hm; rintro a w ⟨x58, x59, x60, v21, c18, g19, F, l19, S, h22, hm⟩
             refine wp_region_lit ?_
             refine wl_ev (wn rfl) (ev_move rfl) F S rfl rfl ?_; clear F a; intro a F
             obtain ⟨z5, hz5, hm⟩ := bind_some hm
             refine wl_ev (wn rfl) (ev_int rfl rfl (bo_add hz5)) F S rfl rfl ?_; clear F a; intro a F
             refine wl_ev (wn rfl) (ev_assign rfl) F S rfl rfl ?_; clear F a; intro a F
             refine wpList_nil ?_
             replace F := F.sub (e' := [(6, .int .i64 z5), (49, .int .i64 x45), (48, .int .i64 (y6.Old.length : Int)), (47, v13), (20, .int .i64 x24), (19, .int .i64 (q_.Hunks.length : Int)), (18, vq_1), (7, .func (.func 69) #[] #[bp b3 0]), (5, bp b3 0), (4, bp b2 0), (0, vmid1)]) ⟨rfl, rfl, rfl, rfl, rfl, rfl, rfl, rfl, rfl, rfl, rfl, trivial⟩
             refine inb_n ?_
             refine then_n ?_
             exact ⟨z5, x58, x59, x60, v21, c18, g19, F.sub ⟨rfl, rfl, rfl, rfl, rfl, rfl, rfl, rfl, rfl, rfl, rfl, trivial⟩, (l18.trans l19), S, h22, hm⟩
          ·clear F S hm; rintro a w ⟨x51, x52, x53, x54, v19, c16, g17, F, l17, S, h20, hm⟩
           refine wp_region_lit ?_
           obtain ⟨z4, hz4, hm⟩ := bind_some hm
           refine wl_ev (wn rfl) (ev_int rfl rfl (bo_add hz4)) F S rfl rfl ?_; clear F a; intro a F
           refine wl_ev (wn rfl) (ev_move rfl) F S rfl rfl ?_; clear F a; intro a F
           refine wpList_nil ?_
           replace F := F.sub (e' := [(49, .int .i64 z4), (6, .int .i64 x51), (48, .int .i64 (y6.Old.length : Int)), (47, v13), (20, .int .i64 x24), (19, .int .i64 (q_.Hunks.length : Int)), (18, vq_1), (7, .func (.func 69) #[] #[bp b3 0]), (5, bp b3 0), (4, bp b2 0), (0, vmid1)]) ⟨rfl, rfl, rfl, rfl, rfl, rfl, rfl, rfl, rfl, rfl, rfl, trivial⟩
           refine then_n ?_
           obtain rfl := sinj hm
           refine ⟨_, rfl, ?_⟩
           dsimp only
           exact ⟨v19, c16, g17, F.sub ⟨rfl, rfl, rfl, rfl, rfl, rfl, rfl, rfl, rfl, rfl, rfl, trivial⟩, (l16.trans l17), S, h20⟩
         ·refine wp_condF F rfl hc5 ?_
          refine wp_exit ?_
          refine then_e ?_
          refine then_e ?_
          refine inb_x ?_
          refine then_n ?_
          obtain rfl := sinj hm
          obtain rfl := hfin4 _ rfl
          clear hm
          have hm : (textpatch_walk.j8 x24 x46 x47 x48 x49 : Option (Step (Int × Int × (List Hunk) × Int × Bool) (Int × (List Hunk) × Int × Bool))) = some _ := hmo4
          exact ⟨x46, x47, x48, x49, v18, c15, g16, F.sub ⟨rfl, rfl, rfl, rfl, rfl, rfl, rfl, rfl, trivial⟩, l16, S, h19, hm⟩
       ·clear F S hm; rintro a w ⟨x41, x42, x43, x44, v17, c14, g15, F, l15, S, h18, hm⟩
        refine inb_n ?_
        refine then_n ?_
        exact ⟨x41, x42, x43, x44, v17, c14, g15, F.sub ⟨rfl, rfl, rfl, rfl, rfl, rfl, rfl, rfl, trivial⟩, ((l13.trans l14).trans l15), S, h18, hm⟩
    ·clear F S hm; rintro a w ⟨x30, x31, x32, x33, v12, c11, g12, F, l12, S, h13, hm⟩
     refine wp_region_lit ?_
     obtain ⟨z3, hz3, hm⟩ := bind_some hm
     refine wl_ev (wn rfl) (ev_int rfl rfl (bo_add hz3)) F S rfl rfl ?_; clear F a; intro a F
     refine wl_ev (wn rfl) (ev_move rfl) F S rfl rfl ?_; clear F a; intro a F
     refine wpList_nil ?_
     replace F := F.sub (e' := [(20, .int .i64 z3), (19, .int .i64 (q_.Hunks.length : Int)), (18, vq_1), (7, .func (.func 69) #[] #[bp b3 0]), (6, .int .i64 x30), (5, bp b3 0), (4, bp b2 0), (0, vmid1)]) ⟨rfl, rfl, rfl, rfl, rfl, rfl, rfl, rfl, trivial⟩
     refine then_n ?_
     obtain rfl := sinj hm
     refine ⟨_, rfl, ?_⟩
     dsimp only
     exact ⟨v12, c11, g12, F.sub ⟨rfl, rfl, rfl, rfl, rfl, rfl, rfl, rfl, trivial⟩, (l11.trans l12), S, h13⟩
   ·refine wp_condF F rfl hc4 ?_
    refine wp_exit ?_
    refine then_e ?_
    refine then_e ?_
    refine inb_x ?_
    refine then_n ?_
    obtain rfl := sinj hm
    obtain rfl := hfin3 _ rfl
    clear hm
    have hm : (textpatch_walk.j1 mid x25 x26 x27 x28 : Option Patch) = some _ := hmo3
    exact ⟨x25, x26, x27, x28, v11, c10, g11, F.sub ⟨rfl, rfl, rfl, rfl, rfl, trivial⟩, l11, S, h12, hm⟩
 ·clear F S hm; rintro a w ⟨x1, x2, x3, x4, v1, c1, g1, F, l1, S, h1, hm⟩
  refine wp_cut (fun a w => ∃ (x5 : List Hunk) (x6 : Int) (x7 : Bool) (v2 : Value) (c2 : Hl) (g2 : Gh), Fr 91 a [(5, bp b3 0), (4, bp b2 0)] ∧ Le g1 g2 ∧ St g2 [[(b3, .cells #[v2, .int .i64 x6, .bool x7] 91 (0, 0))], [(b2, .cells #[nilS] 38 (0, 0))], c2] fr w ∧ OwnN g2 x5 v2 c2 ∧ textpatch_walk.j2 x5 x6 x7 = some r) ?_ ?_
  ·refine wp_block ?_
   obtain ⟨r1, hr1, hm⟩ := bind_some hm
   have hmo1 := hm; clear hm
   refine wp_iter (σ := Int × (List Hunk) × Int × Bool) (ρ := (List Hunk) × Int × Bool) (m := fun s => textpatch_walk.l1 mid s.1 s.2.1 s.2.2.1 s.2.2.2) (I := fun s a w => match s with | (x8, x9, x10, x11) => ∃ (v3 : Value) (c3 : Hl) (g4 : Gh), Fr 91 a [(7, .func (.func 69) #[] #[bp b3 0]), (6, .int .i64 x8), (5, bp b3 0), (4, bp b2 0), (0, vmid1)] ∧ Le g1 g4 ∧ St g4 [[(b3, .cells #[v3, .int .i64 x10, .bool x11] 91 (0, 0))], [(b2, .cells #[nilS] 38 (0, 0))], c3] fr w ∧ OwnN g4 x9 v3 c3) hr1 ?_ ?_
   ·dsimp only
    exact ⟨v1, c1, g1, F.sub ⟨rfl, rfl, rfl, rfl, rfl, trivial⟩, (Le.refl _), S, h1⟩
   ·clear F S; rintro ⟨x8, x9, x10, x11⟩ a w x12 ⟨v3, c3, g4, F, l4, S, h4⟩ hx1 hfin1
    have hm : textpatch_walk.l1 mid x8 x9 x10 x11 = some x12 := hx1; clear hx1
    unfold textpatch_walk.l1 at hm
    refine wp_seq ?_
    refine wp_seq ?_
    refine wp_region_lit ?_
    refine wl_ev (wn rfl) (ev_move rfl) F S rfl rfl ?_; clear F a; intro a F
    refine wl_ev (wn rfl) (ev_move rfl) F S rfl rfl ?_; clear F a; intro a F
    refine wl_ev (wn rfl) (ev_lenSh hmid1 rfl tu75) F S rfl rfl ?_; clear F a; intro a F
    refine wl_ev (wn rfl) (ev_int rfl rfl (bo_lss _ _ _ _)) F S rfl rfl ?_; clear F a; intro a F
    refine wpList_nil ?_
    replace F := F.sub (e' := [(81, .bool (decide (x8 < (mid.length : Int)))), (7, .func (.func 69) #[] #[bp b3 0]), (6, .int .i64 x8), (5, bp b3 0), (4, bp b2 0), (0, vmid1)]) ⟨rfl, rfl, rfl, rfl, rfl, rfl, trivial⟩
    refine then_n ?_
    obtain ⟨hc1, hm⟩ | ⟨hc1, hm⟩ := ite_or hm
    ·refine wp_condT F rfl hc1 ?_
     refine wp_skip ?_
     refine then_n ?_
     refine wp_seq ?_
     refine wp_block ?_
     refine wp_region_lit ?_
     refine wl_ev (wn rfl) (ev_move rfl) F S rfl rfl ?_; clear F a; intro a F
     refine wl_ev (wn rfl) (ev_move rfl) F S rfl rfl ?_; clear F a; intro a F
     refine wl_ev (wn rfl) (ev_move rfl) F S rfl rfl ?_; clear F a; intro a F
     obtain ⟨y1, hy1, hm⟩ := bind_some hm
     obtain ⟨cs1, hr2, hp1⟩ := elemS (hmid1.mono (l1.trans l4)) hy1
     obtain ⟨v4, rfl, h5⟩ := rep_Middle_textpatch hr2
     refine wl_ev (wn rfl) (ev_idxS (hmid1.mono (l1.trans l4)) hy1 tu75 ts78 rfl rfl) F S rfl rfl ?_; clear F a; intro a F
     refine wl_ev (wn rfl) (ev_loadA tu78 rfl (cs := [.bool y1.inserted, .string y1.line, v4]) ts78 rfl (ptr_mono (cks := [[(b3, .cells #[v3, .int .i64 x10, .bool x11] 91 (0, 0))], [(b2, .cells #[nilS] 38 (0, 0))], c3]) (fr := fr) hp1 (Le.refl _))) F S rfl rfl ?_; clear F a; intro a F
     refine wl_call (wn rfl) rfl (xs := [.tmp 88]) (vs := [.agg #[.bool y1.inserted, .string y1.line, v4]]) (cap := [bp b3 0]) (R := fun u1 w => ∃ (x13 : List Hunk) (x14 : Int) (x15 : Bool) (v5 : Value) (c4 : Hl) (g5 : Gh), u1 = .tuple #[] ∧ Le g4 g5 ∧ St g5 [[(b3, .cells #[v5, .int .i64 x14, .bool x15] 91 (0, 0))], [(b2, .cells #[nilS] 38 (0, 0))], c4] fr w ∧ OwnN g5 x13 v5 c4 ∧ textpatch_walk.j3 x8 x13 x14 x15 = some x12) F rfl rfl tc69 (calls_enter (fn := Try.f69) Try.func69 rfl Try.ntmps69 (lb rfl) ?_) rfl rfl ?_
     ·clear F a; intro a F
      replace F : Fr 21 a [(0, .agg #[.bool y1.inserted, .string y1.line, v4]), (1, bp b3 0)] := F
      refine wp_seq ?_
      refine wp_region_lit ?_
      refine wl_boxC (wn rfl) rfl rfl rfl F S rfl rfl ?_; clear F a S; rintro b5 a w F S
      refine wpList_nil ?_
      replace F := F.sub (e' := [(2, bp b5 0), (1, bp b3 0)]) ⟨rfl, rfl, trivial⟩
      refine then_n ?_
      refine wp_cut (fun a w => ∃ (x16 : List Hunk) (x17 : Int) (x18 : Bool) (v6 : Value) (c5 : Hl) (g6 : Gh), Fr 21 a [(2, bp b5 0), (1, bp b3 0)] ∧ Le g4 g6 ∧ St g6 [[(b5, .cells #[.bool y1.inserted, .string y1.line, v4] 78 (0, 0))], [(b3, .cells #[v6, .int .i64 x17, .bool x18] 91 (0, 0))], [(b2, .cells #[nilS] 38 (0, 0))], c5] fr w ∧ OwnN g6 x16 v6 c5 ∧ textpatch_walk.j4 x8 y1 x16 x17 x18 = some x12) ?_ ?_
      ·refine wp_seq ?_
       refine wp_region_lit ?_
       refine wl_ev (wn rfl) (ev_fieldAddr' tu78 tf78_2 (z := 0) ts31 rfl ⟨_, rfl⟩ rfl) F S rfl rfl ?_; clear F a; intro a F
       refine wl_ev (wn rfl) (ev_load1 tu31 rfl rfl (box_ptr (cells := [v4]) 0 rfl 2 rfl (lb rfl))) F S rfl rfl ?_; clear F a; intro a F
       refine wl_ev (wn rfl) (ev_lenSh h5 rfl tu31) F S rfl rfl ?_; clear F a; intro a F
       refine wl_ev (wn rfl) (ev_move rfl) F S rfl rfl ?_; clear F a; intro a F
       refine wpList_nil ?_
       replace F := F.sub (e' := [(8, .int .i64 0), (7, .int .i64 (y1.before.length : Int)), (6, v4), (2, bp b5 0), (1, bp b3 0)]) ⟨rfl, rfl, rfl, rfl, rfl, trivial⟩
       refine then_n ?_
       refine wp_block ?_
       obtain ⟨r2, hr3, hm⟩ := bind_some hm
       have hmo2 := hm; clear hm
       refine wp_iter (σ := Int × (List Hunk) × Int × Bool) (ρ := (List Hunk) × Int × Bool) (m := fun s => textpatch_walk.l2 y1 s.1 s.2.1 s.2.2.1 s.2.2.2) (I := fun s a w => match s with | (x19, x20, x21, x22) => ∃ (v9 : Value) (c8 : Hl) (g9 : Gh), Fr 21 a [(8, .int .i64 x19), (7, .int .i64 (y1.before.length : Int)), (6, v4), (2, bp b5 0), (1, bp b3 0)] ∧ Le g4 g9 ∧ St g9 [[(b5, .cells #[.bool y1.inserted, .string y1.line, v4] 78 (0, 0))], [(b3, .cells #[v9, .int .i64 x21, .bool x22] 91 (0, 0))], [(b2, .cells #[nilS] 38 (0, 0))], c8] fr w ∧ OwnN g9 x20 v9 c8) hr3 ?_ ?_
       ·dsimp only
        exact ⟨v3, c3, g4, F.sub ⟨rfl, rfl, rfl, rfl, rfl, trivial⟩, (Le.refl _), S, h4⟩
       ·clear F S; rintro ⟨x19, x20, x21, x22⟩ a w x23 ⟨v9, c8, g9, F, l9, S, h10⟩ hx2 hfin2
        have hm : textpatch_walk.l2 y1 x19 x20 x21 x22 = some x23 := hx2; clear hx2
        unfold textpatch_walk.l2 at hm
        refine wp_seq ?_
        refine wp_region_lit ?_
        refine wl_ev (wn rfl) (ev_int rfl rfl (bo_lss _ _ _ _)) F S rfl rfl ?_; clear F a; intro a F
        refine wpList_nil ?_
        refine then_n ?_
        refine wp_seq ?_
        obtain ⟨hc3, hm⟩ | ⟨hc3, hm⟩ := ite_or hm
        ·refine wp_condT F rfl hc3 ?_
         refine wp_skip ?_
         refine then_n ?_
         refine wp_seq ?_
         refine wp_block ?_
         refine wp_seq ?_
         refine wp_region_lit ?_
         obtain ⟨y4, hy4, hm⟩ := bind_some hm
         obtain ⟨cs2, hr4, hp2⟩ := elemS (h5.mono l9) hy4
         obtain rfl := rep_str hr4
         refine wl_ev (wn rfl) (ev_idxS (h5.mono l9) hy4 tu31 ts9 rfl rfl) F S rfl rfl ?_; clear F a; intro a F
         refine wl_ev (wn rfl) (ev_load1 tu9 rfl rfl (ptr_mono (cks := [[(b5, .cells #[.bool y1.inserted, .string y1.line, v4] 78 (0, 0))], [(b3, .cells #[v9, .int .i64 x21, .bool x22] 91 (0, 0))], [(b2, .cells #[nilS] 38 (0, 0))], c8]) (fr := fr) hp2 (Le.refl _))) F S rfl rfl ?_; clear F a; intro a F
         refine wl_ev (wn rfl) (ev_assign rfl) F S rfl rfl ?_; clear F a; intro a F
         refine wpList_nil ?_
         replace F := F.sub (e' := [(4, .string y4), (8, .int .i64 x19), (7, .int .i64 (y1.before.length : Int)), (6, v4), (2, bp b5 0), (1, bp b3 0)]) ⟨rfl, rfl, rfl, rfl, rfl, rfl, trivial⟩
         refine then_n ?_
         refine wp_region_lit ?_
         refine wl_ev (wn rfl) (ev_move rfl) F S rfl rfl ?_; clear F a; intro a F
         replace S : St g9 [[(b3, .cells #[v9, .int .i64 x21, .bool x22] 91 (0, 0))], c8, [(b5, .cells #[.bool y1.inserted, .string y1.line, v4] 78 (0, 0))], [(b2, .cells #[nilS] 38 (0, 0))]] fr w := ((((S.frontC 2 rfl).frontC 1 rfl).frontC 5 rfl).frontC 4 rfl)
         obtain ⟨y5, hy5, hm⟩ := bind_some hm
         refine wl_call (wn rfl) rfl (xs := [.tmp 1, .tmp 12]) (vs := [bp b3 0, .string y4]) (cap := []) F rfl rfl tc70 (diff_Collector__Delete_ok (g := g9) (fr := (fl [[(b5, .cells #[.bool y1.inserted, .string y1.line, v4] 78 (0, 0))], [(b2, .cells #[nilS] 38 (0, 0))]] fr)) (w := w) b3 ({ hunks := x20, at_ := x21, open_ := x22 } : Collector_diff) v9 c8 h10 y4 S hy5) rfl rfl ?_; clear F a S
         rintro _ a w ⟨g10, v10, c9, l10, S, h11, rfl⟩ F; replace S : St g10 [[(b3, .cells #[v10, .int .i64 y5.at_, .bool y5.open_] 91 (0, 0))], c9, [(b5, .cells #[.bool y1.inserted, .string y1.line, v4] 78 (0, 0))], [(b2, .cells #[nilS] 38 (0, 0))]] fr w := S
         refine wpList_nil ?_
         replace F := F.sub (e' := [(8, .int .i64 x19), (7, .int .i64 (y1.before.length : Int)), (6, v4), (2, bp b5 0), (1, bp b3 0)]) ⟨rfl, rfl, rfl, rfl, rfl, trivial⟩
         refine inb_n ?_
         refine then_n ?_
         refine wp_region_lit ?_
         obtain ⟨z2, hz2, hm⟩ := bind_some hm
         refine wl_ev (wn rfl) (ev_int rfl rfl (bo_add hz2)) F S rfl rfl ?_; clear F a; intro a F
         refine wl_ev (wn rfl) (ev_move rfl) F S rfl rfl ?_; clear F a; intro a F
         refine wpList_nil ?_
         replace F := F.sub (e' := [(8, .int .i64 z2), (7, .int .i64 (y1.before.length : Int)), (6, v4), (2, bp b5 0), (1, bp b3 0)]) ⟨rfl, rfl, rfl, rfl, rfl, trivial⟩
         refine then_n ?_
         obtain rfl := sinj hm
         refine ⟨_, rfl, ?_⟩
         dsimp only
         replace S : St g10 [[(b5, .cells #[.bool y1.inserted, .string y1.line, v4] 78 (0, 0))], [(b3, .cells #[v10, .int .i64 y5.at_, .bool y5.open_] 91 (0, 0))], [(b2, .cells #[nilS] 38 (0, 0))], c9] fr w := St.tail [[(b5, .cells #[.bool y1.inserted, .string y1.line, v4] 78 (0, 0))], [(b3, .cells #[v10, .int .i64 y5.at_, .bool y5.open_] 91 (0, 0))], [(b2, .cells #[nilS] 38 (0, 0))], c9] _ ((((S.frontC 1 rfl).frontC 4 rfl).frontC 2 rfl).frontC 5 rfl)
         exact ⟨v10, c9, g10, F.sub ⟨rfl, rfl, rfl, rfl, rfl, trivial⟩, (l9.trans l10), S, h11⟩
        ·refine wp_condF F rfl hc3 ?_
         refine wp_exit ?_
         refine then_e ?_
         refine then_e ?_
         refine inb_x ?_
         refine then_n ?_
         obtain rfl := sinj hm
         obtain rfl := hfin2 _ rfl
         clear hm
         have hm : (textpatch_walk.j4 x8 y1 x20 x21 x22 : Option (Step (Int × (List Hunk) × Int × Bool) ((List Hunk) × Int × Bool))) = some _ := hmo2
         exact ⟨x20, x21, x22, v9, c8, g9, F.sub ⟨rfl, rfl, trivial⟩, l9, S, h10, hm⟩
      ·clear F S hm; rintro a w ⟨x16, x17, x18, v6, c5, g6, F, l6, S, h7, hm⟩
       refine wp_seq ?_
       refine wp_region_lit ?_
       refine wl_ev (wn rfl) (ev_fieldAddr' tu78 tf78_0 (z := 0) ts4 rfl ⟨_, rfl⟩ rfl) F S rfl rfl ?_; clear F a; intro a F
       refine wl_ev (wn rfl) (ev_load1 tu4 rfl rfl (box_ptr (cells := [.bool y1.inserted]) 0 rfl 0 rfl (lb rfl))) F S rfl rfl ?_; clear F a; intro a F
       refine wpList_nil ?_
       replace F := F.sub (e' := [(16, .bool y1.inserted), (2, bp b5 0), (1, bp b3 0)]) ⟨rfl, rfl, rfl, trivial⟩
       refine then_n ?_
       obtain ⟨hc2, hm⟩ | ⟨hc2, hm⟩ := ite_or hm
       ·refine wp_condT F rfl hc2 ?_
        refine wp_region_lit ?_
        refine wl_ev (wn rfl) (ev_fieldAddr' tu78 tf78_1 (z := 0) ts9 rfl ⟨_, rfl⟩ rfl) F S rfl rfl ?_; clear F a; intro a F
        refine wl_ev (wn rfl) (ev_load1 tu9 rfl rfl (box_ptr (cells := [.string y1.line]) 0 rfl 1 rfl (lb rfl))) F S rfl rfl ?_; clear F a; intro a F
        replace S : St g6 [[(b3, .cells #[v6, .int .i64 x17, .bool x18] 91 (0, 0))], c5, [(b5, .cells #[.bool y1.inserted, .string y1.line, v4] 78 (0, 0))], [(b2, .cells #[nilS] 38 (0, 0))]] fr w := ((((S.frontC 2 rfl).frontC 1 rfl).frontC 5 rfl).frontC 4 rfl)
        obtain ⟨y2, hy2, hm⟩ := bind_some hm
        refine wl_call (wn rfl) rfl (xs := [.tmp 1, .tmp 18]) (vs := [bp b3 0, .string y1.line]) (cap := []) F rfl rfl tc71 (diff_Collector__Insert_ok (g := g6) (fr := (fl [[(b5, .cells #[.bool y1.inserted, .string y1.line, v4] 78 (0, 0))], [(b2, .cells #[nilS] 38 (0, 0))]] fr)) (w := w) b3 ({ hunks := x16, at_ := x17, open_ := x18 } : Collector_diff) v6 c5 h7 y1.line S hy2) rfl rfl ?_; clear F a S
        rintro _ a w ⟨g7, v7, c6, l7, S, h8, rfl⟩ F; replace S : St g7 [[(b3, .cells #[v7, .int .i64 y2.at_, .bool y2.open_] 91 (0, 0))], c6, [(b5, .cells #[.bool y1.inserted, .string y1.line, v4] 78 (0, 0))], [(b2, .cells #[nilS] 38 (0, 0))]] fr w := S
        refine wpList_nil ?_
        replace F := F.sub (e' := []) trivial
        refine post_n (fn := Try.f69) (rs := []) [] F rfl ar_nil ?_
        replace S : St g7 [[(b3, .cells #[v7, .int .i64 y2.at_, .bool y2.open_] 91 (0, 0))], [(b2, .cells #[nilS] 38 (0, 0))], c6] fr w := St.tail [[(b3, .cells #[v7, .int .i64 y2.at_, .bool y2.open_] 91 (0, 0))], [(b2, .cells #[nilS] 38 (0, 0))], c6] _ (((S.frontC 1 rfl).frontC 4 rfl).frontC 2 rfl)
        exact ⟨_, rfl, ⟨y2.hunks, y2.at_, y2.open_, v7, c6, g7, rfl, (l6.trans l7), S, h8, hm⟩⟩
       ·refine wp_condF F rfl hc2 ?_
        refine wp_region_lit ?_
        replace S : St g6 [[(b3, .cells #[v6, .int .i64 x17, .bool x18] 91 (0, 0))], c5, [(b5, .cells #[.bool y1.inserted, .string y1.line, v4] 78 (0, 0))], [(b2, .cells #[nilS] 38 (0, 0))]] fr w := ((((S.frontC 2 rfl).frontC 1 rfl).frontC 5 rfl).frontC 4 rfl)
        obtain ⟨y3, hy3, hm⟩ := bind_some hm
        refine wl_call (wn rfl) rfl (xs := [.tmp 1, .const (.int .i64 1)]) (vs := [bp b3 0, .int .i64 1]) (cap := []) F rfl rfl tc72 (diff_Collector__Keep_ok (g := g6) (fr := (fl [[(b5, .cells #[.bool y1.inserted, .string y1.line, v4] 78 (0, 0))], [(b2, .cells #[nilS] 38 (0, 0))]] fr)) (w := w) b3 ({ hunks := x16, at_ := x17, open_ := x18 } : Collector_diff) v6 c5 h7 1 S hy3) rfl rfl ?_; clear F a S
        rintro _ a w ⟨g8, v8, c7, l8, S, h9, rfl⟩ F; replace S : St g8 [[(b3, .cells #[v8, .int .i64 y3.at_, .bool y3.open_] 91 (0, 0))], c7, [(b5, .cells #[.bool y1.inserted, .string y1.line, v4] 78 (0, 0))], [(b2, .cells #[nilS] 38 (0, 0))]] fr w := S
        refine wpList_nil ?_
        replace F := F.sub (e' := []) trivial
        refine post_n (fn := Try.f69) (rs := []) [] F rfl ar_nil ?_
        replace S : St g8 [[(b3, .cells #[v8, .int .i64 y3.at_, .bool y3.open_] 91 (0, 0))], [(b2, .cells #[nilS] 38 (0, 0))], c7] fr w := St.tail [[(b3, .cells #[v8, .int .i64 y3.at_, .bool y3.open_] 91 (0, 0))], [(b2, .cells #[nilS] 38 (0, 0))], c7] _ (((S.frontC 1 rfl).frontC 4 rfl).frontC 2 rfl)
        exact ⟨_, rfl, ⟨y3.hunks, y3.at_, y3.open_, v8, c7, g8, rfl, (l6.trans l8), S, h9, hm⟩⟩
     ·clear F S hm; rintro _ a w ⟨x13, x14, x15, v5, c4, g5, rfl, l5, S, h6, hm⟩ F
      replace F := F.sub (e' := [(89, .tuple #[]), (7, .func (.func 69) #[] #[bp b3 0]), (6, .int .i64 x8), (5, bp b3 0), (4, bp b2 0), (0, vmid1)]) ⟨rfl, rfl, rfl, rfl, rfl, rfl, trivial⟩
      refine wpList_nil ?_
      replace F := F.sub (e' := [(7, .func (.func 69) #[] #[bp b3 0]), (6, .int .i64 x8), (5, bp b3 0), (4, bp b2 0), (0, vmid1)]) ⟨rfl, rfl, rfl, rfl, rfl, trivial⟩
      refine inb_n ?_
      refine then_n ?_
      refine wp_region_lit ?_
      refine wl_ev (wn rfl) (ev_move rfl) F S rfl rfl ?_; clear F a; intro a F
      obtain ⟨z1, hz1, hm⟩ := bind_some hm
      refine wl_ev (wn rfl) (ev_int rfl rfl (bo_add hz1)) F S rfl rfl ?_; clear F a; intro a F
      refine wl_ev (wn rfl) (ev_assign rfl) F S rfl rfl ?_; clear F a; intro a F
      refine wpList_nil ?_
      replace F := F.sub (e' := [(6, .int .i64 z1), (7, .func (.func 69) #[] #[bp b3 0]), (5, bp b3 0), (4, bp b2 0), (0, vmid1)]) ⟨rfl, rfl, rfl, rfl, rfl, trivial⟩
      refine then_n ?_
      obtain rfl := sinj hm
      refine ⟨_, rfl, ?_⟩
      dsimp only
      exact ⟨v5, c4, g5, F.sub ⟨rfl, rfl, rfl, rfl, rfl, trivial⟩, (l4.trans l5), S, h6⟩
    ·refine wp_condF F rfl hc1 ?_
     refine wp_exit ?_
     refine then_e ?_
     refine then_e ?_
     refine inb_x ?_
     refine then_n ?_
     obtain rfl := sinj hm
     obtain rfl := hfin1 _ rfl
     clear hm
     have hm : (textpatch_walk.j2 x9 x10 x11 : Option Patch) = some _ := hmo1
     exact ⟨x9, x10, x11, v3, c3, g4, F.sub ⟨rfl, rfl, trivial⟩, l4, S, h4, hm⟩
  ·clear F S hm; rintro a w ⟨x5, x6, x7, v2, c2, g2, F, l2, S, h2, hm⟩
   refine wp_seq ?_
   refine wp_region_lit ?_
   replace F := F.sub (e' := [(5, bp b3 0), (4, bp b2 0)]) ⟨rfl, rfl, trivial⟩
   refine wl_callK (wn rfl) rfl (xs := [.tmp 5]) (vs := [bp b3 0]) (cap := []) (e' := [(4, bp b2 0)]) ⟨rfl, trivial⟩ F rfl rfl tc73 rfl rfl (calls_enter (fn := Try.f73) Try.func73 rfl Try.ntmps73 (lb rfl) ?_); clear F a; intro a F
   replace F : Fr 8 a [(0, bp b3 0)] := F
   refine wp_seq ?_
   refine wp_region_lit ?_
   refine wl_alloc (wn rfl) rfl tz38 (cs := [nilS]) rfl F S rfl rfl ?_; clear F a S; rintro b4 a w F S
   refine wpList_nil ?_
   refine then_n ?_
   refine wp_seq ?_
   refine wp_region_lit ?_
   refine wl_ev (wn rfl) (ev_move rfl) F S rfl rfl ?_; clear F a; intro a F
   refine wl_ev (wn rfl) (ev_nil rfl) F S rfl rfl ?_; clear F a; intro a F
   refine wl_ev (wn rfl) (ev_fieldAddr' tu91 tf91_0 (z := 0) ts36 rfl ⟨_, rfl⟩ rfl) F S rfl rfl ?_; clear F a; intro a F
   refine wl_ev (wn rfl) (ev_load1 tu36 rfl rfl (box_ptr (cells := [v2]) 1 rfl 0 rfl (lb rfl))) F S rfl rfl ?_; clear F a; intro a F
   refine wl_ev (wn rfl) (ev_build (parts := [(0, .tmp 6)]) (vs := [(0, v2)]) rfl (fun w => tb38_0 v2 (OwnN.isSl h2) w)) F S rfl rfl ?_; clear F a; intro a F
   refine wl_storeC (wn rfl) rfl F S rfl rfl (vs := [v2]) rfl ts38 (one_cons (OwnN.one h2) one_nil) (k := 0) rfl (lb rfl) (c' := #[v2]) rfl rfl ?_; clear S; intro w S
   replace S : St g2 [[(b4, .cells #[v2] 38 (0, 0))], [(b3, .cells #[v2, .int .i64 x6, .bool x7] 91 (0, 0))], [(b2, .cells #[nilS] 38 (0, 0))], c2] fr w := S
   refine wpList_nil ?_
   replace F := F.sub (e' := [(2, bp b4 0)]) ⟨rfl, trivial⟩
   refine then_n ?_
   refine wp_ret ?_
   refine post_r (fn := Try.f73) (rs := [.cell 2 38]) [.agg #[v2]] F rfl (ar_cons (resA rfl tu38 rfl ts38 (box_ptr (cells := [v2]) 0 rfl 0 rfl (lb rfl) w S)) ar_nil) ?_
   refine ⟨_, rfl, ?_⟩; clear F a; intro a F
   replace F : Fr 91 a [(90, .agg #[v2]), (4, bp b2 0)] := F
   refine wl_storeC (wn rfl) rfl F S rfl rfl (vs := [v2]) rfl ts38 (one_cons (OwnN.one h2) one_nil) (k := 2) rfl (lb rfl) (c' := #[v2]) rfl rfl ?_; clear S; intro w S
   replace S : St g2 [[(b4, .cells #[v2] 38 (0, 0))], [(b3, .cells #[v2, .int .i64 x6, .bool x7] 91 (0, 0))], [(b2, .cells #[v2] 38 (0, 0))], c2] fr w := S
   refine wpList_nil ?_
   replace F := F.sub (e' := [(4, bp b2 0)]) ⟨rfl, trivial⟩
   refine then_n ?_
   refine wp_ret ?_
   obtain rfl := sinj hm
   obtain ⟨g3, l3, S, h3⟩ : ∃ gz, Le g2 gz ∧ St gz [[(b4, .cells #[v2] 38 (0, 0))], [(b3, .cells #[v2, .int .i64 x6, .bool x7] 91 (0, 0))], [(b2, .cells #[v2] 38 (0, 0))]] fr w ∧ RepSl gz x5 v2 := ⟨_, Le.add _ _, S.freeze 3 rfl, OwnN.freeze (S.front 3 rfl) h2⟩
   refine post_r (fn := Try.f59) (rs := [.cell 4 38]) [.agg #[v2]] F rfl (ar_cons (resA rfl tu38 rfl ts38 (box_ptr (cells := [v2]) 2 rfl 0 rfl (lb rfl) w S)) ar_nil) ?_
   replace S : St g3 [] fr w := St.tail [] _ S
   exact ⟨_, rfl, g3, v2, ((l1.trans l2).trans l3), S, h3, rfl⟩
end Go.Dc
